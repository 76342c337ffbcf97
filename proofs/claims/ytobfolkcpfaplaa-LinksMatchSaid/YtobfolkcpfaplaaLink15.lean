/- What a log takes of another one's piece, three logs in one world. -/
import Derived.Test.YtobfolkcpfaplaaLink14
namespace Go.Proofs.Ytobfolkcpfaplaa
open Go.RowKit Kit
set_option linter.unusedVariables false
/-- A result that is a row of its own, by its own block alone. -/
theorem Mine.self {w wr : World} {v : Value} {l : List Fin} {e : TypeId} (h : Mine Rep.fin e w wr v l) : OSl Rep.fin e wr (fun b => v.ownBlock = some b) v l ∧ ∀ b, v.ownBlock = some b → w.heap.size ≤ b ∧ b < wr.heap.size := by
  refine ⟨OSl.self h.1, fun b hb => ?_⟩
  obtain ⟨cs, h1, h2, h3⟩ := h.1
  have := h2 b hb
  exact ⟨this.1.resolve_left (fun h => h), this.2⟩
/-- The three logs' own blocks. -/
def FP (P : Nat → Nat) : Nat → Prop := fun b => ∃ j, j < 3 ∧ b = P j
/-- What a step may turn. -/
def FQ (w0 : World) (P : Nat → Nat) : Nat → Prop := fun b => FP P b ∨ w0.heap.size ≤ b
theorem fp_then {w0 w w' : World} {P : Nat → Nat} (h : Upd (FP P) w0 w) (u : Upd (FQ w0 P) w w') : Upd (FP P) w0 w' :=
  h.then u (fun k hk e => e.elim id (fun e => by omega))
theorem fq_of {w0 w w' : World} {P : Nat → Nat} {i : Nat} (hi : i < 3) {xs : List Nat} (u : Upd (fun b => b = P i ∨ New w0 w xs b) w w') : Upd (FQ w0 P) w w' :=
  u.mono (fun k hk e => e.elim (fun e => .inl ⟨i, hi, e⟩) (fun e => .inr e.1))
theorem updL_self (L : Nat → List Fin) (i : Nat) : updL L i (L i) = L := by
  funext j
  unfold updL
  split
  · rename_i e; rw [e]
  · rfl
section
variable {w0 w : World} {P : Nat → Nat} {V : Nat → Value} {L : Nat → List Fin}
theorem keep_lt (h : T3 w0 w P V L) (i : Nat) {ys : List Nat} (hy : ∀ b ∈ ys, b < w.heap.size) : ∀ x ∈ keepL P V i ys, x < w.heap.size := by
  intro x hx
  rcases mem_keepL.1 hx with ⟨j, hj, rfl⟩ | ⟨j, hj, _, hb⟩ | hb
  · exact lt_of_heap (h.cell j hj)
  · exact (h.newV j x hj hb).2
  · exact hy x hb
theorem addT_any (h : T3 w0 w P V L) (i : Nat) (hi : i < 3) (ep sq : Int) (he : 0 < ep) (hs : 0 < sq) (hle : epL (L i) (L i).length ≤ ep) (hl : (L i).length < 400) :
    Calls Try.prog 37 #[.pointer (some ⟨P i, 0, none⟩), finV ep sq] w fun e w' => e = .returned (.int .i64 0) ∧ (∃ V', T3 w0 w' P V' (updL L i (L i ++ [⟨ep, sq⟩]))) ∧ Upd (FQ w0 P) w w' := by
  refine (add_any w0 (keepL P V i []) (P i) (L i) ep sq w (h.log i hi [] (fun _ _ h => by cases h)) he hs hle hl (mem_keepL.2 (.inl ⟨i, hi, rfl⟩)) (keep_lt h i (fun _ h => by cases h)) h.size).mono ?_
  rintro e w' ⟨rfl, h1, h2⟩
  exact ⟨rfl, h.step i hi [] h1 h2, fq_of hi h2⟩
theorem take_all {A B : List Fin} {a n : Nat} {most : Int} (ha : a ≤ B.length) (hM : Mtch A B) (hf : fitB A a (epL B a) = true) (hn : sameN A a (fromL B a most) = n) : A.take (a + n) = B.take (a + n) ∧ ∃ M, fromL B a most = (B.drop a).take M := by
  have hnn := hn
  simp only [fitB, Bool.and_eq_true, decide_eq_true_eq, beq_iff_eq] at hf
  obtain ⟨_, hal, hep⟩ := hf
  have hal' : a ≤ A.length := by omega
  have hq : ∃ M, fromL B a most = (B.drop a).take M := by
    unfold fromL
    split
    · exact ⟨0, by simp⟩
    · exact ⟨most.toNat, by simp⟩
  refine ⟨?_, hq⟩
  obtain ⟨M, hq⟩ := hq
  rw [hq] at hnn
  have hpre : A.take a = B.take a := by
    cases a with
    | zero => simp
    | succ k =>
      have hkA : k < A.length := by omega
      have hkB : k < B.length := by omega
      have e1 := epL_at hkA
      have e2 := epL_at hkB
      have : ((k + 1 : Nat) : Int) = (k : Int) + 1 := by omega
      rw [this, e1, e2] at hep
      exact hM k _ _ (List.getElem?_eq_getElem hkA) (List.getElem?_eq_getElem hkB) hep
  cases n with
  | zero => simpa using hpre
  | succ k =>
    unfold sameN at hnn
    rw [if_neg (by omega), show (a : Int).toNat = a by omega] at hnn
    obtain ⟨x, y, hx, hy, he⟩ := sameC_ep (A.drop a) ((B.drop a).take M) k (by omega)
    rw [List.getElem?_drop] at hx
    rw [List.getElem?_take] at hy
    split at hy
    · rw [List.getElem?_drop] at hy
      exact hM (a + k) x y hx hy he
    · cases hy
theorem fromL_len (l : List Fin) (a : Nat) (most : Int) : (fromL l a most).length ≤ l.length := by
  unfold fromL
  split
  · simp
  · rw [List.length_take, List.length_drop]; omega
/-- The log i takes a piece of the log b. -/
theorem takeT_any (h : T3 w0 w P V L) (i b : Nat) (hi : i < 3) (hb : b < 3) (a : Nat) (most : Int) (v : Value) (ho : OSl Rep.fin 65 w (fun k => v.ownBlock = some k) v (fromL (L b) a most))
    (hv : ∀ k, v.ownBlock = some k → k < w.heap.size ∧ (∀ j, j < 3 → k ≠ P j) ∧ ∀ j, j < 3 → (V j).ownBlock ≠ some k) (ha : a ≤ (L b).length) (hM : Mtch (L i) (L b)) (hlen : ∀ j, (L j).length ≤ 100)
    (hrise : ∀ (k : Nat) (x y : Fin), (L b)[k]? = some x → (L b)[k + 1]? = some y → x.ep ≤ y.ep) (hpos : ∀ (k : Nat) (x : Fin), (L b)[k]? = some x → 0 < x.ep ∧ 0 < x.sq) :
    Calls Try.prog 39 #[.pointer (some ⟨P i, 0, none⟩), .int .i64 a, .int .u64 (epL (L b) a), v] w fun e w' => e = .returned (.tuple #[]) ∧ (∃ V', T3 w0 w' P V' (updL L i (takeL (L i) a (epL (L b) a) (fromL (L b) a most)))) ∧ Upd (FQ w0 P) w w' := by
  have hys : ∀ k, (V i).ownBlock = some k → k ∉ v.ownBlock.toList := fun k hk hm => (hv k (by simpa using hm)).2.2 i hi hk
  have hlog := h.log i hi v.ownBlock.toList hys
  have hli := hlen i
  have hlb := hlen b
  have hql := fromL_len (L b) a most
  unfold takeL
  cases hf : fitB (L i) a (epL (L b) a) with
  | false =>
    simp only [Bool.false_eq_true, if_false, updL_self]
    refine (take_no (S := NoB) w0 _ (P i) (L i) (fromL (L b) a most) v a _ w hlog (by omega) hf).mono ?_
    rintro e w' ⟨rfl, hu⟩
    exact ⟨rfl, ⟨V, h.upd hu⟩, hu.mono (fun _ _ h => h.elim)⟩
  | true =>
    simp only [if_true]
    by_cases hn : sameN (L i) a (fromL (L b) a most) < (fromL (L b) a most).length
    · rw [if_pos hn]
      obtain ⟨hall, M, hq⟩ := take_all ha hM hf rfl (n := sameN (L i) a (fromL (L b) a most)) (most := most)
      have hal : a ≤ (L i).length := by
        simp only [fitB, Bool.and_eq_true, decide_eq_true_eq, beq_iff_eq] at hf
        omega
      generalize hnn : sameN (L i) a (fromL (L b) a most) = n at *
      obtain ⟨p1, p2⟩ := take_prem (M := M) hall hrise hpos
      rw [← hq] at p1 p2
      refine (take_some (S := fun k => v.ownBlock = some k) w0 (keepL P V i v.ownBlock.toList) (P i) (L i) (fromL (L b) a most) v a n _ w hlog ho.read (fun k hk => ⟨mem_keepL.2 (.inr (.inr (by simpa using hk))), (hv k hk).2.1 i hi⟩) hf hnn hn hal (by omega) (by omega) p1 p2 (mem_keepL.2 (.inl ⟨i, hi, rfl⟩)) (keep_lt h i (fun k hk => (hv k (by simpa using hk)).1)) h.size).mono ?_
      rintro e w' ⟨rfl, h1, h2⟩
      exact ⟨rfl, h.step i hi _ h1 h2, fq_of hi h2⟩
    · rw [if_neg hn, updL_self]
      have hal : a ≤ (L i).length := by
        simp only [fitB, Bool.and_eq_true, decide_eq_true_eq, beq_iff_eq] at hf
        omega
      have := sameN_le (L i) a (fromL (L b) a most) hal
      refine (take_full w0 _ (P i) (L i) (fromL (L b) a most) v a _ w hlog ho.read hf (by omega) (by omega) (by omega)).mono ?_
      rintro e w' ⟨rfl, hu⟩
      exact ⟨rfl, ⟨V, h.upd hu⟩, hu.mono (fun _ _ h => h.elim)⟩
end
end Go.Proofs.Ytobfolkcpfaplaa
