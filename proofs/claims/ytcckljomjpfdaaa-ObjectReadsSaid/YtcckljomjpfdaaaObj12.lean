/- Versions (12): plain laws; a row's versions opened. -/
import Derived.Test.YtcckljomjpfdaaaObj11
import Derived.Test.YtcckljomjpfdaaaOpen
namespace Go.Proofs.Ytcckljomjpfdaaa
open Go.RowKit Kit
set_option linter.unusedVariables false

theorem el_rver {H : Type} {enc : TypeId × Value → H} {W : World} (n : Nat) (cs : List Value) (x : DataW H × List MemPlace) (h : DataW.trod enc Try.prog W 0 (fun _ => true) true n 62 cs = some x) :
    ∃ y, Rep.ver.rep W (Old W) y cs := by
  obtain ⟨xs, m, _, _, hl, hlen, hf⟩ := DataW.trod_struct Try.underlying62 h
  have hl' : cs.length = 4 := by rw [hl]; kernel_rfl
  match cs, hl' with
  | [c0, c1, c2, c3], _ =>
    match xs, hlen with
    | [y0, y1, y2, y3], _ =>
      have f0 := hf 0 _ rfl
      have f1 := hf 1 _ rfl
      have f2 := hf 2 _ rfl
      have f3 := hf 3 _ rfl
      obtain ⟨a, e0, _, w0⟩ := DataW.trod_int Try.underlying3 f0
      obtain ⟨b, e1, _, w1⟩ := DataW.trod_int Try.underlying48 f1
      obtain ⟨c, e2, _, w2⟩ := DataW.trod_string Try.underlying9 f2
      obtain ⟨d, e3, _⟩ := DataW.trod_bool Try.underlying4 f3
      have q0 : Try.prog.cellsOf 3 = 1 := by kernel_rfl
      have q1 : Try.prog.cellsOf 48 = 1 := by kernel_rfl
      have q2 : Try.prog.cellsOf 9 = 1 := by kernel_rfl
      have q3 : Try.prog.cellsOf 4 = 1 := by kernel_rfl
      have hb : 0 ≤ b ∧ b < 18446744073709551616 := by
        simp [Lit.wf, IntKind.min, IntKind.max, IntKind.signed, IntKind.bits] at w1
        omega
      refine ⟨⟨a, b.toNat, c, d⟩, ?_, w0, ?_, w2⟩
      · simp at e0 e1 e2 e3
        simp only [q0, q1, q2, q3] at e0 e1 e2 e3
        simp at e0 e1 e2 e3
        show [c0, c1, c2, c3] = [.int .i64 a, .int .u64 ((b.toNat : Nat) : Int), .string c, .bool d]
        rw [e0, e1, e2, e3, Int.toNat_of_nonneg hb.1]
      · show b.toNat < _; omega

theorem rgp_iff (l : List Ver) : ∀ n, rgp l n = true ↔ ∀ k, k < n → okAt l k = true
  | 0 => ⟨fun _ k h => absurd h (by omega), fun _ => rfl⟩
  | n + 1 => by
    unfold rgp
    rw [Bool.and_eq_true, rgp_iff l n]
    constructor
    · rintro ⟨h1, h2⟩ k hk
      by_cases e : k = n
      · subst e; exact h2
      · exact h1 k (by omega)
    · intro h
      exact ⟨fun k hk => h k (by omega), h n (by omega)⟩
theorem okAt_drop (l : List Ver) (d k : Nat) (h : okAt l (d + k) = true) : okAt (l.drop d) k = true := by
  cases e : l[d + k]? with
  | none => unfold okAt; rw [List.getElem?_drop, e]
  | some x =>
    cases k with
    | zero =>
      rw [okAt_zero _ x (by rw [List.getElem?_drop, e])]
      rw [Nat.add_zero] at e h
      cases d with
      | zero => rwa [okAt_zero l x e] at h
      | succ j =>
        have hlt := (List.getElem?_eq_some_iff.1 e).1
        rw [okAt_succ l j x l[j] e (List.getElem?_eq_getElem (by omega)), Bool.and_eq_true] at h
        exact h.1
    | succ j =>
      have hlt := (List.getElem?_eq_some_iff.1 e).1
      have e2 : l[d + j]? = some l[d + j] := List.getElem?_eq_getElem (by omega)
      rw [okAt_succ _ j x l[d + j] (by rw [List.getElem?_drop, e]) (by rw [List.getElem?_drop, e2])]
      rwa [← Nat.add_assoc, okAt_succ l (d + j) x l[d + j] e e2] at h
theorem rightB_drop (l : List Ver) (d : Nat) (h : rightB l = true) : rightB (l.drop d) = true := by
  unfold rightB at *
  rw [rgp_iff] at *
  intro k hk
  rw [List.length_drop] at hk
  exact okAt_drop l d k (h (d + k) (by omega))
theorem takeWhile_drop {α : Type} (p : α → Bool) : ∀ (l : List α) (d : Nat), d ≤ (l.takeWhile p).length → (l.drop d).takeWhile p = (l.takeWhile p).drop d
  | _, 0, _ => rfl
  | [], d + 1, h => by simp at h
  | x :: l, d + 1, h => by
    cases e : p x
    · rw [List.takeWhile_cons, e] at h; simp at h
    · rw [List.takeWhile_cons, e] at h ⊢
      simp at h ⊢
      exact takeWhile_drop p l d h
theorem uptoN_mono : ∀ (l : List Ver) {n m : Int}, n ≤ m → uptoN l n ≤ uptoN l m
  | [], _, _, _ => Nat.le_refl _
  | x :: l, n, m, h => by
    have := uptoN_mono l h
    unfold uptoN at *
    rw [List.takeWhile_cons, List.takeWhile_cons]
    by_cases e : x.at_ ≤ n
    · rw [decide_eq_true e, decide_eq_true (Int.le_trans e h)]; simp; omega
    · rw [decide_eq_false e]; simp
theorem readV_drop (l : List Ver) (n m : Int) (h : rightB l = true) (hnm : n ≤ m) : readV (l.drop (uptoN l n - 1)) m = readV l m := by
  have h1 := uptoN_mono l hnm
  have h2 : uptoN (l.drop (uptoN l n - 1)) m = uptoN l m - (uptoN l n - 1) := by
    have := takeWhile_drop (fun x : Ver => decide (x.at_ ≤ m)) l (uptoN l n - 1) (by show _ ≤ uptoN l m; omega)
    show ((l.drop (uptoN l n - 1)).takeWhile fun x : Ver => decide (x.at_ ≤ m)).length = _
    rw [this, List.length_drop]
    rfl
  unfold readV
  rw [if_pos h, if_pos (rightB_drop l _ h), h2]
  by_cases e : uptoN l m = 0
  · rw [if_pos e, if_pos (by omega)]
  · rw [if_neg e, if_neg (by omega), List.getElem?_drop]
    congr 1
    omega
theorem lastV_drop (l : List Ver) (n : Int) (h : rightB l = true) : lastV (l.drop (uptoN l n - 1)) = lastV l := by
  have h0 := uptoN_le l n
  unfold lastV
  rw [if_pos h, if_pos (rightB_drop l _ h), List.length_drop, List.getElem?_drop]
  by_cases e : l.length = 0
  · obtain rfl := List.eq_nil_of_length_eq_zero e
    rfl
  · congr 2
    omega
end Go.Proofs.Ytcckljomjpfdaaa
