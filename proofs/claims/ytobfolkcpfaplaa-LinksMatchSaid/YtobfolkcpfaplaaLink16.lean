/- LinksMatch: what happens, as it is handed in; the plain law of a move. -/
import Derived.Test.YtobfolkcpfaplaaLink15
import Derived.Test.YtobfolkcpfaplaaOpen2
namespace Go.Proofs.Ytobfolkcpfaplaa
open Go.RowKit Go.ChangeShapes Go.WideShapes Kit
set_option linter.unusedVariables false

/-- What happens. -/
structure Mv where
  kd : Int
  a : Int
  b : Int
  pv : Int
  mo : Int
def mvC (x : Mv) : List Value := [.int .i64 x.kd, .int .i64 x.a, .int .i64 x.b, .int .i64 x.pv, .int .i64 x.mo]
def Rep.mv : Rep Mv where
  sz := 5
  pos := by decide
  rep _ _ x cs := cs = mvC x
  len h := by rw [h]; rfl
  one h := by rw [h]; intro u hu; simp [mvC] at hu; rcases hu with rfl | rfl | rfl | rfl | rfl <;> rfl
  keep h _ _ := h
set_option maxRecDepth 100000 in
theorem el_mv {H : Type} {enc : TypeId × Value → H} {W : World} (n : Nat) (cs : List Value) (x : DataW H × List MemPlace) (h : DataW.trod enc Try.prog W 0 (fun _ => true) true n 82 cs = some x) :
    ∃ y, Rep.mv.rep W (Old W) y cs := by
  obtain ⟨xs, m, _, _, hl, hlen, hf⟩ := DataW.trod_struct Try.underlying82 h
  have hl' : cs.length = 5 := by rw [hl]; kernel_rfl
  match cs, hl' with
  | [c0, c1, c2, c3, c4], _ =>
    match xs, hlen with
    | [y0, y1, y2, y3, y4], _ =>
      have f0 := hf 0 _ rfl
      have f1 := hf 1 _ rfl
      have f2 := hf 2 _ rfl
      have f3 := hf 3 _ rfl
      have f4 := hf 4 _ rfl
      have q0 : Try.prog.cellsOf 3 = 1 := by kernel_rfl
      obtain ⟨a, e0, _, _⟩ := DataW.trod_int Try.underlying3 f0
      obtain ⟨b, e1, _, _⟩ := DataW.trod_int Try.underlying3 f1
      obtain ⟨c, e2, _, _⟩ := DataW.trod_int Try.underlying3 f2
      obtain ⟨d, e3, _, _⟩ := DataW.trod_int Try.underlying3 f3
      obtain ⟨e, e4, _, _⟩ := DataW.trod_int Try.underlying3 f4
      refine ⟨⟨a, b, c, d, e⟩, ?_⟩
      simp at e0 e1 e2 e3 e4
      rw [q0] at e0 e1 e2 e3 e4
      simp at e0 e1 e2 e3 e4
      show _ = mvC _
      rw [e0, e1, e2, e3, e4]
      rfl
theorem mv_cells {x : World} {b : Nat} {T : TypeId} {fr : Nat × Nat} {c0 c1 c2 c3 c4 : Value} (h : x.heap[b]? = some (.cells #[c0, c1, c2, c3, c4] T fr)) :
    x.cell? ⟨b, 0, none⟩ = some c0 ∧ x.cell? ⟨b, 1, none⟩ = some c1 ∧ x.cell? ⟨b, 2, none⟩ = some c2 ∧ x.cell? ⟨b, 3, none⟩ = some c3 ∧ x.cell? ⟨b, 4, none⟩ = some c4 := by
  refine ⟨?_, ?_, ?_, ?_, ?_⟩ <;> simp only [World.cell?, h] <;> rfl
/-- A log that has taken a piece of another one: still an invariant; not longer than both. -/
theorem Inv.took {ld : Nat} {E : Int} {L : Nat → List Fin} (h : Inv ld E L) {i : Nat} (hi : i ≠ ld) (b a : Nat) (most : Int) (ha : a ≤ (L b).length) {k : Nat} (hk : ∀ j, (L j).length ≤ k) :
    Inv ld E (updL L i (takeL (L i) a (epL (L b) a) (fromL (L b) a most))) ∧ ∀ j, (updL L i (takeL (L i) a (epL (L b) a) (fromL (L b) a most)) j).length ≤ k := by
  rcases takeL_eq (L i) (L b) a most ha (h.mt i b) (fun t x hx => (h.pos b t x hx).1) with e | ⟨m, e⟩
  · rw [e, updL_self]
    exact ⟨h, hk⟩
  · rw [e]
    refine ⟨h.pre hi b m, fun j => ?_⟩
    unfold updL
    split
    · have := hk b; rw [List.length_take]; omega
    · exact hk j
theorem updL_len {L : Nat → List Fin} {k : Nat} (hk : ∀ j, (L j).length ≤ k) (i : Nat) (x : Fin) : ∀ j, (updL L i (L i ++ [x]) j).length ≤ k + 1 := by
  intro j
  unfold updL
  split
  · have := hk i; simp; omega
  · have := hk j; omega
theorem Inv.last {ld : Nat} {E : Int} {L : Nat → List Fin} (h : Inv ld E L) (hE : 0 < E) (j : Nat) : epL (L j) (L j).length ≤ E := by
  by_cases h0 : (L j).length = 0
  · unfold epL
    rw [if_neg (by omega)]
    omega
  · have hlt : (L j).length - 1 < (L j).length := by omega
    have e := epL_at hlt
    rw [show (((L j).length - 1 : Nat) : Int) + 1 = ((L j).length : Int) by omega] at e
    rw [e]
    exact (h.pos j _ _ (List.getElem?_eq_getElem hlt)).2.2
/-- All that is carried from move to move. -/
structure Mst (w0 w : World) (P : Nat → Nat) (k : Nat) (ld : Nat) (E sq : Int) (V : Nat → Value) (L : Nat → List Fin) : Prop where
  ldlt : ld < 3
  e0 : 0 < E
  e1 : E ≤ k + 1
  s0 : 0 ≤ sq
  s1 : sq ≤ k
  len : ∀ j, (L j).length ≤ k
  inv : Inv ld E L
  t3 : T3 w0 w P V L
  upd : Upd (FP P) w0 w
theorem Mst.keep {w0 w w' : World} {P : Nat → Nat} {k ld : Nat} {E sq : Int} {V : Nat → Value} {L : Nat → List Fin} (h : Mst w0 w P k ld E sq V L) (u : Upd NoB w w') : Mst w0 w' P k ld E sq V L :=
  ⟨h.ldlt, h.e0, h.e1, h.s0, h.s1, h.len, h.inv, h.t3.upd u, h.upd.then u (fun _ _ h => h.elim)⟩
theorem Mst.next {w0 w : World} {P : Nat → Nat} {k ld : Nat} {E sq : Int} {V : Nat → Value} {L : Nat → List Fin} (h : Mst w0 w P k ld E sq V L) : Mst w0 w P (k + 1) ld E sq V L :=
  ⟨h.ldlt, h.e0, by have := h.e1; omega, h.s0, by have := h.s1; omega, fun j => by have := h.len j; omega, h.inv, h.t3, h.upd⟩
theorem Mst.epoch {w0 w : World} {P : Nat → Nat} {k ld : Nat} {E sq : Int} {V : Nat → Value} {L : Nat → List Fin} (h : Mst w0 w P k ld E sq V L) (ld' : Nat) (hl : ld' < 3) : Mst w0 w P (k + 1) ld' (E + 1) sq V L :=
  ⟨hl, by have := h.e0; omega, by have := h.e1; omega, h.s0, by have := h.s1; omega, fun j => by have := h.len j; omega, h.inv.epoch ld', h.t3, h.upd⟩
theorem Mst.add {w0 w : World} {P : Nat → Nat} {k ld : Nat} {E sq : Int} {V : Nat → Value} {L : Nat → List Fin} (h : Mst w0 w P k ld E sq V L) (hk : k < 100) :
    Calls Try.prog 37 #[.pointer (some ⟨P ld, 0, none⟩), finV E (sq + 1)] w fun e w' => e = .returned (.int .i64 0) ∧ ∃ V' L', Mst w0 w' P (k + 1) ld E (sq + 1) V' L' := by
  have hs := h.s0
  have hs1 := h.s1
  have he1 := h.e1
  refine (addT_any h.t3 ld h.ldlt E (sq + 1) h.e0 (by omega) (h.inv.last h.e0 ld) (by have := h.len ld; omega)).mono ?_
  rintro e w' ⟨rfl, ⟨V', h1⟩, h2⟩
  exact ⟨rfl, V', _, h.ldlt, h.e0, by omega, by omega, by omega, updL_len h.len _ _, h.inv.add h.e0 (sq + 1) (by omega), h1, fp_then h.upd h2⟩
theorem Mst.take {w0 w : World} {P : Nat → Nat} {k ld : Nat} {E sq : Int} {V : Nat → Value} {L : Nat → List Fin} (h : Mst w0 w P k ld E sq V L) (hk : k < 100) (i b : Nat) (hi : i < 3) (hb : b < 3) (hne : i ≠ ld) (a : Nat) (most : Int) (ha : a ≤ (L b).length)
    (v : Value) (w1 : World) (hu : Upd NoB w w1) (ho : OSl Rep.fin 65 w1 (fun k => v.ownBlock = some k) v (fromL (L b) a most)) (hv : ∀ k, v.ownBlock = some k → w.heap.size ≤ k ∧ k < w1.heap.size) :
    Calls Try.prog 39 #[.pointer (some ⟨P i, 0, none⟩), .int .i64 a, .int .u64 (epL (L b) a), v] w1 fun e w' => e = .returned (.tuple #[]) ∧ (∃ V' L', Mst w0 w' P (k + 1) ld E sq V' L') ∧ Upd (FQ w0 P) w1 w' := by
  obtain ⟨i1, i2⟩ := h.inv.took hne b a most ha h.len
  refine (takeT_any (h.t3.upd hu) i b hi hb a most v ho (fun t ht => ⟨(hv t ht).2, fun j hj e => ?_, fun j hj e => ?_⟩) ha (h.inv.mt i b) (fun j => by have := h.len j; omega) (h.inv.rise b) (fun t x hx => ⟨(h.inv.pos b t x hx).1, (h.inv.pos b t x hx).2.1⟩)).mono ?_
  · have h1 := (hv t ht).1
    have h2 := lt_of_heap (h.t3.cell j hj)
    omega
  · have h1 := (hv t ht).1
    have h2 := (h.t3.newV j t hj e).2
    omega
  rintro e w' ⟨rfl, ⟨V', h1⟩, h2⟩
  have m := (h.keep hu).next
  exact ⟨rfl, ⟨V', _, m.ldlt, m.e0, m.e1, m.s0, m.s1, fun j => Nat.le_succ_of_le (i2 j), i1, h1, fp_then (h.keep hu).upd h2⟩, h2⟩
theorem Mst.matched {w0 w : World} {P : Nat → Nat} {k ld : Nat} {E sq : Int} {V : Nat → Value} {L : Nat → List Fin} (h : Mst w0 w P k ld E sq V L) (hk : k < 101) (i j : Nat) (hi : i < 3) (hj : j < 3) :
    Calls Try.prog 42 #[.pointer (some ⟨P i, 0, none⟩), .pointer (some ⟨P j, 0, none⟩)] w fun e w' => e = .returned (.bool true) ∧ Upd NoB w w' :=
  matched_any w0 _ _ (P i) (P j) (L i) (L j) w (h.t3.log i hi [] (fun _ _ h => by cases h)) (h.t3.log j hj [] (fun _ _ h => by cases h)) (h.inv.mt i j) (by have := h.len i; omega) (by have := h.len j; omega)
theorem Mst.log {w0 w : World} {P : Nat → Nat} {k ld : Nat} {E sq : Int} {V : Nat → Value} {L : Nat → List Fin} (h : Mst w0 w P k ld E sq V L) (i : Nat) (hi : i < 3) : Ll w0 w (keepL P V i []) (P i) (L i) :=
  h.t3.log i hi [] (fun _ _ h => by cases h)
/-- The start: three logs with nothing. -/
theorem Mst.start {w0 : World} {P : Nat → Nat} (hc : ∀ i, i < 3 → ∀ w1 xs, ∃ v, w0.heap[P i]? = some (.cells #[v] 114 (0, 0)) ∧ OSl Rep.fin 65 w0 (New w1 w0 xs) v []) (hne : ∀ i j, i < 3 → j < 3 → i ≠ j → P i ≠ P j) : ∃ V, Mst w0 w0 P 0 0 1 0 V (fun _ => []) := by
  have key : ∀ i, ∃ v, i < 3 → w0.heap[P i]? = some (.cells #[v] 114 (0, 0)) ∧ OSl Rep.fin 65 w0 (New w0 w0 []) v [] := by
    intro i
    by_cases hi : i < 3
    · obtain ⟨v, h⟩ := hc i hi w0 []
      exact ⟨v, fun _ => h⟩
    · exact ⟨.bool false, fun h => absurd h hi⟩
  obtain ⟨V, hV⟩ := Classical.axiomOfChoice key
  have hno : ∀ i b, i < 3 → (V i).ownBlock = some b → False := fun i b hi hb => by
    have := (hV i hi).2.new_own b hb
    omega
  refine ⟨V, ⟨by decide, by decide, by decide, by decide, by decide, fun _ => by simp, Inv.start 0 1, ⟨fun i hi => (hV i hi).1, fun i hi => OSl.self (hV i hi).2, fun i b hi hb => (hno i b hi hb).elim, hne, fun i j b hi hj hb => (hno i b hi hb).elim, fun i j b hi hj _ hb => (hno i b hi hb).elim, Nat.le_refl _⟩, Upd.refl _ _⟩⟩
end Go.Proofs.Ytobfolkcpfaplaa
