/- What a call has made, and owns, so far; elements that are read. No program in sight. -/
import Derived.Test.YtcckljomjpfdaaaKit
namespace Go.Proofs.Ytcckljomjpfdaaa.Kit
open Go.RowKit
set_option linter.unusedVariables false
section
variable {α : Type} {r : Rep α} {e : TypeId} {w wr w2 : World} {v v1 : Value} {l l' : List α}
/-- A slice that was made since w; nothing that was there has turned. -/
def Mine (r : Rep α) (e : TypeId) (w wr : World) (v : Value) (l : List α) : Prop := OSl r e wr (grow NoB w wr) v l ∧ Upd NoB w wr
theorem Mine.app (h : Mine r e w wr v l) (ho : OSl r e w2 (grow (grow NoB w wr) wr w2) v1 l') (hu : Upd (fun b => v.ownBlock = some b) wr w2) : Mine r e w w2 v1 l' := by
  obtain ⟨h1, h2⟩ := h
  refine ⟨ho.mono (grow_new h2.size), h2.then hu fun i hi hown => ?_⟩
  obtain ⟨_, _, hset, _⟩ := h1
  have := (hset i hown).1.resolve_left (fun h => h)
  omega
theorem Mine.nil (w : World) (h : Upd NoB w wr) : Mine r e w wr (.slice none 0 0) ([] : List α) := ⟨OSl.nil e wr _, h⟩
theorem Mine.upd (h : Mine r e w wr v l) (hu : Upd NoB wr w2) : Mine r e w w2 v l :=
  ⟨(h.1.upd hu (fun _ _ h => h)).mono (fun b hb => ⟨hb.1, Nat.lt_of_lt_of_le hb.2 hu.size⟩), h.2.trans hu⟩
theorem Mine.bd (h : Mine r e w wr v l) : Bd (grow NoB w wr) wr := Bd.grow NoB w wr
/-- The element at a place of a slice whose elements are one cell wide. -/
theorem RSl.cell1 {S : Nat → Prop} (hsz : r.sz = 1) {A : Option Addr} {n c : Nat} (h : RSl r w S (.slice A n c) l) (i : Nat) (hi : i < l.length) :
    ∃ g o u, A = some ⟨g, o, none⟩ ∧ r.rep w S (l[i]'hi) [u] ∧ w.cell? ⟨g, o + i, none⟩ = some u ∧ S g := by
  obtain ⟨A', c', cs, e, h1, h2, h3, h4, h5⟩ := h
  cases e
  cases A with
  | none => have := h4 rfl; omega
  | some a =>
    obtain ⟨q1, q2, q3⟩ := h5 a rfl
    obtain ⟨g, o, sp⟩ := a
    simp only at q1
    subst q1
    obtain ⟨cc, hc1, hc2⟩ := Rows.at_ i (l[i]'hi) h3 (List.getElem?_eq_getElem hi)
    have hl := r.len hc1
    rw [hsz] at hl
    match cc, hl with
    | [u], _ =>
      refine ⟨g, o, u, rfl, hc1, ?_, q2⟩
      have := hc2 0 u rfl
      rw [hsz, Nat.mul_one, Nat.add_zero] at this
      exact q3 i u this
end
end Go.Proofs.Ytcckljomjpfdaaa.Kit
