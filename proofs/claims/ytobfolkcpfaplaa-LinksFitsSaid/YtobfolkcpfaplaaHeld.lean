/- Slices that a long-lived object owns: new blocks but for some that are told apart. No program in sight. -/
import Derived.Test.YtobfolkcpfaplaaMine
namespace Go.Proofs.Ytobfolkcpfaplaa.Kit
open Go.RowKit
set_option linter.unusedVariables false
/-- All blocks that were made since w0, but xs. -/
def New (w0 w : World) (xs : List Nat) : Nat → Prop := fun b => w0.heap.size ≤ b ∧ b < w.heap.size ∧ b ∉ xs
theorem New.bd (w0 w : World) (xs : List Nat) : Bd (New w0 w xs) w := fun b h => h.2.1
section
variable {α : Type} {r : Rep α} {e : TypeId} {w0 w w' w1 : World} {v v1 : Value} {l l' : List α} {xs : List Nat}
theorem OSl.new_keep {F : Nat → Prop} (h : OSl r e w (New w0 w xs) v l) (u : Upd F w w') (hf : ∀ b, F b → b ∈ xs ∨ b < w0.heap.size) : OSl r e w' (New w0 w' xs) v l :=
  h.keep (fun b hb hl => ⟨⟨hb.1, Nat.lt_of_lt_of_le hb.2.1 u.size, hb.2.2⟩, u.block b hl (fun f => (hf b f).elim hb.2.2 (fun h => by have := hb.1; omega))⟩) (fun b hb => ⟨hb.1, Nat.lt_of_lt_of_le hb.2.1 u.size, hb.2.2⟩)
theorem OSl.new_app (h : OSl r e w1 (grow (New w0 w xs) w w1) v1 l') (h0 : w0.heap.size ≤ w.heap.size) (hxs : ∀ x ∈ xs, x < w.heap.size) : OSl r e w1 (New w0 w1 xs) v1 l' :=
  h.mono (fun b hb => by
    rcases hb.1 with h1 | h1
    · exact ⟨h1.1, hb.2, h1.2.2⟩
    · exact ⟨Nat.le_trans h0 h1, hb.2, fun hm => by have := hxs b hm; omega⟩)
theorem OSl.new_own (h : OSl r e w (New w0 w xs) v l) (k : Nat) (hk : v.ownBlock = some k) : w0.heap.size ≤ k ∧ k < w.heap.size ∧ k ∉ xs := by
  obtain ⟨_, _, hset, _⟩ := h
  exact hset k hk
/-- What a step turns, seen from w0. -/
theorem Upd.new {F : Nat → Prop} (h : Upd NoB w0 w) (u : Upd F w w') (hf : ∀ b, F b → w0.heap.size ≤ b) : Upd NoB w0 w' := h.then u (fun i hi e => by have := hf i e; omega)
end
end Go.Proofs.Ytobfolkcpfaplaa.Kit
