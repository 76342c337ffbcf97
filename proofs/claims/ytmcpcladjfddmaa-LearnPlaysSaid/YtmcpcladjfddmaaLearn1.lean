/- A learner, function by function (1): one that is new; what it has. -/
import Derived.Test.YtmcpcladjfddmaaProg
import Derived.Test.YtmcpcladjfddmaaMine
import Derived.Test.YtmcpcladjfddmaaSched
import Derived.Lib.Hide
import Derived.ProofKit
namespace Go.Proofs.Ytmcpcladjfddmaa
open Go.RowKit Kit
set_option linter.unusedVariables false

/-- The cells of a learner that knows nothing. -/
def lrn0 : Array Value := ((List.replicate 400 [Value.string ⟨#[]⟩, Value.bool false]).flatten ++ [Value.int .i64 0, Value.int .i64 0]).toArray
set_option maxRecDepth 100000 in
theorem zero_lrn (w : World) : (zeroValue 73).run Try.prog w = .ok (.agg lrn0) w := by kernel_rfl

/-- What a learner knows: values by slots; how far it goes. -/
structure Ln where
  f : Nat → Option ByteArray
  pre : Nat
  top : Nat
def Ln.new : Ln := ⟨fun _ => none, 0, 0⟩
/-- At block p lies a learner. -/
def Lrn (w : World) (p : Nat) (m : Ln) : Prop :=
  ∃ cs : Array Value, w.heap[p]? = some (.cells cs 73 (0, 0)) ∧ (∀ k, k < 400 → cs[2 * k]? = some (.string ((m.f k).getD ⟨#[]⟩)) ∧ cs[2 * k + 1]? = some (.bool (m.f k).isSome)) ∧
    cs[800]? = some (.int .i64 m.pre) ∧ cs[801]? = some (.int .i64 m.top)
theorem lrn0_at (k : Nat) (h : k < 400) : lrn0[2 * k]? = some (.string ⟨#[]⟩) ∧ lrn0[2 * k + 1]? = some (.bool false) := by
  have key : ∀ (n : Nat) (t : List Value) (k : Nat), k < n → ((List.replicate n [Value.string ⟨#[]⟩, Value.bool false]).flatten ++ t)[2 * k]? = some (Value.string ⟨#[]⟩) ∧ ((List.replicate n [Value.string ⟨#[]⟩, Value.bool false]).flatten ++ t)[2 * k + 1]? = some (Value.bool false) := by
    intro n
    induction n with
    | zero => intro t k h; omega
    | succ n ih =>
      intro t k h
      rw [List.replicate_succ, List.flatten_cons]
      cases k with
      | zero => exact ⟨rfl, rfl⟩
      | succ k =>
        have := ih t k (by omega)
        rw [show 2 * (k + 1) = 2 * k + 2 by omega]
        exact this
  have := key 400 [Value.int .i64 0, Value.int .i64 0] k h
  unfold lrn0
  rw [List.getElem?_toArray, List.getElem?_toArray]
  exact this
theorem Lrn.keep {F : Nat → Prop} {w w' : World} {p : Nat} {m : Ln} (h : Lrn w p m) (u : Upd F w w') (hp : ¬ F p) : Lrn w' p m := by
  obtain ⟨cs, h1, h2⟩ := h
  exact ⟨cs, u.heap h1 hp, h2⟩
theorem Lrn.lt {w : World} {p : Nat} {m : Ln} (h : Lrn w p m) : p < w.heap.size := by
  obtain ⟨cs, h1, _⟩ := h
  exact lt_of_heap h1

set_option maxHeartbeats 1000000 in
set_option maxRecDepth 100000 in
theorem new_any (w : World) : Calls Try.prog 11 #[] w fun e w' => ∃ p, e = .returned (.pointer (some ⟨p, 0, none⟩)) ∧ w.heap.size ≤ p ∧ Lrn w' p Ln.new ∧ Upd NoB w w' := by
  have hz := zero_lrn
  have h1 : lrn0[800]? = some (.int .i64 0) ∧ lrn0[801]? = some (.int .i64 0) := ⟨by kernel_rfl, by kernel_rfl⟩
  have hat := lrn0_at
  generalize lrn0 = Z at *
  have fin := Lib.hid (show Lrn (w.alloc (.cells Z 73)) w.heap.size Ln.new from ⟨Z, heap_alloc_new _ _, fun k hk => hat k hk, h1.1, h1.2⟩)
  clear h1 hat
  go_enter Try.func11, Try.ntmps11
  go_wp2_with fail
  go_ret
  exact ⟨_, rfl, Nat.le_refl _, fin.out, (Upd.refl _ _).alloc _⟩
end Go.Proofs.Ytmcpcladjfddmaa
