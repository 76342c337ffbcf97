/- Regions that draw their order, walked once: what yields the same in every world that is still to come is taken first; what is left comes up alone. Over Derived/OrdersHeld. No program in sight. -/
import Derived.Test.YtobfolkcpfaplaaKit
import Derived.OrdersHeld
import Derived.Deep.RegionWith
namespace Go.Proofs.Ytobfolkcpfaplaa.Kit
open Go.RowKit
set_option linter.unusedVariables false
section
variable {P : Program} {ops : Array Oper} {Q : Exit → Act → World → Prop} {md : Region.Mode} {S S' : World → Prop}

theorem heldMono (hS : ∀ w, S' w → S w) : ∀ (fuel : Nat) (listed : Array Bool) (a : Act) (w : World), wpAnyH P md ops Q S' fuel listed a w → wpAnyH P md ops Q S fuel listed a w
  | 0, _, _, _, h => h
  | fuel + 1, _, _, _, h => ⟨h.1, fun i hi => wpOp_mono (fun _ _ h' => ⟨hS _ h'.1, heldMono hS fuel _ _ _ h'.2⟩) (h.2 i hi)⟩

/-- What is still to be shown: the region from here on, all worlds to come being this one, grown, with nothing turned but in F. -/
def Sched (P : Program) (ops : Array Oper) (Q : Exit → Act → World → Prop) (F : Nat → Prop) (fuel : Nat) (listed : Array Bool) (a : Act) (w : World) : Prop :=
  wpAnyH P .any ops Q (fun x => Upd F w x) fuel listed a w

variable {F : Nat → Prop} {fuel : Nat} {listed : Array Bool} {a : Act} {w : World}
theorem sched_begin {id : Nat} (F : Nat → Prop) (hm : P.follows .mixedOrders = true) (h : Sched P ops Q F ops.size (Array.replicate ops.size false) a w.drew) : (Code.region id ops true).wp P Q a w :=
  wp_region_held hm h
/-- An operation that yields its value in every world to come. -/
theorem sched_take (i : Nat) {oi : Oper} {v : Value} (hi : ops[i]? = some oi) (hs : Region.noSelect ops = true) (hf : Region.free .any ops listed i = true) (hr : (Region.ready .any ops listed).contains i = true)
    (hQ : ∀ c a w, Q (.panic c) (a.put oi.dst v) w → Q (.panic c) a w) (hw : Region.wanted oi (yielded ops a.tmps) = true) (hy : ∀ x, Upd F w x → (execOp a.eval oi).run P x = .ok (.value v) x)
    (h : Sched P ops Q F fuel (listed.setIfInBounds i true) (a.put oi.dst v) w) : Sched P ops Q F (fuel + 1) listed a w :=
  wpAnyH_take hi hs hf hr hQ (.inl ⟨hw, hy⟩) (Upd.refl _ _) h
/-- An operation whose guard says no. -/
theorem sched_skip (i : Nat) {oi : Oper} (hi : ops[i]? = some oi) (hs : Region.noSelect ops = true) (hf : Region.free .any ops listed i = true) (hr : (Region.ready .any ops listed).contains i = true)
    (hQ : ∀ c a w, Q (.panic c) (a.put oi.dst undef) w → Q (.panic c) a w) (hw : Region.wanted oi (yielded ops a.tmps) = false)
    (h : Sched P ops Q F fuel (listed.setIfInBounds i true) (a.put oi.dst undef) w) : Sched P ops Q F (fuel + 1) listed a w :=
  wpAnyH_take hi hs hf hr hQ (.inr ⟨hw, rfl⟩) (Upd.refl _ _) h
/-- The only operation that may come up. -/
theorem sched_alone (i : Nat) {oi : Oper} (hr : Region.ready .any ops listed = [i]) (hi : ops[i]? = some oi) (hw : Region.wanted oi (yielded ops a.tmps) = true)
    (h : oi.wp P a w (fun a' w' => Upd F w w' ∧ Sched P ops Q F fuel (listed.setIfInBounds i true) a' w') Q) : Sched P ops Q F (fuel + 1) listed a w := by
  refine wpAnyH_all hr (by simp) ?_
  intro j hj
  obtain rfl : j = i := by simpa using hj
  unfold wpOp
  simp only [hi]
  rw [if_pos hw]
  exact .inl (Oper.wp_mono (fun a' w' h' => ⟨h'.1, heldMono (fun x hx => h'.1.trans hx) _ _ _ _ h'.2⟩) h)
/-- What follows, and what else may end it. -/
def NormalIs (K : Act → World → Prop) (Q : Exit → Act → World → Prop) : Exit → Act → World → Prop
  | .normal => K
  | e => Q e
theorem wp_of_list {o : Oper} {K : Act → World → Prop} (hg : o.guard = none) (h : wpList P ops (NormalIs K Q) [o] a w) : o.wp P a w K Q ∨ (o.asks P a w ∧ LetsOut Q) := by
  unfold wpList at h
  rw [if_pos (by simp [Region.wanted, hg])] at h
  refine h.imp (fun h => ?_) (fun h => ⟨h.1, h.2⟩)
  unfold Oper.wp at *
  generalize (execOp a.eval o).run P w = r at *
  cases r with
  | ok n w' =>
    cases n <;> simp only [Oper.upon] at h ⊢
    case enter f args =>
      refine Calls.mono h fun e w'' he => ?_
      cases e <;> exact he
    all_goals exact h
  | halt x w' =>
    cases x <;> simp only [Oper.upon] at h ⊢
    all_goals exact h
/-- The only operation that may come up, by a law on lists of operations. -/
theorem sched_law (i : Nat) {oi : Oper} (hr : Region.ready .any ops listed = [i]) (hi : ops[i]? = some oi) (hg : oi.guard = none)
    (h : wpList P ops (NormalIs (fun a' w' => Upd F w w' ∧ Sched P ops Q F fuel (listed.setIfInBounds i true) a' w') Q) [oi] a w) : Sched P ops Q F (fuel + 1) listed a w := by
  refine wpAnyH_all hr (by simp) ?_
  intro j hj
  obtain rfl : j = i := by simpa using hj
  unfold wpOp
  simp only [hi]
  rw [if_pos (by simp [Region.wanted, hg])]
  exact (wp_of_list hg h).imp (fun h => Oper.wp_mono (fun a' w' h' => ⟨h'.1, heldMono (fun x hx => h'.1.trans hx) _ _ _ _ h'.2⟩) h) id
theorem law_done {K : Act → World → Prop} (h : K a w) : wpList P ops (NormalIs K Q) [] a w := h
theorem sched_done (hr : Region.ready .any ops listed = []) (h : Q .normal a w) : Sched P ops Q F fuel listed a w := wpAnyH_done hr h fuel
end
end Go.Proofs.Ytobfolkcpfaplaa.Kit
