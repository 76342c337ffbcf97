/- Slots: the laws' walks over their arguments. -/
import Derived.Test.YtmcpcladjfddmaaSessPlays
import Derived.Test.YtmcpcladjfddmaaSessOnce
namespace Go.Proofs.Ytmcpcladjfddmaa
open Go.RowKit Kit
set_option linter.unusedVariables false
theorem sessionPlays_walk2 (v : Value) (ops : List Sop) (cs : Array Value) (y : Idr) (w : World) (h : RSl Rep.sop w (Old w) v ops) (hy : Rep.idr.rep w (Old w) y cs.toList) :
    Calls Try.prog 7 #[v, .agg cs] w fun e w' => e = .returned (.bool true) ∧ Upd NoB w w' := by
  obtain ⟨rfl, hc⟩ := idr_agg hy
  exact sessionPlays_walk v ops y.cl y.sq w h hc
theorem sessionOnce_walk2 (v : Value) (ops : List Sop) (cs : Array Value) (y : Idr) (a c : Int) (w : World) (h : RSl Rep.sop w (Old w) v ops) (hy : Rep.idr.rep w (Old w) y cs.toList) :
    Calls Try.prog 9 #[v, .agg cs, .int .i64 a, .int .i64 c] w fun e w' => e = .returned (.bool true) ∧ Upd NoB w w' := by
  obtain ⟨rfl, hc⟩ := idr_agg hy
  exact sessionOnce_walk v ops y.cl y.sq a c w h hc
end Go.Proofs.Ytmcpcladjfddmaa
