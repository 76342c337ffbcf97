/- Of three logs that take pieces from one another only where they fit: if two have entries of one epoch at one number, all their entries up to there are the same (LinksMatch): for all moves. Conditions: none beyond the row's own. -/
import Derived.Test.YtobfolkcpfaplaaRows
import Derived.Test.YtobfolkcpfaplaaLink17
import Derived.Test.YtobfolkcpfaplaaOpen
namespace Go.Proofs.Ytobfolkcpfaplaa.linksMatch
open Go.ChangeShapes Go.WideShapes Go.ChangeAt Go.RowKit Kit
open Go.ChangeMaps (open_string shut_string)
set_option linter.unusedVariables false
theorem own : ownKnob Try.prog.godebug = none := by kernel_rfl
theorem laid : laidOutB Try.prog = true := by kernel_rfl
set_option maxRecDepth 100000 in
theorem reads : ∀ t ∈ [79], Try.prog.readableRec t = true ∧ t < Try.prog.types.size := by
  have h : ([79] : List Nat).all (fun t => Try.prog.readableRec t && decide (t < Try.prog.types.size)) = true := by kernel_rfl
  intro t ht
  have := List.all_eq_true.1 h t ht
  simpa using this
set_option maxRecDepth 100000 in
theorem lifted (os : Os) (started : os.Started) (H : Type) (enc : TypeId × Value → H) :
    ReturnsInHanded {} Try.checked os 8 .any (Rows.linksMatchSpec.pre6 enc Try.prog Try.f8 Rows.linksMatchRow.domain false) (Rows.linksMatchSpec.post enc Try.prog Try.f8 false true false false) := by
  refine returnsInHanded_of_change_sized (C := Try.checked) own started (by kernel_rfl) Try.func8
    (ChangeSpec.witness6 (enc := enc) (C := Try.checked) false ⟨#[], #[.slice none 0 0], []⟩ 8 (by kernel_rfl) (by kernel_rfl) (by kernel_rfl) (by kernel_rfl)) ?_
  intro W base args ds gs before hval0 hW hcnd hsz0 _
  have hval : ∀ (j : Nat) t v, Try.f8.params[j]? = some t → args[j]? = some v → Value.okWide Try.prog W .any base t v := hval0
  have hW' := hW
  obtain ⟨p, q, hA0, hV, rfl, hfz, hnd⟩ := hW
  have hA : DataW.TrodAll enc Try.prog W 0 (fun _ => true) true Try.f8.params.toList args.toList ds p := hA0
  rw [Try.params8] at hA hval
  have hA1 := hA
  obtain ⟨v0, vs0, d0, ds0, p0, q0, hargs, rfl, rfl, h0, r0⟩ := trodAll_cons hA
  obtain ⟨rfl, rfl, rfl⟩ := trodAll_nil r0
  obtain rfl : args = #[v0] := by cases args; simp_all
  obtain ⟨rfl, rfl⟩ := trodVars_none hV
  have hb0 : base = 0 ∨ True := .inr trivial
  have hlt := fun x hx => hW'.lt x hx
  obtain ⟨l0, hl0⟩ := open_rsl (Rep.mv) Try.underlying79 (by kernel_rfl) (el_mv) h0 (hval 0 79 v0 rfl rfl)
  refine (linksMatch_walk v0 l0 W hl0).mono fun e W' ⟨he, upd⟩ => ?_
  subst he
  have bel : Below W.heap.size W W' := upd.below (fun _ _ h => h)
  exact ⟨_, rfl, _, _, _, [], _, [], hW', trodAll_mk1 (shut_bool Try.underlying4 _), trodAll_below laid reads hA1 bel (fun x hx => hlt x (by first | (simp at hx; done) | simpa using hx)), rfl, bel.frame _, fun h => by cases h⟩
theorem over : Rows.linksMatchRow.holds Try.pinned (OpenSpec.ofChange Rows.linksMatchSpec) :=
  OpenClaim.holds_of_wide 8 Try.f8 rfl rfl rfl rfl rfl rfl rfl ⟨rfl, rfl, rfl, rfl, rfl⟩ rfl rfl rfl rfl rfl (by kernel_rfl) Try.func8 (by kernel_rfl)
    (of_decide_eq_true (by kernel_rfl)) (by unfold Func.isWrapper; first | (rw [if_pos (by decide +kernel)]; kernel_rfl) | (rw [if_neg (by decide +kernel)]; exact ⟨rfl, rfl⟩))
    (fun os started H enc _ => lifted os started H enc)
end Go.Proofs.Ytobfolkcpfaplaa.linksMatch
namespace Go.Proofs.Ytobfolkcpfaplaa
theorem linksMatch_holds : Rows.LinksMatchSaid := linksMatch.over
#print axioms linksMatch_holds
end Go.Proofs.Ytobfolkcpfaplaa
