/- Whether a piece fits, and how many of it are there already, is as the chapter says (LinksFits): for all calls, all numbers, all epochs. Conditions: none beyond the row's own. -/
import Derived.Test.YtobfolkcpfaplaaRows
import Derived.Test.YtobfolkcpfaplaaEnt24
import Derived.Test.YtobfolkcpfaplaaOpen
namespace Go.Proofs.Ytobfolkcpfaplaa.linksFits
open Go.ChangeShapes Go.WideShapes Go.ChangeAt Go.RowKit Kit
open Go.ChangeMaps (open_string shut_string)
set_option linter.unusedVariables false
theorem own : ownKnob Try.prog.godebug = none := by kernel_rfl
theorem laid : laidOutB Try.prog = true := by kernel_rfl
set_option maxRecDepth 100000 in
theorem reads : ∀ t ∈ [52, 3, 29, 53], Try.prog.readableRec t = true ∧ t < Try.prog.types.size := by
  have h : ([52, 3, 29, 53] : List Nat).all (fun t => Try.prog.readableRec t && decide (t < Try.prog.types.size)) = true := by kernel_rfl
  intro t ht
  have := List.all_eq_true.1 h t ht
  simpa using this
set_option maxRecDepth 100000 in
theorem lifted (os : Os) (started : os.Started) (H : Type) (enc : TypeId × Value → H) :
    ReturnsInHanded {} Try.checked os 7 .any (Rows.linksFitsSpec.pre6 enc Try.prog Try.f7 Rows.linksFitsRow.domain false) (Rows.linksFitsSpec.post enc Try.prog Try.f7 false true false false) := by
  refine returnsInHanded_of_change_sized (C := Try.checked) own started (by kernel_rfl) Try.func7
    (ChangeSpec.witness6 (enc := enc) (C := Try.checked) false ⟨#[], #[.slice none 0 0, .int .i64 0, .int .u64 0, .slice none 0 0], []⟩ 8 (by kernel_rfl) (by kernel_rfl) (by kernel_rfl) (by kernel_rfl)) ?_
  intro W base args ds gs before hval0 hW hcnd hsz0 _
  have hval : ∀ (j : Nat) t v, Try.f7.params[j]? = some t → args[j]? = some v → Value.okWide Try.prog W .any base t v := hval0
  have hW' := hW
  obtain ⟨p, q, hA0, hV, rfl, hfz, hnd⟩ := hW
  have hA : DataW.TrodAll enc Try.prog W 0 (fun _ => true) true Try.f7.params.toList args.toList ds p := hA0
  rw [Try.params7] at hA hval
  have hA1 := hA
  obtain ⟨v0, vs0, d0, ds0, p0, q0, hargs, rfl, rfl, h0, r0⟩ := trodAll_cons hA
  obtain ⟨v1, vs1, d1, ds1, p1, q1, rfl, rfl, rfl, h1, r1⟩ := trodAll_cons r0
  obtain ⟨v2, vs2, d2, ds2, p2, q2, rfl, rfl, rfl, h2, r2⟩ := trodAll_cons r1
  obtain ⟨v3, vs3, d3, ds3, p3, q3, rfl, rfl, rfl, h3, r3⟩ := trodAll_cons r2
  obtain ⟨rfl, rfl, rfl⟩ := trodAll_nil r3
  obtain rfl : args = #[v0, v1, v2, v3] := by cases args; simp_all
  obtain ⟨rfl, rfl⟩ := trodVars_none hV
  have hb0 : base = 0 ∨ True := .inr trivial
  have hlt := fun x hx => hW'.lt x hx
  obtain ⟨l0, hl0⟩ := open_rsl (Rep.eop) Try.underlying52 (by kernel_rfl) (el_eop) h0 (hval 0 52 v0 rfl rfl)
  obtain ⟨a1, rfl, rfl, rfl, w1⟩ := open_int Try.underlying3 (hval 1 3 v1 rfl rfl) h1
  obtain ⟨a2, rfl, rfl, rfl, w2⟩ := open_int Try.underlying29 (hval 2 29 v2 rfl rfl) h2
  obtain ⟨l3, hl3⟩ := open_rsl (Rep.int .u64) Try.underlying53 (by kernel_rfl) (el_int Try.underlying29) h3 (hval 3 53 v3 rfl rfl)
  refine (linksFits_walk v0 v3 l0 a1 a2 l3 W hl0 hl3).mono fun e W' ⟨he, upd⟩ => ?_
  subst he
  have bel : Below W.heap.size W W' := upd.below (fun _ _ h => h)
  exact ⟨_, rfl, _, _, _, [], _, [], hW', trodAll_mk1 (shut_bool Try.underlying4 _), trodAll_below laid reads hA1 bel (fun x hx => hlt x (by first | (simp at hx; done) | simpa using hx)), rfl, bel.frame _, fun h => by cases h⟩
theorem over : Rows.linksFitsRow.holds Try.pinned (OpenSpec.ofChange Rows.linksFitsSpec) :=
  OpenClaim.holds_of_wide 7 Try.f7 rfl rfl rfl rfl rfl rfl rfl ⟨rfl, rfl, rfl, rfl, rfl⟩ rfl rfl rfl rfl rfl (by kernel_rfl) Try.func7 (by kernel_rfl)
    (of_decide_eq_true (by kernel_rfl)) (by unfold Func.isWrapper; first | (rw [if_pos (by decide +kernel)]; kernel_rfl) | (rw [if_neg (by decide +kernel)]; exact ⟨rfl, rfl⟩))
    (fun os started H enc _ => lifted os started H enc)
end Go.Proofs.Ytobfolkcpfaplaa.linksFits
namespace Go.Proofs.Ytobfolkcpfaplaa
theorem linksFits_holds : Rows.LinksFitsSaid := linksFits.over
#print axioms linksFits_holds
end Go.Proofs.Ytobfolkcpfaplaa
