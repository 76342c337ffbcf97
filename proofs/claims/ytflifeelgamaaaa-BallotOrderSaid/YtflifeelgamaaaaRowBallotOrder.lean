/- Which ballot is less, and which the greater one, is as the chapter says (BallotOrder): for all ballots. Conditions: none beyond the row's own. -/
import Derived.Test.YtflifeelgamaaaaRows
import Derived.Test.YtflifeelgamaaaaBord2
import Derived.Test.YtflifeelgamaaaaBallotOpen
import Derived.Test.YtflifeelgamaaaaOpen
namespace Go.Proofs.Ytflifeelgamaaaa.ballotOrder
open Go.ChangeShapes Go.WideShapes Go.ChangeAt Go.RowKit Kit
open Go.ChangeMaps (open_string shut_string)
set_option linter.unusedVariables false
theorem own : ownKnob Try.prog.godebug = none := by kernel_rfl
theorem laid : laidOutB Try.prog = true := by kernel_rfl
set_option maxRecDepth 100000 in
theorem reads : ∀ t ∈ [41, 41, 41], Try.prog.readableRec t = true ∧ t < Try.prog.types.size := by
  have h : ([41, 41, 41] : List Nat).all (fun t => Try.prog.readableRec t && decide (t < Try.prog.types.size)) = true := by kernel_rfl
  intro t ht
  have := List.all_eq_true.1 h t ht
  simpa using this
set_option maxRecDepth 100000 in
theorem lifted (os : Os) (started : os.Started) (H : Type) (enc : TypeId × Value → H) :
    ReturnsInHanded {} Try.checked os 7 .any (Rows.ballotOrderSpec.pre6 enc Try.prog Try.f7 Rows.ballotOrderRow.domain false) (Rows.ballotOrderSpec.post enc Try.prog Try.f7 false true false false) := by
  refine returnsInHanded_of_change_sized (C := Try.checked) own started (by kernel_rfl) Try.func7
    (ChangeSpec.witness6 (enc := enc) (C := Try.checked) false ⟨#[], #[.agg #[.int .u64 0, .int .i64 0], .agg #[.int .u64 0, .int .i64 0], .agg #[.int .u64 0, .int .i64 0]], []⟩ 8 (by kernel_rfl) (by kernel_rfl) (by kernel_rfl) (by kernel_rfl)) ?_
  intro W base args ds gs before hval0 hW hcnd hsz0 _
  have hval : ∀ (j : Nat) t v, Try.f7.params[j]? = some t → args[j]? = some v → Value.okWide Try.prog W .any base t v := hval0
  have hW' := hW
  obtain ⟨p, q, hA0, hV, rfl, hfz, hnd⟩ := hW
  have hA : DataW.TrodAll enc Try.prog W 0 (fun _ => true) true Try.f7.params.toList args.toList ds p := hA0
  rw [Try.params7] at hA hval
  have hA1 := hA
  obtain ⟨v0, vs0, d0, ds0, p0, q0, hargs, rfl, rfl, h0, r0⟩ := trodAll_cons hA
  obtain ⟨v1, vs1, d1, ds1, p1, q1, rfl, rfl, rfl, h1, r1⟩ := trodAll_cons r0
  obtain ⟨v2, vs2, d2, ds2, p2, q2, rfl, rfl, rfl, h2, r2⟩ := trodAll_cons r1
  obtain ⟨rfl, rfl, rfl⟩ := trodAll_nil r2
  obtain rfl : args = #[v0, v1, v2] := by cases args; simp_all
  obtain ⟨rfl, rfl⟩ := trodVars_none hV
  have hb0 : base = 0 ∨ True := .inr trivial
  have hlt := fun x hx => hW'.lt x hx
  obtain ⟨⟨a0, b0⟩, cs0, rfl, e0, w0, w00⟩ := open_agg Rep.ballot Try.underlying41 el_ballot h0 (hval 0 41 v0 rfl rfl); obtain rfl : cs0 = #[.int .u64 a0, .int .i64 b0] := Array.toList_inj.1 e0
  obtain ⟨⟨a1, b1⟩, cs1, rfl, e1, w1, w10⟩ := open_agg Rep.ballot Try.underlying41 el_ballot h1 (hval 1 41 v1 rfl rfl); obtain rfl : cs1 = #[.int .u64 a1, .int .i64 b1] := Array.toList_inj.1 e1
  obtain ⟨⟨a2, b2⟩, cs2, rfl, e2, w2, w20⟩ := open_agg Rep.ballot Try.underlying41 el_ballot h2 (hval 2 41 v2 rfl rfl); obtain rfl : cs2 = #[.int .u64 a2, .int .i64 b2] := Array.toList_inj.1 e2
  refine (ballotOrder_walk a0 b0 a1 b1 a2 b2 W).mono fun e W' ⟨he, upd⟩ => ?_
  subst he
  have bel : Below W.heap.size W W' := upd.below (fun _ _ h => h)
  exact ⟨_, rfl, _, _, _, [], _, [], hW', trodAll_mk1 (shut_bool Try.underlying4 _), trodAll_below laid reads hA1 bel (fun x hx => hlt x (by first | (simp at hx; done) | simpa using hx)), rfl, bel.frame _, fun h => by cases h⟩
theorem over : Rows.ballotOrderRow.holds Try.pinned (OpenSpec.ofChange Rows.ballotOrderSpec) :=
  OpenClaim.holds_of_wide 7 Try.f7 rfl rfl rfl rfl rfl rfl rfl ⟨rfl, rfl, rfl, rfl, rfl⟩ rfl rfl rfl rfl rfl (by kernel_rfl) Try.func7 (by kernel_rfl)
    (of_decide_eq_true (by kernel_rfl)) (by unfold Func.isWrapper; first | (rw [if_pos (by decide +kernel)]; kernel_rfl) | (rw [if_neg (by decide +kernel)]; exact ⟨rfl, rfl⟩))
    (fun os started H enc _ => lifted os started H enc)
end Go.Proofs.Ytflifeelgamaaaa.ballotOrder
namespace Go.Proofs.Ytflifeelgamaaaa
theorem ballotOrder_holds : Rows.BallotOrderSaid := ballotOrder.over
#print axioms ballotOrder_holds
end Go.Proofs.Ytflifeelgamaaaa
