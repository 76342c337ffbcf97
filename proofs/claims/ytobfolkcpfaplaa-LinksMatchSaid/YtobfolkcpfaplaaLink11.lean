/- Entries that end something, as the document's (4): are two rows of them the same. -/
import Derived.Test.YtobfolkcpfaplaaLink10
namespace Go.Proofs.Ytobfolkcpfaplaa
open Go.RowKit Kit
set_option linter.unusedVariables false
set_option maxHeartbeats 4000000 in
set_option maxRecDepth 100000 in
theorem esame_any (ep sq : Int) (w : World) : Calls Try.prog 49 #[finV ep sq, finV ep sq] w fun e w' => e = .returned (.bool true) ∧ Upd NoB w w' := by
  have HU := Lib.hid (fun o o' => ((Upd.refl NoB w).alloc o).alloc o')
  have htx := Lib.hid sametxn_any
  unfold finV
  go_enter Try.func49, Try.ntmps49
  go_wp2_with fail
  refine (htx.out _).mono ?_
  rintro e w1 ⟨rfl, hu⟩
  have HU1 := Lib.hid ((HU.out _ _).trans hu)
  clear hu
  go_wp2_with fail
  go_ret
  exact ⟨rfl, HU1.out⟩
set_option maxHeartbeats 4000000 in
set_option maxRecDepth 100000 in
theorem alike_any {S T : Nat → Prop} (u v : Value) (l : List Fin) (w : World) (h : RSl Rep.fin w S u l) (h' : RSl Rep.fin w T v l) (hl : l.length ≤ 100000) :
    Calls Try.prog 46 #[u, v] w fun e w' => e = .returned (.bool true) ∧ Upd NoB w w' := by
  have HX := Lib.hid h
  have HY := Lib.hid h'
  have HU0 := Lib.hid (Upd.refl NoB w)
  obtain ⟨A, c, _, rfl, _⟩ := h
  obtain ⟨B, d, _, rfl, _⟩ := h'
  go_enter Try.func46, Try.ntmps46
  go_wp2_with fail
  go_loopw [13] (fun x13 wr => ∃ k : Nat, k ≤ l.length ∧ x13 = .int .i64 k ∧ Hid (Upd NoB w wr)) (fun x13 _ => l.length - (intOf x13).toNat)
  case atStart => exact ⟨0, by omega, rfl, HU0⟩
  case round =>
    obtain ⟨k, hk, rfl, hU⟩ := hrel
    by_cases hlt : k < l.length
    · have hdl : decide (k < l.length) = true := decide_eq_true hlt
      obtain ⟨g, o, cx, rfl, hr, hc, _⟩ := HX.out.cellN k hlt
      obtain ⟨g2, o2, cy, rfl, hr2, hc2, _⟩ := HY.out.cellN k hlt
      have hr' : cx = finC (l[k]'hlt) := hr
      have hr2' : cy = finC (l[k]'hlt) := hr2
      subst hr' hr2'
      rw [show Rep.fin.sz = 10 from rfl] at hc hc2
      generalize l[k]'hlt = x at *
      have hcx := Lib.hid (fun z (hz : Upd NoB w z) => show _ ∧ _ ∧ _ ∧ _ ∧ _ ∧ _ ∧ _ ∧ _ ∧ _ ∧ _ from ⟨hz.cell (hc 0 _ rfl) (fun h => h), hz.cell (hc 1 _ rfl) (fun h => h), hz.cell (hc 2 _ rfl) (fun h => h), hz.cell (hc 3 _ rfl) (fun h => h), hz.cell (hc 4 _ rfl) (fun h => h), hz.cell (hc 5 _ rfl) (fun h => h), hz.cell (hc 6 _ rfl) (fun h => h), hz.cell (hc 7 _ rfl) (fun h => h), hz.cell (hc 8 _ rfl) (fun h => h), hz.cell (hc 9 _ rfl) (fun h => h)⟩)
      have hcy := Lib.hid (fun z (hz : Upd NoB w z) => show _ ∧ _ ∧ _ ∧ _ ∧ _ ∧ _ ∧ _ ∧ _ ∧ _ ∧ _ from ⟨hz.cell (hc2 0 _ rfl) (fun h => h), hz.cell (hc2 1 _ rfl) (fun h => h), hz.cell (hc2 2 _ rfl) (fun h => h), hz.cell (hc2 3 _ rfl) (fun h => h), hz.cell (hc2 4 _ rfl) (fun h => h), hz.cell (hc2 5 _ rfl) (fun h => h), hz.cell (hc2 6 _ rfl) (fun h => h), hz.cell (hc2 7 _ rfl) (fun h => h), hz.cell (hc2 8 _ rfl) (fun h => h), hz.cell (hc2 9 _ rfl) (fun h => h)⟩)
      rw [Nat.add_zero] at hcx hcy
      have hes := Lib.hid (esame_any x.ep x.sq)
      unfold finV at hes
      clear hc hc2 hr hr2
      go_wp2_with fail
      refine sched_begin NoB (by kernel_rfl) ?_
      have HUd := Lib.hid hU.out.drew
      refine sched_take 0 rfl (by kernel_rfl) (by kernel_rfl) (by kernel_rfl) (fun _ _ _ h => h) rfl (fun x hx => by go_simp; rfl) ?_
      go_simp
      refine sched_take 1 rfl (by kernel_rfl) (by kernel_rfl) (by kernel_rfl) (fun _ _ _ h => h) rfl (fun x hx => by go_simp; rfl) ?_
      go_simp
      refine sched_take 2 rfl (by kernel_rfl) (by kernel_rfl) (by kernel_rfl) (fun _ _ _ h => h) rfl (fun x hx => by go_simp; rfl) ?_
      go_simp
      refine sched_take 4 rfl (by kernel_rfl) (by kernel_rfl) (by kernel_rfl) (fun _ _ _ h => h) rfl (fun x hx => by go_simp; rfl) ?_
      go_simp
      refine sched_take 5 rfl (by kernel_rfl) (by kernel_rfl) (by kernel_rfl) (fun _ _ _ h => h) rfl (fun x hx => by go_simp; rfl) ?_
      go_simp
      refine sched_take 6 rfl (by kernel_rfl) (by kernel_rfl) (by kernel_rfl) (fun _ _ _ h => h) rfl (fun x hx => by go_simp; rfl) ?_
      go_simp
      refine sched_take 3 rfl (by kernel_rfl) (by kernel_rfl) (by kernel_rfl) (fun _ _ _ h => h) rfl (fun x hx => by obtain ⟨y0, y1, y2, y3, y4, y5, y6, y7, y8, y9⟩ := hcx.out _ (HUd.out.trans hx); go_simp; rfl) ?_
      go_simp
      refine sched_take 7 rfl (by kernel_rfl) (by kernel_rfl) (by kernel_rfl) (fun _ _ _ h => h) rfl (fun x hx => by obtain ⟨y0, y1, y2, y3, y4, y5, y6, y7, y8, y9⟩ := hcy.out _ (HUd.out.trans hx); go_simp; rfl) ?_
      go_simp
      refine sched_alone 8 (by kernel_rfl) rfl rfl ?_
      go_simp
      refine (hes.out _).mono ?_
      rintro e w1 ⟨rfl, hu⟩
      refine ⟨hu, ?_⟩
      have HU1 := Lib.hid (HUd.out.trans hu)
      clear hu
      go_simp
      refine sched_take 9 rfl (by kernel_rfl) (by kernel_rfl) (by kernel_rfl) (fun _ _ _ h => h) rfl (fun x hx => by go_simp; rfl) ?_
      go_simp
      refine sched_done (by kernel_rfl) ?_
      go_wp2_with fail
      go_roundw
      case measure => simp [intOf]; omega
      case rel => exact ⟨k + 1, by omega, by go_num, HU1⟩
    · obtain rfl : k = l.length := by omega
      have hdl : decide (l.length < l.length) = false := by simp
      go_wp2_with fail
      go_ret
      exact ⟨rfl, hU.out⟩
end Go.Proofs.Ytobfolkcpfaplaa
