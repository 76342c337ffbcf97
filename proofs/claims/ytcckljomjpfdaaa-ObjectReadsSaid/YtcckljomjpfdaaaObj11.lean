/- Versions, function by function (11): chapter 9's example. -/
import Derived.Test.YtcckljomjpfdaaaObj10
namespace Go.Proofs.Ytcckljomjpfdaaa
open Go.RowKit Kit
set_option linter.unusedVariables false

theorem nil_rsl {α : Type} (r : Rep α) (w : World) : RSl r w (fun _ => True) (.slice none 0 0) ([] : List α) := ⟨none, 0, [], rfl, Nat.le_refl _, by decide, rfl, fun _ => rfl, fun a h => nomatch h⟩
theorem obj_ex1 : putV [] 3 ⟨#[120]⟩ false = (0, [⟨3, 1, ⟨#[120]⟩, false⟩]) := by decide +kernel
theorem obj_ex2 : putV [⟨3, 1, ⟨#[120]⟩, false⟩] 5 ⟨#[]⟩ true = (0, [⟨3, 1, ⟨#[120]⟩, false⟩, ⟨5, 2, ⟨#[]⟩, true⟩]) := by decide +kernel
theorem obj_ex3 : readV [⟨3, 1, ⟨#[120]⟩, false⟩, ⟨5, 2, ⟨#[]⟩, true⟩] 4 = some ⟨3, 1, ⟨#[120]⟩, false⟩ := by decide +kernel
theorem obj_ex4 : readV [⟨3, 1, ⟨#[120]⟩, false⟩, ⟨5, 2, ⟨#[]⟩, true⟩] 5 = some ⟨5, 2, ⟨#[]⟩, true⟩ := by decide +kernel

set_option maxHeartbeats 2000000 in
set_option maxRecDepth 100000 in
theorem awakeObj_any (w : World) : Calls Try.prog 28 #[] w fun e w' => e = .returned (.bool true) ∧ Upd NoB w w' := by
  have h1 := Lib.hid (put_any (.slice none 0 0) [] 3 ⟨#[120]⟩ false w (nil_rsl _ w) (by decide) (by decide) (by decide))
  rw [obj_ex1] at h1
  have h2 := Lib.hid (fun v w S (h : RSl Rep.ver w S v [⟨3, 1, ⟨#[120]⟩, false⟩]) => put_any v _ 5 ⟨#[]⟩ true w h (by decide) (by decide) (by decide))
  rw [obj_ex2] at h2
  have h3 := Lib.hid (fun v w S (h : RSl Rep.ver w S v [⟨3, 1, ⟨#[120]⟩, false⟩, ⟨5, 2, ⟨#[]⟩, true⟩]) => read_any v _ 4 w h (by decide))
  rw [obj_ex3] at h3
  have h4 := Lib.hid (fun v w S (h : RSl Rep.ver w S v [⟨3, 1, ⟨#[120]⟩, false⟩, ⟨5, 2, ⟨#[]⟩, true⟩]) => read_any v _ 5 w h (by decide))
  rw [obj_ex4] at h4
  generalize ([⟨3, 1, ⟨#[120]⟩, false⟩, ⟨5, 2, ⟨#[]⟩, true⟩] : List Ver) = L2 at *
  generalize ([⟨3, 1, ⟨#[120]⟩, false⟩] : List Ver) = L1 at *
  simp only [Option.getD_some, Option.isSome_some, Ver.agg] at h3 h4
  go_enter Try.func28, Try.ntmps28
  go_wp2_with fail
  refine h1.out.mono ?_
  rintro e w1 ⟨v1, rfl, hM⟩
  obtain ⟨A1, c1, _, rfl, _⟩ := hM.1.read
  obtain ⟨wb1, hwb1⟩ : ∃ wb, w1.alloc (.cells #[.slice A1 L1.length c1] 44) = wb := ⟨_, rfl⟩
  obtain ⟨b1, hb1⟩ : ∃ b, w1.heap.size = b := ⟨_, rfl⟩
  have hBb := Lib.hid (show wb1.heap[b1]? = some (.cells #[.slice A1 L1.length c1] 44 (0, 0)) by rw [← hwb1, ← hb1]; exact heap_alloc_new _ _)
  have l0 : wb1.cell? ⟨b1, 0, none⟩ = some (.slice A1 L1.length c1) := by simp [World.cell?, hBb.out]
  have HM1 := Lib.hid (show Mine Rep.ver 50 _ wb1 (.slice A1 L1.length c1) L1 by rw [← hwb1]; exact hM.upd ((Upd.refl NoB w1).alloc _))
  clear hM
  go_wp2_with fail
  refine (h2.out _ _ _ HM1.out.1.read).mono ?_
  rintro e w2 ⟨v2, rfl, hM⟩
  clear l0 hwb1 hBb
  obtain ⟨A2, c2, _, rfl, _⟩ := hM.1.read
  obtain ⟨wb2, hwb2⟩ : ∃ wb, w2.alloc (.cells #[.slice A2 L2.length c2] 44) = wb := ⟨_, rfl⟩
  obtain ⟨b2, hb2⟩ : ∃ b, w2.heap.size = b := ⟨_, rfl⟩
  have hBb := Lib.hid (show wb2.heap[b2]? = some (.cells #[.slice A2 L2.length c2] 44 (0, 0)) by rw [← hwb2, ← hb2]; exact heap_alloc_new _ _)
  have l0 : wb2.cell? ⟨b2, 0, none⟩ = some (.slice A2 L2.length c2) := by simp [World.cell?, hBb.out]
  have HM2 := Lib.hid (show Mine Rep.ver 50 _ wb2 (.slice A2 L2.length c2) L2 by rw [← hwb2]; exact hM.upd ((Upd.refl NoB w2).alloc _))
  clear hM
  go_wp2_with fail
  refine (h3.out _ _ _ HM2.out.1.read).mono ?_
  rintro e w3 ⟨rfl, hu3⟩
  have HU3 := Lib.hid ((HM1.out.2.trans HM2.out.2).trans hu3)
  obtain ⟨wc, hwc⟩ : ∃ wb, w3.alloc (.cells #[.int .i64 3, .int .u64 1, .string ⟨#[120]⟩, .bool false] 50) = wb := ⟨_, rfl⟩
  obtain ⟨b3, hb3⟩ : ∃ b, w3.heap.size = b := ⟨_, rfl⟩
  have hBc : wc.heap[b3]? = some (.cells #[.int .i64 3, .int .u64 1, .string ⟨#[120]⟩, .bool false] 50 (0, 0)) := by rw [← hwc, ← hb3]; exact heap_alloc_new _ _
  have huc : Upd NoB wb2 wc := by rw [← hwc]; exact hu3.alloc _
  have l1 := huc.cell l0 (fun h => h)
  have HUc := Lib.hid (HU3.out.alloc (.cells #[.int .i64 3, .int .u64 1, .string ⟨#[120]⟩, .bool false] 50))
  rw [hwc] at HUc
  have HR := Lib.hid (HM2.out.upd huc).1.read
  have l0' := hu3.cell l0 (fun h => h)
  subst hwc
  clear hu3 huc hwb2 l0 hBb
  have HBc := Lib.hid hBc
  clear hBc
  go_wp2_with fail
  refine (h4.out _ _ _ HR.out).mono ?_
  rintro e w4 ⟨rfl, hu4⟩
  have HU4 := Lib.hid (HUc.out.trans hu4)
  have hBc := hu4.heap HBc.out (fun h => h)
  have k1 : w4.cell? ⟨b3, 1, none⟩ = some (.int .u64 1) := by simp [World.cell?, hBc]
  have k2 : w4.cell? ⟨b3, 2, none⟩ = some (.string ⟨#[120]⟩) := by simp [World.cell?, hBc]
  have hlt := lt_of_heap hBc
  have hne : ¬ w4.heap.size = b3 := by omega
  obtain ⟨wd, hwd⟩ : ∃ wb, w4.alloc (.cells #[.int .i64 5, .int .u64 2, .string ⟨#[]⟩, .bool true] 50) = wb := ⟨_, rfl⟩
  obtain ⟨b4, hb4⟩ : ∃ b, w4.heap.size = b := ⟨_, rfl⟩
  have hBd : wd.heap[b4]? = some (.cells #[.int .i64 5, .int .u64 2, .string ⟨#[]⟩, .bool true] 50 (0, 0)) := by rw [← hwd, ← hb4]; exact heap_alloc_new _ _
  have hud : Upd NoB w4 wd := by rw [← hwd]; exact (Upd.refl NoB w4).alloc _
  have m1 : wd.cell? ⟨b4, 1, none⟩ = some (.int .u64 2) := by simp [World.cell?, hBd]
  have m3 : wd.cell? ⟨b4, 3, none⟩ = some (.bool true) := by simp [World.cell?, hBd]
  have m2 := hud.cell k1 (fun h => h)
  have m4 := hud.cell k2 (fun h => h)
  have HUd := Lib.hid (HU4.out.trans hud)
  clear hud hBd hBc k1 k2 hu4
  go_wp2_with fail
  go_ret
  exact ⟨rfl, HUd.out⟩
end Go.Proofs.Ytcckljomjpfdaaa
