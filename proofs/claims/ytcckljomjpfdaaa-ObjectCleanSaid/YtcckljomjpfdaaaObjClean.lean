/- Without elder versions an object is read as ahead (ObjectClean): the law's walk. -/
import Derived.Test.YtcckljomjpfdaaaObj12
namespace Go.Proofs.Ytcckljomjpfdaaa
open Go.RowKit Kit
set_option linter.unusedVariables false

theorem vcells {x : World} {b : Nat} {T : TypeId} {fr : Nat × Nat} {c0 c1 c2 c3 : Value} (h : x.heap[b]? = some (.cells #[c0, c1, c2, c3] T fr)) :
    x.cell? ⟨b, 0, none⟩ = some c0 ∧ x.cell? ⟨b, 1, none⟩ = some c1 ∧ x.cell? ⟨b, 2, none⟩ = some c2 ∧ x.cell? ⟨b, 3, none⟩ = some c3 := by
  simp [World.cell?, h]
set_option maxHeartbeats 4000000 in
set_option maxRecDepth 100000 in
theorem objClean_walk {S : Nat → Prop} (v : Value) (l : List Ver) (n m : Int) (w : World) (h : RSl Rep.ver w S v l) :
    Calls Try.prog 9 #[v, .int .i64 n, .int .i64 m] w fun e w' => e = .returned (.bool true) ∧ Upd NoB w w' := by
  have ho := Lib.hid (ours_any v l w h)
  have hL : (l.take 20).length ≤ 20 := by rw [List.length_take]; omega
  obtain ⟨A, c, cs, rfl, _⟩ := id h
  clear h
  generalize l.take 20 = L at *
  have hr := Lib.hid (fun v w S (h : RSl Rep.ver w S v L) => right_obj v L w h (by omega))
  cases hR : rightB L
  · rw [hR] at hr
    clear hR
    go_enter Try.func9, Try.ntmps9
    go_wp2_with fail
    refine ho.out.mono ?_
    rintro e w1 ⟨v1, rfl, hM⟩
    obtain ⟨A1, c1, _, rfl, _⟩ := hM.1.read
    obtain ⟨wb1, hwb1⟩ : ∃ wb, w1.alloc (.cells #[.slice A1 L.length c1] 44) = wb := ⟨_, rfl⟩
    obtain ⟨b1, hb1⟩ : ∃ b, w1.heap.size = b := ⟨_, rfl⟩
    have HB1 := Lib.hid (show wb1.heap[b1]? = some (.cells #[.slice A1 L.length c1] 44 (0, 0)) by rw [← hwb1, ← hb1]; exact heap_alloc_new _ _)
    have p1 : wb1.cell? ⟨b1, 0, none⟩ = some (.slice A1 L.length c1) := by simp [World.cell?, HB1.out]
    have HM1 := Lib.hid (show Mine Rep.ver 50 _ wb1 (.slice A1 L.length c1) L by rw [← hwb1]; exact hM.upd ((Upd.refl NoB w1).alloc _))
    clear hM
    go_wp2_with fail
    refine (hr.out _ _ _ HM1.out.1.read).mono ?_
    rintro e w2 ⟨rfl, hu⟩
    have HU2 := Lib.hid (HM1.out.2.trans hu)
    have p2 := hu.cell p1 (fun h => h)
    have HM2 := Lib.hid (HM1.out.upd hu)
    clear hu hwb1
    go_wp2_with fail
    refine (awakeObj_any _).mono ?_
    rintro e w9 ⟨rfl, hu⟩
    have HU9 := Lib.hid (HU2.out.trans hu)
    clear hu
    go_wp2_with fail
    go_ret
    exact ⟨rfl, HU9.out⟩
  · by_cases hmn : m < n
    · rw [hR] at hr
      clear hR
      go_enter Try.func9, Try.ntmps9
      go_wp2_with fail
      refine ho.out.mono ?_
      rintro e w1 ⟨v1, rfl, hM⟩
      obtain ⟨A1, c1, _, rfl, _⟩ := hM.1.read
      obtain ⟨wb1, hwb1⟩ : ∃ wb, w1.alloc (.cells #[.slice A1 L.length c1] 44) = wb := ⟨_, rfl⟩
      obtain ⟨b1, hb1⟩ : ∃ b, w1.heap.size = b := ⟨_, rfl⟩
      have HB1 := Lib.hid (show wb1.heap[b1]? = some (.cells #[.slice A1 L.length c1] 44 (0, 0)) by rw [← hwb1, ← hb1]; exact heap_alloc_new _ _)
      have p1 : wb1.cell? ⟨b1, 0, none⟩ = some (.slice A1 L.length c1) := by simp [World.cell?, HB1.out]
      have HM1 := Lib.hid (show Mine Rep.ver 50 _ wb1 (.slice A1 L.length c1) L by rw [← hwb1]; exact hM.upd ((Upd.refl NoB w1).alloc _))
      clear hM
      go_wp2_with fail
      refine (hr.out _ _ _ HM1.out.1.read).mono ?_
      rintro e w2 ⟨rfl, hu⟩
      have HU2 := Lib.hid (HM1.out.2.trans hu)
      have p2 := hu.cell p1 (fun h => h)
      have HM2 := Lib.hid (HM1.out.upd hu)
      clear hu hwb1
      go_wp2_with fail
      refine (awakeObj_any _).mono ?_
      rintro e w9 ⟨rfl, hu⟩
      have HU9 := Lib.hid (HU2.out.trans hu)
      clear hu
      go_wp2_with fail
      go_ret
      exact ⟨rfl, HU9.out⟩
    · have hcl := Lib.hid (fun v w S (h : RSl Rep.ver w S v L) => clean_any v L n w h (by omega))
      simp only [hR, if_true] at hcl
      have hC1 := rightB_drop L (uptoN L n - 1) hR
      have hC2 := readV_drop L n m hR (by omega)
      have hC3 := lastV_drop L n hR
      have hC4 : (L.drop (uptoN L n - 1)).length ≤ 20 := by rw [List.length_drop]; omega
      rw [hR] at hr
      clear hR
      generalize L.drop (uptoN L n - 1) = C at *
      have hrc := Lib.hid (fun v w S (h : RSl Rep.ver w S v C) => right_obj v C w h (by omega))
      have hd1 := Lib.hid (fun v w S (h : RSl Rep.ver w S v L) => read_any v L m w h (by omega))
      have hd2 := Lib.hid (fun v w S (h : RSl Rep.ver w S v C) => read_any v C m w h (by omega))
      have hl1 := Lib.hid (fun v w S (h : RSl Rep.ver w S v L) => last_any v L w h (by omega))
      have hl2 := Lib.hid (fun v w S (h : RSl Rep.ver w S v C) => last_any v C w h (by omega))
      rw [hC1] at hrc
      rw [hC2] at hd2
      rw [hC3] at hl2
      clear hC1 hC2 hC3
      generalize lastV L = Z at *
      generalize (readV L m).getD zeroV = X at *
      generalize (readV L m).isSome = B at *
      unfold Ver.agg at hd1 hd2 hl1 hl2
      go_enter Try.func9, Try.ntmps9
      go_wp2_with fail
      refine ho.out.mono ?_
      rintro e w1 ⟨v1, rfl, hM⟩
      obtain ⟨A1, c1, _, rfl, _⟩ := hM.1.read
      obtain ⟨wb1, hwb1⟩ : ∃ wb, w1.alloc (.cells #[.slice A1 L.length c1] 44) = wb := ⟨_, rfl⟩
      obtain ⟨b1, hb1⟩ : ∃ b, w1.heap.size = b := ⟨_, rfl⟩
      have HB1 := Lib.hid (show wb1.heap[b1]? = some (.cells #[.slice A1 L.length c1] 44 (0, 0)) by rw [← hwb1, ← hb1]; exact heap_alloc_new _ _)
      have p1 : wb1.cell? ⟨b1, 0, none⟩ = some (.slice A1 L.length c1) := by simp [World.cell?, HB1.out]
      have HM1 := Lib.hid (show Mine Rep.ver 50 _ wb1 (.slice A1 L.length c1) L by rw [← hwb1]; exact hM.upd ((Upd.refl NoB w1).alloc _))
      clear hM
      go_wp2_with fail
      refine (hr.out _ _ _ HM1.out.1.read).mono ?_
      rintro e w2 ⟨rfl, hu⟩
      have HU2 := Lib.hid (HM1.out.2.trans hu)
      have p2 := hu.cell p1 (fun h => h)
      have HM2 := Lib.hid (HM1.out.upd hu)
      clear hu hwb1
      go_wp2_with fail
      refine (hcl.out _ _ _ HM2.out.1.read).mono ?_
      rintro e w3 ⟨v3, rfl, hM⟩
      have hu := hM.2
      obtain ⟨A3, c3, _, rfl, _⟩ := hM.1.read
      obtain ⟨wb3, hwb3⟩ : ∃ wb, w3.alloc (.cells #[.slice A3 C.length c3] 44) = wb := ⟨_, rfl⟩
      obtain ⟨b3, hb3⟩ : ∃ b, w3.heap.size = b := ⟨_, rfl⟩
      have HB3 := Lib.hid (show wb3.heap[b3]? = some (.cells #[.slice A3 C.length c3] 44 (0, 0)) by rw [← hwb3, ← hb3]; exact heap_alloc_new _ _)
      have p3 : wb3.cell? ⟨b3, 0, none⟩ = some (.slice A3 C.length c3) := by simp [World.cell?, HB3.out]
      have HM3 := Lib.hid (show Mine Rep.ver 50 _ wb3 (.slice A3 C.length c3) C by rw [← hwb3]; exact hM.upd ((Upd.refl NoB w3).alloc _))
      clear hM
      have hub : Upd NoB w2 wb3 := by rw [← hwb3]; exact hu.alloc _
      have q1 := hub.cell p2 (fun h => h)
      have HN1 := Lib.hid (HM2.out.upd hub)
      have HUb3 := Lib.hid (HU2.out.trans hub)
      clear hu hub p1 p2
      go_wp2_with fail
      refine (hd1.out _ _ _ HN1.out.1.read).mono ?_
      rintro e w4 ⟨rfl, hu⟩
      obtain ⟨wx4, hwx4⟩ : ∃ wb, w4.alloc (.cells #[.int .i64 X.at_, .int .u64 X.num, .string X.val, .bool X.gone] 50) = wb := ⟨_, rfl⟩
      obtain ⟨x4, hx4⟩ : ∃ b, w4.heap.size = b := ⟨_, rfl⟩
      have HX4 := Lib.hid (show wx4.heap[x4]? = some (.cells #[.int .i64 X.at_, .int .u64 X.num, .string X.val, .bool X.gone] 50 (0, 0)) by rw [← hwx4, ← hx4]; exact heap_alloc_new _ _)
      have hux : Upd NoB wb3 wx4 := by rw [← hwx4]; exact hu.alloc _
      have p3' := hux.cell p3 (fun h => h)
      have q1' := hux.cell q1 (fun h => h)
      have HN3 := Lib.hid (HM3.out.upd hux)
      have HN1' := Lib.hid (HN1.out.upd hux)
      have HUx4 := Lib.hid (HUb3.out.trans hux)
      clear hux hu p3 q1
      go_wp2_with fail
      refine (hd2.out _ _ _ HN3.out.1.read).mono ?_
      rintro e w5 ⟨rfl, hu⟩
      obtain ⟨wx5, hwx5⟩ : ∃ wb, w5.alloc (.cells #[.int .i64 X.at_, .int .u64 X.num, .string X.val, .bool X.gone] 50) = wb := ⟨_, rfl⟩
      obtain ⟨x5, hx5⟩ : ∃ b, w5.heap.size = b := ⟨_, rfl⟩
      have HX5 := Lib.hid (show wx5.heap[x5]? = some (.cells #[.int .i64 X.at_, .int .u64 X.num, .string X.val, .bool X.gone] 50 (0, 0)) by rw [← hwx5, ← hx5]; exact heap_alloc_new _ _)
      have hux : Upd NoB wx4 wx5 := by rw [← hwx5]; exact hu.alloc _
      have p3 := Lib.hid (hux.cell p3' (fun h => h))
      have q1 := Lib.hid (hux.cell q1' (fun h => h))
      have K4 := Lib.hid (hux.heap HX4.out (fun h => h))
      have HC := Lib.hid (HN3.out.upd hux)
      have HL := Lib.hid (HN1'.out.upd hux)
      have HU := Lib.hid (HUx4.out.trans hux)
      have hne : x4 ≠ x5 := by have := lt_of_heap HX4.out; have := hu.size; omega
      clear hux hu p3' q1'
      go_wp2_with fail
      refine sched_begin NoB (by kernel_rfl) ?_
      refine sched_take 0 rfl (by kernel_rfl) (by kernel_rfl) (by kernel_rfl) (fun _ _ _ h => h) rfl (fun x hx => by have q := hx.cell p3.out (fun h => h); go_simp; rfl) ?_
      go_simp
      refine sched_alone 1 (by kernel_rfl) rfl rfl ?_
      go_simp
      refine (hrc.out _ _ _ (HC.out.upd (Upd.refl NoB wx5).drew).1.read).mono ?_
      rintro e w6 ⟨rfl, hu⟩
      have hu6 : Upd NoB wx5 w6 := ⟨hu.os, hu.tape, hu.output, hu.size, hu.block⟩
      have HU6 := Lib.hid hu6
      refine ⟨hu, ?_⟩
      clear hu hu6
      go_simp
      refine sched_take 2 rfl (by kernel_rfl) (by kernel_rfl) (by kernel_rfl) (fun _ _ _ h => h) rfl (fun x hx => by go_simp; rfl) ?_
      go_simp
      refine sched_take 3 rfl (by kernel_rfl) (by kernel_rfl) (by kernel_rfl) (fun _ _ _ h => h) rfl (fun x hx => by obtain ⟨j1, j2, j3, j4⟩ := vcells ((HU6.out.trans hx).heap K4.out (fun h => h)); go_simp; rfl) ?_
      go_simp
      refine sched_take 4 rfl (by kernel_rfl) (by kernel_rfl) (by kernel_rfl) (fun _ _ _ h => h) rfl (fun x hx => by obtain ⟨j1, j2, j3, j4⟩ := vcells ((HU6.out.trans hx).heap HX5.out (fun h => h)); go_simp; rfl) ?_
      go_simp
      refine sched_take 5 rfl (by kernel_rfl) (by kernel_rfl) (by kernel_rfl) (fun _ _ _ h => h) rfl (fun x hx => by go_simp; rfl) ?_
      go_simp
      refine sched_take 6 rfl (by kernel_rfl) (by kernel_rfl) (by kernel_rfl) (fun _ _ _ h => h) rfl (fun x hx => by go_simp; rfl) ?_
      go_simp
      refine sched_take 7 rfl (by kernel_rfl) (by kernel_rfl) (by kernel_rfl) (fun _ _ _ h => h) rfl (fun x hx => by go_simp; rfl) ?_
      go_simp
      refine sched_take 8 rfl (by kernel_rfl) (by kernel_rfl) (by kernel_rfl) (fun _ _ _ h => h) rfl (fun x hx => by go_simp; rfl) ?_
      go_simp
      refine sched_take 9 rfl (by kernel_rfl) (by kernel_rfl) (by kernel_rfl) (fun _ _ _ h => h) rfl (fun x hx => by go_simp; rfl) ?_
      go_simp
      refine sched_take 10 rfl (by kernel_rfl) (by kernel_rfl) (by kernel_rfl) (fun _ _ _ h => h) rfl (fun x hx => by go_simp; rfl) ?_
      go_simp
      refine sched_take 11 rfl (by kernel_rfl) (by kernel_rfl) (by kernel_rfl) (fun _ _ _ h => h) rfl (fun x hx => by go_simp; rfl) ?_
      go_simp
      refine sched_take 12 rfl (by kernel_rfl) (by kernel_rfl) (by kernel_rfl) (fun _ _ _ h => h) rfl (fun x hx => by go_simp; rfl) ?_
      go_simp
      refine sched_take 13 rfl (by kernel_rfl) (by kernel_rfl) (by kernel_rfl) (fun _ _ _ h => h) rfl (fun x hx => by have q := (HU6.out.trans hx).cell p3.out (fun h => h); go_simp; rfl) ?_
      go_simp
      refine sched_take 15 rfl (by kernel_rfl) (by kernel_rfl) (by kernel_rfl) (fun _ _ _ h => h) rfl (fun x hx => by have q := (HU6.out.trans hx).cell q1.out (fun h => h); go_simp; rfl) ?_
      go_simp
      refine sched_alone 14 (by kernel_rfl) rfl rfl ?_
      go_simp
      refine (hl2.out _ _ _ (HC.out.upd HU6.out).1.read).mono ?_
      rintro e w7 ⟨rfl, hu⟩
      have HU7 := Lib.hid (HU6.out.trans hu)
      refine ⟨hu, ?_⟩
      clear hu
      go_simp
      refine sched_alone 16 (by kernel_rfl) rfl rfl ?_
      go_simp
      refine (hl1.out _ _ _ (HL.out.upd HU7.out).1.read).mono ?_
      rintro e w8 ⟨rfl, hu⟩
      have HU8 := Lib.hid (HU7.out.trans hu)
      refine ⟨hu, ?_⟩
      clear hu
      go_simp
      refine sched_take 17 rfl (by kernel_rfl) (by kernel_rfl) (by kernel_rfl) (fun _ _ _ h => h) rfl (fun x hx => by go_simp; rfl) ?_
      go_simp
      refine sched_take 18 rfl (by kernel_rfl) (by kernel_rfl) (by kernel_rfl) (fun _ _ _ h => h) rfl (fun x hx => by go_simp; rfl) ?_
      go_simp
      refine sched_take 19 rfl (by kernel_rfl) (by kernel_rfl) (by kernel_rfl) (fun _ _ _ h => h) rfl (fun x hx => by go_simp; rfl) ?_
      go_simp
      refine sched_alone 20 (by kernel_rfl) rfl rfl ?_
      go_simp
      refine (awakeObj_any _).mono ?_
      rintro e w9 ⟨rfl, hu⟩
      have HU9 := Lib.hid (HU.out.trans (HU8.out.trans hu))
      refine ⟨hu, ?_⟩
      clear hu
      go_simp
      refine sched_take 21 rfl (by kernel_rfl) (by kernel_rfl) (by kernel_rfl) (fun _ _ _ h => h) rfl (fun x hx => by go_simp; rfl) ?_
      go_simp
      refine sched_take 22 rfl (by kernel_rfl) (by kernel_rfl) (by kernel_rfl) (fun _ _ _ h => h) rfl (fun x hx => by go_simp; rfl) ?_
      go_simp
      refine sched_done (by kernel_rfl) ?_
      go_wp2_with fail
      go_ret
      exact ⟨rfl, HU9.out⟩
end Go.Proofs.Ytcckljomjpfdaaa
