/- Which masters are in votes, and whether they win, is as the chapter says (BallotVotes): the law's walk. -/
import Derived.Test.YtflifeelgamaaaaVotes2
import Derived.Test.YtflifeelgamaaaaSched
namespace Go.Proofs.Ytflifeelgamaaaa
open Go.RowKit Kit
set_option linter.unusedVariables false

set_option maxHeartbeats 4000000 in
set_option maxRecDepth 100000 in
theorem ballotVotes_walk (v : Nat) (node n : Int) (w : World) (hv : v < 256) :
    Calls Try.prog 3 #[.int .u8 v, .int .i64 node, .int .i64 n] w fun e w' => e = .returned (.bool true) ∧ Upd NoB w w' := by
  have hH := Lib.hid (fun k (hk : k < 5) w => has_any v k hv hk w)
  have hW := Lib.hid (fun w => with_any v node hv w)
  have hH2 := Lib.hid (fun k (hk : k < 5) w => has_any (withV v node) k (with_lt v node hv) hk w)
  have hE := Lib.hid (fun k (hk : k < 5) => with_hb v k node hv hk)
  have hS := Lib.hid (fun w => set_any v w hv)
  have hL := Lib.hid (fun w => len_any v hv w)
  have hA5 := Lib.hid (fun w => refamong_any v 5 w hv)
  have hWin := Lib.hid (fun w => wins_any v n hv w)
  have hAm := Lib.hid (fun w => refamong_any v (clipM n) w hv)
  have hAl := amg_le v (clipM n) 5
  have hcm := Lib.hid (clipM_eq n)
  have hcr := clipM_range n
  have hNo := Lib.hid (fun hn w => hasno_any v node hn w)
  have hWno : Hid (¬ (0 ≤ node ∧ node < 5) → withV v node = v) := Lib.hid (fun h => by unfold withV; rw [if_neg h])
  have hwl := with_lt v node hv
  generalize withV v node = V2 at *
  generalize clipM n = m at *
  generalize hG5 : amg v 5 5 = G5 at *
  generalize hGm : amg v m 5 = Gm at *
  clear hG5 hGm
  generalize hD : decide (m < 2 * Gm) = D at *
  have HD := Lib.hid hD
  clear hD
  have hn : n < 1 ∧ m = 1 ∨ 5 < n ∧ m = 5 ∨ 1 ≤ n ∧ n ≤ 5 ∧ n = m := by
    have := hcm.out
    unfold Go.Proofs.YtflifeelgamaaaaW.PrintWords.mn Go.Proofs.YtflifeelgamaaaaW.PrintWords.mx at this
    revert this
    split <;> split <;> omega
  clear hcm
  have hcase : (0 ≤ node ∧ node < 5) ∨ node < 0 ∨ (0 ≤ node ∧ 5 ≤ node) := by omega
  go_enter Try.func3, Try.ntmps3
  go_upto_region 2 with fail
  go_cut [8] from 12 to 88 (fun v8 wc => v8 = .bool (decide (0 ≤ node ∧ node < 5)) ∧ wc = w)
  case first =>
    rcases hcase with his | his | his
    · have e := Lib.hid (decide_eq_true his)
      go_wp2_with fail
      go_meet
      case rel => exact ⟨by rw [e.out], rfl⟩
    · have e := Lib.hid (decide_eq_false (show ¬ (0 ≤ node ∧ node < 5) by omega))
      go_wp2_with fail
      go_meet
      case rel => exact ⟨by rw [e.out], rfl⟩
    · have e := Lib.hid (decide_eq_false (show ¬ (0 ≤ node ∧ node < 5) by omega))
      go_wp2_with fail
      go_meet
      case rel => exact ⟨by rw [e.out]; simp; omega, rfl⟩
  obtain ⟨rfl, hwc⟩ := hcut
  obtain rfl := hwc.symm
  generalize hI : decide (0 ≤ node ∧ node < 5) = I at *
  have HI := Lib.hid hI
  clear hI
  go_upto_if 21 with fail
  go_cut [9] from 12 to 88 (fun v9 wc => v9 = .int .i64 (if n < 1 then 1 else n) ∧ wc = w)
  case first =>
    by_cases h1 : n < 1
    · have e := Lib.hid (show (if n < 1 then 1 else n) = 1 from if_pos h1)
      go_wp2_with fail
      go_meet
      case rel => exact ⟨by rw [e.out], rfl⟩
    · have e := Lib.hid (show (if n < 1 then 1 else n) = n from if_neg h1)
      go_wp2_with fail
      go_meet
      case rel => exact ⟨by rw [e.out], rfl⟩
  obtain ⟨rfl, hwc⟩ := hcut
  obtain rfl := hwc.symm
  have hn2 : 5 < (if n < 1 then 1 else n) ∧ m = 5 ∨ ¬ 5 < (if n < 1 then 1 else n) ∧ (if n < 1 then 1 else n) = (m : Int) := by
    split <;> omega
  generalize (if n < 1 then 1 else n) = n2 at *
  go_upto_if 23 with fail
  go_cut [9] from 12 to 88 (fun v9 wc => v9 = .int .i64 m ∧ wc = w)
  case first =>
    rcases hn2 with ⟨h1, h2⟩ | ⟨h1, h2⟩
    · have e := Lib.hid h2
      clear h2
      go_wp2_with fail
      go_meet
      case rel => exact ⟨by rw [e.out]; rfl, rfl⟩
    · have e := Lib.hid h2
      clear h2
      go_wp2_with fail
      go_meet
      case rel => exact ⟨by rw [e.out], rfl⟩
  obtain ⟨rfl, hwc⟩ := hcut
  obtain rfl := hwc.symm
  clear hn2 hn hcase hcr
  go_wp2_with fail
  refine (hS.out _).mono ?_
  rintro e w1 ⟨rfl, hu⟩
  have HU := Lib.hid hu
  clear hu
  go_wp2_with fail
  go_loopw [11] (fun i wr => ∃ k : Nat, k ≤ 5 ∧ i = .int .i64 k ∧ Hid (wr.heap[w1.heap.size]? = some (.cells (setCells v 5) 23 (0, 0))) ∧ Hid (Upd NoB w wr)) (fun i _ => 5 - (intOf i).toNat)
  case atStart => exact ⟨0, by omega, rfl, Lib.hid (heap_alloc_new _ _), Lib.hid (HU.out.alloc _)⟩
  case round =>
    obtain ⟨k, hk, rfl, hB, hU⟩ := hrel
    by_cases hlt : k < 5
    · have hkI : (k : Int) < 5 := by omega
      have hkJ : (0 : Int) ≤ (k : Int) := by omega
      have hc := Lib.hid (show wr.cell? ⟨w1.heap.size, k, none⟩ = some (.bool (hb v k)) by
        simp only [World.cell?, hB.out]
        rcases (show k = 0 ∨ k = 1 ∨ k = 2 ∨ k = 3 ∨ k = 4 by omega) with rfl | rfl | rfl | rfl | rfl <;> simp [setCells])
      have h1 := Lib.hid (hH.out k hlt)
      have h2 := hH2.out k hlt
      rw [hE.out k hlt] at h2
      have h2 := Lib.hid h2
      generalize hb v k = B at *
      go_wp2_with fail
      cases B
      · by_cases hkn : (k : Int) = node
        · have hkn' : ((k : Int) == node) = true := by simp [hkn]
          clear hkn
          rw [hkn'] at h2
          refine sched_begin NoB (by kernel_rfl) ?_
          refine sched_take 0 rfl (by kernel_rfl) (by kernel_rfl) (by kernel_rfl) (fun _ _ _ h => h) rfl (fun x hx => by go_simp; rfl) ?_
          go_simp
          refine sched_take 1 rfl (by kernel_rfl) (by kernel_rfl) (by kernel_rfl) (fun _ _ _ h => h) rfl (fun x hx => by go_simp; rfl) ?_
          go_simp
          refine sched_take 3 rfl (by kernel_rfl) (by kernel_rfl) (by kernel_rfl) (fun _ _ _ h => h) rfl (fun x hx => by go_simp; rfl) ?_
          go_simp
          refine sched_take 4 rfl (by kernel_rfl) (by kernel_rfl) (by kernel_rfl) (fun _ _ _ h => h) rfl (fun x hx => by go_simp; rfl) ?_
          go_simp
          refine sched_take 5 rfl (by kernel_rfl) (by kernel_rfl) (by kernel_rfl) (fun _ _ _ h => h) rfl (fun x hx => by have hcx := hx.cell hc.out (fun h => h); go_simp; rfl) ?_
          go_simp
          refine sched_alone 2 (by kernel_rfl) rfl rfl ?_
          go_simp
          refine (h1.out _).mono ?_
          rintro e w2 ⟨rfl, hu⟩
          refine ⟨hu, ?_⟩
          have U2 := Lib.hid hu
          clear hu
          go_simp
          refine sched_take 6 rfl (by kernel_rfl) (by kernel_rfl) (by kernel_rfl) (fun _ _ _ h => h) rfl (fun x hx => by go_simp; rfl) ?_
          go_simp
          refine sched_take 7 rfl (by kernel_rfl) (by kernel_rfl) (by kernel_rfl) (fun _ _ _ h => h) rfl (fun x hx => by go_simp; rfl) ?_
          go_simp
          refine sched_take 8 rfl (by kernel_rfl) (by kernel_rfl) (by kernel_rfl) (fun _ _ _ h => h) rfl (fun x hx => by go_simp; rfl) ?_
          go_simp
          refine sched_take 9 rfl (by kernel_rfl) (by kernel_rfl) (by kernel_rfl) (fun _ _ _ h => h) rfl (fun x hx => by go_simp; rfl) ?_
          go_simp
          refine sched_take 11 rfl (by kernel_rfl) (by kernel_rfl) (by kernel_rfl) (fun _ _ _ h => h) rfl (fun x hx => by go_simp; rfl) ?_
          go_simp
          refine sched_take 13 rfl (by kernel_rfl) (by kernel_rfl) (by kernel_rfl) (fun _ _ _ h => h) rfl (fun x hx => by go_simp; rfl) ?_
          go_simp
          refine sched_take 14 rfl (by kernel_rfl) (by kernel_rfl) (by kernel_rfl) (fun _ _ _ h => h) rfl (fun x hx => by go_simp; rfl) ?_
          go_simp
          refine sched_take 15 rfl (by kernel_rfl) (by kernel_rfl) (by kernel_rfl) (fun _ _ _ h => h) rfl (fun x hx => by have hcx := hx.cell (U2.out.cell hc.out (fun h => h)) (fun h => h); go_simp; rfl) ?_
          go_simp
          refine sched_alone 10 (by kernel_rfl) rfl rfl ?_
          go_simp
          refine (hW.out _).mono ?_
          rintro e w3 ⟨rfl, hu⟩
          refine ⟨hu, ?_⟩
          have U3 := Lib.hid (U2.out.trans hu)
          clear hu
          go_simp
          refine sched_alone 12 (by kernel_rfl) rfl rfl ?_
          go_simp
          refine (h2.out _).mono ?_
          rintro e w4 ⟨rfl, hu⟩
          refine ⟨hu, ?_⟩
          have U4 := Lib.hid (U3.out.trans hu)
          clear hu
          go_simp
          refine sched_take 16 rfl (by kernel_rfl) (by kernel_rfl) (by kernel_rfl) (fun _ _ _ h => h) rfl (fun x hx => by go_simp; rfl) ?_
          go_simp
          refine sched_take 17 rfl (by kernel_rfl) (by kernel_rfl) (by kernel_rfl) (fun _ _ _ h => h) rfl (fun x hx => by go_simp; rfl) ?_
          go_simp
          refine sched_take 18 rfl (by kernel_rfl) (by kernel_rfl) (by kernel_rfl) (fun _ _ _ h => h) rfl (fun x hx => by go_simp; rfl) ?_
          go_simp
          refine sched_take 19 rfl (by kernel_rfl) (by kernel_rfl) (by kernel_rfl) (fun _ _ _ h => h) rfl (fun x hx => by go_simp; rfl) ?_
          go_simp
          refine sched_take 20 rfl (by kernel_rfl) (by kernel_rfl) (by kernel_rfl) (fun _ _ _ h => h) rfl (fun x hx => by go_simp; rfl) ?_
          go_simp
          refine sched_take 21 rfl (by kernel_rfl) (by kernel_rfl) (by kernel_rfl) (fun _ _ _ h => h) rfl (fun x hx => by go_simp; rfl) ?_
          go_simp
          refine sched_take 22 rfl (by kernel_rfl) (by kernel_rfl) (by kernel_rfl) (fun _ _ _ h => h) rfl (fun x hx => by go_simp; rfl) ?_
          go_simp
          refine sched_done (by kernel_rfl) ?_
          go_wp2_with fail
          go_roundw
          case measure => simp [intOf]; omega
          case rel => exact ⟨k + 1, by omega, by go_num, Lib.hid (U4.out.heap hB.out (fun h => h)), Lib.hid (hU.out.drew.trans U4.out)⟩
        · have hkn' : ((k : Int) == node) = false := by simp [hkn]
          clear hkn
          rw [hkn'] at h2
          refine sched_begin NoB (by kernel_rfl) ?_
          refine sched_take 0 rfl (by kernel_rfl) (by kernel_rfl) (by kernel_rfl) (fun _ _ _ h => h) rfl (fun x hx => by go_simp; rfl) ?_
          go_simp
          refine sched_take 1 rfl (by kernel_rfl) (by kernel_rfl) (by kernel_rfl) (fun _ _ _ h => h) rfl (fun x hx => by go_simp; rfl) ?_
          go_simp
          refine sched_take 3 rfl (by kernel_rfl) (by kernel_rfl) (by kernel_rfl) (fun _ _ _ h => h) rfl (fun x hx => by go_simp; rfl) ?_
          go_simp
          refine sched_take 4 rfl (by kernel_rfl) (by kernel_rfl) (by kernel_rfl) (fun _ _ _ h => h) rfl (fun x hx => by go_simp; rfl) ?_
          go_simp
          refine sched_take 5 rfl (by kernel_rfl) (by kernel_rfl) (by kernel_rfl) (fun _ _ _ h => h) rfl (fun x hx => by have hcx := hx.cell hc.out (fun h => h); go_simp; rfl) ?_
          go_simp
          refine sched_alone 2 (by kernel_rfl) rfl rfl ?_
          go_simp
          refine (h1.out _).mono ?_
          rintro e w2 ⟨rfl, hu⟩
          refine ⟨hu, ?_⟩
          have U2 := Lib.hid hu
          clear hu
          go_simp
          refine sched_take 6 rfl (by kernel_rfl) (by kernel_rfl) (by kernel_rfl) (fun _ _ _ h => h) rfl (fun x hx => by go_simp; rfl) ?_
          go_simp
          refine sched_take 7 rfl (by kernel_rfl) (by kernel_rfl) (by kernel_rfl) (fun _ _ _ h => h) rfl (fun x hx => by go_simp; rfl) ?_
          go_simp
          refine sched_take 8 rfl (by kernel_rfl) (by kernel_rfl) (by kernel_rfl) (fun _ _ _ h => h) rfl (fun x hx => by go_simp; rfl) ?_
          go_simp
          refine sched_take 9 rfl (by kernel_rfl) (by kernel_rfl) (by kernel_rfl) (fun _ _ _ h => h) rfl (fun x hx => by go_simp; rfl) ?_
          go_simp
          refine sched_take 11 rfl (by kernel_rfl) (by kernel_rfl) (by kernel_rfl) (fun _ _ _ h => h) rfl (fun x hx => by go_simp; rfl) ?_
          go_simp
          refine sched_take 13 rfl (by kernel_rfl) (by kernel_rfl) (by kernel_rfl) (fun _ _ _ h => h) rfl (fun x hx => by go_simp; rfl) ?_
          go_simp
          refine sched_take 14 rfl (by kernel_rfl) (by kernel_rfl) (by kernel_rfl) (fun _ _ _ h => h) rfl (fun x hx => by go_simp; rfl) ?_
          go_simp
          refine sched_take 15 rfl (by kernel_rfl) (by kernel_rfl) (by kernel_rfl) (fun _ _ _ h => h) rfl (fun x hx => by have hcx := hx.cell (U2.out.cell hc.out (fun h => h)) (fun h => h); go_simp; rfl) ?_
          go_simp
          refine sched_alone 10 (by kernel_rfl) rfl rfl ?_
          go_simp
          refine (hW.out _).mono ?_
          rintro e w3 ⟨rfl, hu⟩
          refine ⟨hu, ?_⟩
          have U3 := Lib.hid (U2.out.trans hu)
          clear hu
          go_simp
          refine sched_alone 12 (by kernel_rfl) rfl rfl ?_
          go_simp
          refine (h2.out _).mono ?_
          rintro e w4 ⟨rfl, hu⟩
          refine ⟨hu, ?_⟩
          have U4 := Lib.hid (U3.out.trans hu)
          clear hu
          go_simp
          refine sched_take 16 rfl (by kernel_rfl) (by kernel_rfl) (by kernel_rfl) (fun _ _ _ h => h) rfl (fun x hx => by go_simp; rfl) ?_
          go_simp
          refine sched_take 17 rfl (by kernel_rfl) (by kernel_rfl) (by kernel_rfl) (fun _ _ _ h => h) rfl (fun x hx => by go_simp; rfl) ?_
          go_simp
          refine sched_take 18 rfl (by kernel_rfl) (by kernel_rfl) (by kernel_rfl) (fun _ _ _ h => h) rfl (fun x hx => by go_simp; rfl) ?_
          go_simp
          refine sched_take 19 rfl (by kernel_rfl) (by kernel_rfl) (by kernel_rfl) (fun _ _ _ h => h) rfl (fun x hx => by go_simp; rfl) ?_
          go_simp
          refine sched_take 20 rfl (by kernel_rfl) (by kernel_rfl) (by kernel_rfl) (fun _ _ _ h => h) rfl (fun x hx => by go_simp; rfl) ?_
          go_simp
          refine sched_take 21 rfl (by kernel_rfl) (by kernel_rfl) (by kernel_rfl) (fun _ _ _ h => h) rfl (fun x hx => by go_simp; rfl) ?_
          go_simp
          refine sched_take 22 rfl (by kernel_rfl) (by kernel_rfl) (by kernel_rfl) (fun _ _ _ h => h) rfl (fun x hx => by go_simp; rfl) ?_
          go_simp
          refine sched_done (by kernel_rfl) ?_
          go_wp2_with fail
          go_roundw
          case measure => simp [intOf]; omega
          case rel => exact ⟨k + 1, by omega, by go_num, Lib.hid (U4.out.heap hB.out (fun h => h)), Lib.hid (hU.out.drew.trans U4.out)⟩
      · skip
        refine sched_begin NoB (by kernel_rfl) ?_
        refine sched_take 0 rfl (by kernel_rfl) (by kernel_rfl) (by kernel_rfl) (fun _ _ _ h => h) rfl (fun x hx => by go_simp; rfl) ?_
        go_simp
        refine sched_take 1 rfl (by kernel_rfl) (by kernel_rfl) (by kernel_rfl) (fun _ _ _ h => h) rfl (fun x hx => by go_simp; rfl) ?_
        go_simp
        refine sched_take 3 rfl (by kernel_rfl) (by kernel_rfl) (by kernel_rfl) (fun _ _ _ h => h) rfl (fun x hx => by go_simp; rfl) ?_
        go_simp
        refine sched_take 4 rfl (by kernel_rfl) (by kernel_rfl) (by kernel_rfl) (fun _ _ _ h => h) rfl (fun x hx => by go_simp; rfl) ?_
        go_simp
        refine sched_take 5 rfl (by kernel_rfl) (by kernel_rfl) (by kernel_rfl) (fun _ _ _ h => h) rfl (fun x hx => by have hcx := hx.cell hc.out (fun h => h); go_simp; rfl) ?_
        go_simp
        refine sched_alone 2 (by kernel_rfl) rfl rfl ?_
        go_simp
        refine (h1.out _).mono ?_
        rintro e w2 ⟨rfl, hu⟩
        refine ⟨hu, ?_⟩
        have U2 := Lib.hid hu
        clear hu
        go_simp
        refine sched_take 6 rfl (by kernel_rfl) (by kernel_rfl) (by kernel_rfl) (fun _ _ _ h => h) rfl (fun x hx => by go_simp; rfl) ?_
        go_simp
        refine sched_take 7 rfl (by kernel_rfl) (by kernel_rfl) (by kernel_rfl) (fun _ _ _ h => h) rfl (fun x hx => by go_simp; rfl) ?_
        go_simp
        refine sched_take 8 rfl (by kernel_rfl) (by kernel_rfl) (by kernel_rfl) (fun _ _ _ h => h) rfl (fun x hx => by go_simp; rfl) ?_
        go_simp
        refine sched_take 9 rfl (by kernel_rfl) (by kernel_rfl) (by kernel_rfl) (fun _ _ _ h => h) rfl (fun x hx => by go_simp; rfl) ?_
        go_simp
        refine sched_take 11 rfl (by kernel_rfl) (by kernel_rfl) (by kernel_rfl) (fun _ _ _ h => h) rfl (fun x hx => by go_simp; rfl) ?_
        go_simp
        refine sched_take 13 rfl (by kernel_rfl) (by kernel_rfl) (by kernel_rfl) (fun _ _ _ h => h) rfl (fun x hx => by go_simp; rfl) ?_
        go_simp
        refine sched_take 14 rfl (by kernel_rfl) (by kernel_rfl) (by kernel_rfl) (fun _ _ _ h => h) rfl (fun x hx => by go_simp; rfl) ?_
        go_simp
        refine sched_take 15 rfl (by kernel_rfl) (by kernel_rfl) (by kernel_rfl) (fun _ _ _ h => h) rfl (fun x hx => by have hcx := hx.cell (U2.out.cell hc.out (fun h => h)) (fun h => h); go_simp; rfl) ?_
        go_simp
        refine sched_alone 10 (by kernel_rfl) rfl rfl ?_
        go_simp
        refine (hW.out _).mono ?_
        rintro e w3 ⟨rfl, hu⟩
        refine ⟨hu, ?_⟩
        have U3 := Lib.hid (U2.out.trans hu)
        clear hu
        go_simp
        refine sched_alone 12 (by kernel_rfl) rfl rfl ?_
        go_simp
        refine (h2.out _).mono ?_
        rintro e w4 ⟨rfl, hu⟩
        refine ⟨hu, ?_⟩
        have U4 := Lib.hid (U3.out.trans hu)
        clear hu
        go_simp
        refine sched_take 16 rfl (by kernel_rfl) (by kernel_rfl) (by kernel_rfl) (fun _ _ _ h => h) rfl (fun x hx => by go_simp; rfl) ?_
        go_simp
        refine sched_skip 17 rfl (by kernel_rfl) (by kernel_rfl) (by kernel_rfl) (fun _ _ _ h => h) rfl ?_
        go_simp
        refine sched_skip 18 rfl (by kernel_rfl) (by kernel_rfl) (by kernel_rfl) (fun _ _ _ h => h) rfl ?_
        go_simp
        refine sched_skip 19 rfl (by kernel_rfl) (by kernel_rfl) (by kernel_rfl) (fun _ _ _ h => h) rfl ?_
        go_simp
        refine sched_take 20 rfl (by kernel_rfl) (by kernel_rfl) (by kernel_rfl) (fun _ _ _ h => h) rfl (fun x hx => by go_simp; rfl) ?_
        go_simp
        refine sched_take 21 rfl (by kernel_rfl) (by kernel_rfl) (by kernel_rfl) (fun _ _ _ h => h) rfl (fun x hx => by go_simp; rfl) ?_
        go_simp
        refine sched_take 22 rfl (by kernel_rfl) (by kernel_rfl) (by kernel_rfl) (fun _ _ _ h => h) rfl (fun x hx => by go_simp; rfl) ?_
        go_simp
        refine sched_done (by kernel_rfl) ?_
        go_wp2_with fail
        go_roundw
        case measure => simp [intOf]; omega
        case rel => exact ⟨k + 1, by omega, by go_num, Lib.hid (U4.out.heap hB.out (fun h => h)), Lib.hid (hU.out.drew.trans U4.out)⟩
    · obtain rfl : k = 5 := by omega
      cases I
      · have hn := of_decide_eq_false HI.out
        have hV2 := hWno.out hn
        go_wp2_with fail
        refine (hNo.out hn _).mono ?_
        rintro e w3 ⟨rfl, hu⟩
        have U3 := Lib.hid (hU.out.trans hu)
        clear hu hU hV2
        go_wp2_with fail
        refine (hW.out _).mono ?_
        rintro e w4 ⟨rfl, hu⟩
        have hU := Lib.hid (U3.out.trans hu)
        clear hu
        have hV2 := hWno.out hn
        obtain rfl := hV2.symm
        go_wp2_with fail
        refine (hL.out _).mono ?_
        rintro e w5 ⟨rfl, hu⟩
        have U5 := Lib.hid (hU.out.trans hu)
        clear hu
        go_wp2_with fail
        refine (show Calls Try.prog 19 #[.int .u8 v, .int .i64 5] _ _ from hA5.out _).mono ?_
        rintro e w6 ⟨rfl, hu⟩
        have U6 := Lib.hid (U5.out.trans hu)
        clear hu
        go_wp2_with fail
        refine (hWin.out _).mono ?_
        rintro e w7 ⟨rfl, hu⟩
        have U7 := Lib.hid (U6.out.trans hu)
        clear hu
        go_wp2_with fail
        refine (hAm.out _).mono ?_
        rintro e w8 ⟨rfl, hu⟩
        have U8 := Lib.hid (U7.out.trans hu)
        clear hu
        have hd2 : decide (2 * (Gm : Int) > (m : Int)) = D := by rw [← HD.out]; exact decide_eq_decide.2 (by omega)
        have Hd := Lib.hid hd2
        clear hd2
        cases D
        · have hd2 : ¬ (m : Int) < 2 * (Gm : Int) := by have := of_decide_eq_false Hd.out; omega
          clear Hd
          go_wp2_with fail
          refine (awakeVotes_any _).mono ?_
          rintro e w9 ⟨rfl, hu⟩
          have U9 := Lib.hid (U8.out.trans hu)
          clear hu
          go_wp2_with fail
          go_ret
          exact ⟨by first | rfl | (simp; omega), U9.out⟩
        · have hd2 : (m : Int) < 2 * (Gm : Int) := by have := of_decide_eq_true Hd.out; omega
          clear Hd
          go_wp2_with fail
          refine (awakeVotes_any _).mono ?_
          rintro e w9 ⟨rfl, hu⟩
          have U9 := Lib.hid (U8.out.trans hu)
          clear hu
          go_wp2_with fail
          go_ret
          exact ⟨by first | rfl | (simp; omega), U9.out⟩
      · go_wp2_with fail
        refine (hL.out _).mono ?_
        rintro e w5 ⟨rfl, hu⟩
        have U5 := Lib.hid (hU.out.trans hu)
        clear hu
        go_wp2_with fail
        refine (show Calls Try.prog 19 #[.int .u8 v, .int .i64 5] _ _ from hA5.out _).mono ?_
        rintro e w6 ⟨rfl, hu⟩
        have U6 := Lib.hid (U5.out.trans hu)
        clear hu
        go_wp2_with fail
        refine (hWin.out _).mono ?_
        rintro e w7 ⟨rfl, hu⟩
        have U7 := Lib.hid (U6.out.trans hu)
        clear hu
        go_wp2_with fail
        refine (hAm.out _).mono ?_
        rintro e w8 ⟨rfl, hu⟩
        have U8 := Lib.hid (U7.out.trans hu)
        clear hu
        have hd2 : decide (2 * (Gm : Int) > (m : Int)) = D := by rw [← HD.out]; exact decide_eq_decide.2 (by omega)
        have Hd := Lib.hid hd2
        clear hd2
        cases D
        · have hd2 : ¬ (m : Int) < 2 * (Gm : Int) := by have := of_decide_eq_false Hd.out; omega
          clear Hd
          go_wp2_with fail
          refine (awakeVotes_any _).mono ?_
          rintro e w9 ⟨rfl, hu⟩
          have U9 := Lib.hid (U8.out.trans hu)
          clear hu
          go_wp2_with fail
          go_ret
          exact ⟨by first | rfl | (simp; omega), U9.out⟩
        · have hd2 : (m : Int) < 2 * (Gm : Int) := by have := of_decide_eq_true Hd.out; omega
          clear Hd
          go_wp2_with fail
          refine (awakeVotes_any _).mono ?_
          rintro e w9 ⟨rfl, hu⟩
          have U9 := Lib.hid (U8.out.trans hu)
          clear hu
          go_wp2_with fail
          go_ret
          exact ⟨by first | rfl | (simp; omega), U9.out⟩
end Go.Proofs.Ytflifeelgamaaaa
