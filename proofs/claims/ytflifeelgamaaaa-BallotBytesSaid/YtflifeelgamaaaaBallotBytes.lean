/- A ballot's bytes are as the chapter says, and read as it was (BallotBytes): the law's walk. -/
import Derived.Test.YtflifeelgamaaaaBallotB3
import Derived.Test.YtflifeelgamaaaaBallotNext
import Derived.Deep.Cut
import Derived.Deep.CutRange
import Derived.Test.YtflifeelgamaaaaSched
import Derived.Test.YtflifeelgamaaaaOctetReads
namespace Go.Proofs.Ytflifeelgamaaaa
open Go.RowKit Kit Oct
set_option linter.unusedVariables false

theorem awakeB_any (w : World) : Calls Try.prog 21 #[] w fun e w' => e = .returned (.bool true) ∧ Upd NoB w w' := by
  have h := next_awake 0
  exact (PBallotNext.sautoirlaw07_awake.calls 8 true w h).mono fun e w' ⟨he, hd⟩ => ⟨he, Upd.of_below hd _⟩

theorem sched_less {P : Program} {ops : Array Oper} {Q : Exit → Act → World → Prop} {F : Nat → Prop} {fuel : Nat} {listed : Array Bool} {a : Act} {w : World} (h : Sched P ops Q NoB fuel listed a w) : Sched P ops Q F fuel listed a w :=
  heldMono (fun _ h => h.mono (fun _ _ h => h.elim)) _ _ _ _ h

theorem strOf_appendB (a b : List UInt8) : strOf (a ++ b) = strOf a ++ strOf b := by
  apply ByteArray.ext
  simp [strOf]

set_option maxHeartbeats 8000000 in
set_option maxRecDepth 100000 in
theorem ballotBytes_walk {S : Nat → Prop} (r : Nat) (d : Int) (v : Value) (l : List UInt8) (w : World) (hr : r < 2 ^ 64) (h : RSl Rep.byte w S v l) (hS : Bd S w) :
    Calls Try.prog 14 #[.agg #[.int .u64 r, .int .i64 d], v] w fun e w' => e = .returned (.bool true) ∧ Upd NoB w w' := by
  have ua : Upd NoB w (w.alloc (.cells #[.int .u64 r, .int .i64 d] 41)) := (Upd.refl NoB w).alloc _
  have hx := heap_alloc_new w (.cells #[.int .u64 r, .int .i64 d] 41)
  have HA := Lib.hid (h.upd ua (fun _ _ h => h))
  have HU := Lib.hid ua
  have HX := Lib.hid hx
  obtain ⟨A, c, cs, rfl, d1, d2, d3, d4, d5⟩ := id h
  have d2' : c ≤ 9223372036854775807 := d2
  clear ua hx h
  go_enter Try.func14, Try.ntmps14
  go_upto_if 14 with fail
  go_cut [1] from 12 to 93 (fun v1 wc => ∃ B, Hid (RSl Rep.byte wc S v1 B) ∧ B.length ≤ 60 ∧ wc = w.alloc (.cells #[.int .u64 r, .int .i64 d] 41))
  case first =>
    by_cases hl : 60 < l.length
    · have hl' : (60 : Int) < (l.length : Int) := by omega
      cases A with
      | none => have := d4 rfl; omega
      | some a =>
        obtain ⟨f1, f2, f3⟩ := d5 a rfl
        obtain ⟨g, o, sp⟩ := a
        simp only at f1
        subst f1
        have f4 : (60 : Int) ≤ (c : Int) := by omega
        have fin := Lib.hid (HA.out.pre 60 (by omega) (c' := c) (by omega) (Nat.le_refl _))
        go_wp2_with fail
        go_meet
        exact ⟨l.take 60, fin, by rw [List.length_take]; omega, rfl⟩
    · have hl' : ¬ (60 : Int) < (l.length : Int) := by omega
      go_wp2_with fail
      go_meet
      exact ⟨l, HA, by omega, rfl⟩
  case rest =>
    obtain ⟨B, HB, hB, rfl⟩ := hcut
    generalize hwa : w.alloc (.cells #[.int .u64 r, .int .i64 d] 41) = wa at *
    obtain ⟨A1, c1, cs1, rfl, x1, x2, _, x4, _⟩ := id HB.out
    have x2' : c1 ≤ 9223372036854775807 := x2
    have X0 := BCells.of HX.out
    obtain ⟨k0, k1, k2, k3⟩ := X0
    have ho := Lib.hid (ours_any (r : Int) d wa)
    have hp := Lib.hid (fun (x : World) (u : Upd NoB wa x) => bput_any _ B r d x (HB.out.upd u (fun _ _ h => h)) (by omega) hr)
    have hbe := ballot_enc r d hr
    have hE1 := enc_pos r
    have hE2 : (enc r ++ enc (ncode d)).length ≤ 20 := by have := enc_len10 hr; have := enc_len10 (show ncode d < 2 ^ 64 by have := ncode_le d; omega); rw [List.length_append]; omega
    have hE3 : 0 < (enc r ++ enc (ncode d)).length := by rw [List.length_append]; omega
    have hE4 : B ++ enc r ++ enc (ncode d) = B ++ (enc r ++ enc (ncode d)) := List.append_assoc _ _ _
    have HRP := Lib.hid (fun (x : World) => rbput_any r d x hr)
    rw [hE4] at hp
    generalize hEE : enc r ++ enc (ncode d) = E at *
    generalize hdd : (if 0 ≤ d ∧ d ≤ 4 then d else -1) = dd at *
    have HBE := Lib.hid hbe
    have HDD := Lib.hid hdd
    clear hbe hE1 hE4 hEE hdd k2 k3
    go_wp2_with fail
    refine ho.out.mono ?_
    rintro e w1 ⟨rfl, hu⟩
    have HU1 := Lib.hid hu
    clear hu ho
    go_wp2_with fail
    refine (hp.out w1 HU1.out).mono ?_
    rintro e w2 ⟨v5, rfl, ho, hu⟩
    have HU2 := Lib.hid (HU1.out.trans hu)
    have H5 := Lib.hid ho.read
    clear hu hp HU1
    obtain ⟨A5, c5, cs5, rfl, y1, y2, _, y4, y5⟩ := id ho.read
    clear ho
    have y2' : c5 ≤ 9223372036854775807 := y2
    have hL : (B ++ E).length = B.length + E.length := List.length_append
    rcases A5 with _ | ⟨g5, o5, sp5⟩
    · have := y4 rfl; omega
    obtain ⟨rfl, -, -⟩ := y5 _ rfl
    have hcut := H5.out.post B.length (by omega)
    have hne : ¬ c5 = B.length := by omega
    rw [if_neg hne, List.drop_left, show o5 + B.length * Rep.byte.sz = o5 + B.length from by simp [Rep.byte]] at hcut
    rw [show (B ++ E).length - B.length = E.length by omega] at hcut
    have hnw := Lib.hid (new_any _ E w2 hcut (by omega))
    have hb3 : B.length ≤ (B ++ E).length := by omega
    have hbc : B.length ≤ c5 := by omega
    have hlt5 : ¬ ((B ++ E).length : Int) < (B.length : Int) := by omega
    generalize hL5 : (B ++ E).length = L5 at *
    clear hcut y4 y5
    go_wp2_with fail
    refine hnw.out.mono ?_
    rintro e w3 ⟨p, rfl, hp1, hp2, hrd, hu⟩
    have HU3 := Lib.hid (HU2.out.trans hu)
    have HV3 := Lib.hid hu
    have hq := bread_any p _ w3 hrd (fun b hb => by have := hb.2; omega)
    rw [HBE.out] at hq
    have HQ := Lib.hid hq
    clear hrd hu hq hnw
    go_wp2_with fail
    refine HQ.out.mono ?_
    rintro e w4 ⟨rfl, ha⟩
    have HD := Lib.hid ha.1
    have HU4 := Lib.hid (show Upd NoB wa w4 from HU3.out.then ha.2 (fun i hi e => by have := HU2.out.size; have : i = p := e; omega))
    have HV4 := Lib.hid (show Upd NoB w2 w4 from HV3.out.then ha.2 (fun i hi e => by have : i = p := e; omega))
    clear ha HQ
    go_wp2_with fail
    refine (plain_any (r : Int) dd w4).mono ?_
    rintro e w5 ⟨rfl, hu⟩
    have HU5 := Lib.hid (HU4.out.trans hu)
    have HV5 := Lib.hid (HV4.out.trans hu)
    have HD5 := Lib.hid (HD.out.keep hu (fun _ _ h => h) (fun h => h))
    clear hu HD HU4
    have ux := ((HU5.out.alloc (.cells #[.int .u64 r, .int .i64 dd] 41)))
    have X5 := BCells.of (ux.heap HX.out (fun h => h))
    obtain ⟨l0, l1, l2, l3⟩ := X5
    go_upto_region 9 with fail
    go_cut [42] from 12 to 93 (fun v42 wc => v42 = .bool (!decide (0 ≤ d ∧ d ≤ 4)) ∧ wc = (w5.alloc (.cells #[.int .u64 r, .int .i64 dd] 41)).alloc (.cells #[.int .u64 r, .int .i64 d] 41))
    case first =>
      by_cases q1 : d < 0
      · have e : decide (0 ≤ d ∧ d ≤ 4) = false := by simp; omega
        go_wp2_with fail
        go_meet
        exact ⟨by rw [e]; rfl, rfl⟩
      · by_cases q2 : 4 < d
        · have e : decide (0 ≤ d ∧ d ≤ 4) = false := by simp; omega
          go_wp2_with fail
          go_meet
          exact ⟨by rw [e]; rfl, rfl⟩
        · have e : decide (0 ≤ d ∧ d ≤ 4) = true := by simp; omega
          go_wp2_with fail
          go_meet
          exact ⟨by rw [e]; rfl, rfl⟩
    case rest =>
      obtain ⟨rfl, rfl⟩ := hcut
      go_upto_if 42 with fail
      go_cut [] from 12 to 93 (fun wc => wc = (w5.alloc (.cells #[.int .u64 r, .int .i64 dd] 41)).alloc (.cells #[.int .u64 r, .int .i64 dd] 41))
      case first =>
        by_cases q : 0 ≤ d ∧ d ≤ 4
        · have e := HDD.out
          rw [if_pos q] at e
          subst e
          have e2 : decide (0 ≤ d ∧ d ≤ 4) = true := by simpa using q
          rw [e2]
          go_wp2_with fail
          go_meet
          exact rfl
        · have e := HDD.out
          rw [if_neg q] at e
          subst e
          have e2 : decide (0 ≤ d ∧ d ≤ 4) = false := by simpa using q
          rw [e2]
          go_wp2_with fail
          go_meet
          exact rfl
      case rest =>
        obtain rfl := hcut
        have ub : Upd NoB wa ((w5.alloc (.cells #[.int .u64 r, .int .i64 dd] 41)).alloc (.cells #[.int .u64 r, .int .i64 dd] 41)) := (HU5.out.alloc _).alloc _
        have u2q : Upd NoB w2 ((w5.alloc (.cells #[.int .u64 r, .int .i64 dd] 41)).alloc (.cells #[.int .u64 r, .int .i64 dd] 41)) := (HV5.out.alloc _).alloc _
        have u5 : Upd NoB w5 ((w5.alloc (.cells #[.int .u64 r, .int .i64 dd] 41)).alloc (.cells #[.int .u64 r, .int .i64 dd] 41)) := ((Upd.refl NoB w5).alloc _).alloc _
        have b8 := heap_alloc_new (w5.alloc (.cells #[.int .u64 r, .int .i64 dd] 41)) (.cells #[.int .u64 r, .int .i64 dd] 41)
        have b7 := ((Upd.refl NoB (w5.alloc (.cells #[.int .u64 r, .int .i64 dd] 41))).alloc (.cells #[.int .u64 r, .int .i64 dd] 41)).heap (heap_alloc_new w5 (.cells #[.int .u64 r, .int .i64 dd] 41)) (fun h => h)
        rw [show (w5.alloc (.cells #[.int .u64 r, .int .i64 dd] 41)).heap.size = w5.heap.size + 1 by simp] at b8
        have hRd := HD5.out.keep u5 (fun _ _ h => h) (fun h => h)
        clear ux l0 l1 l2 l3 HD5
        generalize (w5.alloc (.cells #[.int .u64 r, .int .i64 dd] 41)).alloc (.cells #[.int .u64 r, .int .i64 dd] 41) = wq at *
        generalize w5.heap.size = g7 at *
        have bx := ub.heap HX.out (fun h => h)
        have C7 := Lib.hid (fun x (hx : Upd NoB wq.drew x) => BCells.of (hx.heap (w := wq.drew) b7 (fun h => h)))
        have C8 := Lib.hid (fun x (hx : Upd NoB wq.drew x) => BCells.of (hx.heap (w := wq.drew) b8 (fun h => h)))
        have CX := Lib.hid (fun x (hx : Upd NoB wq.drew x) => BCells.of (hx.heap (w := wq.drew) bx (fun h => h)))
        have H5' := H5.out
        rw [hL] at H5'
        have R1 := Lib.hid (fun x (hx : Upd NoB wq.drew x) => hRd.keep ((Upd.refl NoB wq).drew.trans hx) (fun _ _ h => h) (fun h => h))
        have S5 := Lib.hid (fun x (hx : Upd NoB wq.drew x) => conv9 (H5'.upd ((u2q.drew).trans hx) (fun _ _ h => h)))
        have SB := Lib.hid (fun x (hx : Upd NoB wq.drew x) => conv9 (HB.out.upd ((ub.drew).trans hx) (fun _ _ h => h)))
        have UB := Lib.hid ub
        clear ub u5 b7 b8 hRd bx H5' u2q
        have z1 : (strOf B).size ≤ 60 := by rw [strOf_size]; exact hB
        have z2 : (strOf E).size ≤ 20 := by rw [strOf_size]; exact hE2
        have y1 : ¬ 9223372036854775807 < (strOf B).size + (strOf E).size := by omega
        go_wp2_with fail
        refine sched_begin NoB (by kernel_rfl) ?_
        refine sched_take 0 rfl (by kernel_rfl) (by kernel_rfl) (by kernel_rfl) (fun _ _ _ h => h) rfl (fun x hx => by go_simp; rfl) ?_
        go_simp
        refine sched_take 1 rfl (by kernel_rfl) (by kernel_rfl) (by kernel_rfl) (fun _ _ _ h => h) rfl (fun x hx => by have hcv := S5.out x hx; rw [strOf_appendB] at hcv; go_simp; rfl) ?_
        go_simp
        refine sched_take 2 rfl (by kernel_rfl) (by kernel_rfl) (by kernel_rfl) (fun _ _ _ h => h) rfl (fun x hx => by go_simp; rfl) ?_
        go_simp
        refine sched_take 3 rfl (by kernel_rfl) (by kernel_rfl) (by kernel_rfl) (fun _ _ _ h => h) rfl (fun x hx => by have hcv := SB.out x hx; go_simp; rfl) ?_
        go_simp
        refine sched_take 4 rfl (by kernel_rfl) (by kernel_rfl) (by kernel_rfl) (fun _ _ _ h => h) rfl (fun x hx => by obtain ⟨j0, j1, j2, j3⟩ := CX.out x hx; go_simp; rfl) ?_
        go_simp
        refine sched_alone 5 (by kernel_rfl) rfl rfl ?_
        go_simp
        refine (HRP.out _).mono ?_
        rintro e w7 ⟨v7, rfl, ho7, hu7⟩
        refine ⟨hu7, ?_⟩
        have HO7 := Lib.hid ho7.read
        have HU7 := Lib.hid hu7
        clear ho7 hu7
        go_simp
        refine sched_take 6 rfl (by kernel_rfl) (by kernel_rfl) (by kernel_rfl) (fun _ _ _ h => h) rfl (fun x hx => by have hcv := conv9 (HO7.out.upd hx (fun _ _ h => h)); go_simp; rfl) ?_
        go_simp
        refine sched_take 7 rfl (by kernel_rfl) (by kernel_rfl) (by kernel_rfl) (fun _ _ _ h => h) rfl (fun x hx => by go_simp; rfl) ?_
        go_simp
        refine sched_take 8 rfl (by kernel_rfl) (by kernel_rfl) (by kernel_rfl) (fun _ _ _ h => h) rfl (fun x hx => by go_simp; rfl) ?_
        go_simp
        refine sched_take 9 rfl (by kernel_rfl) (by kernel_rfl) (by kernel_rfl) (fun _ _ _ h => h) rfl (fun x hx => by go_simp; rfl) ?_
        go_simp
        refine sched_take 10 rfl (by kernel_rfl) (by kernel_rfl) (by kernel_rfl) (fun _ _ _ h => h) rfl (fun x hx => by obtain ⟨j0, j1, j2, j3⟩ := C7.out x (HU7.out.trans hx); go_simp; rfl) ?_
        go_simp
        refine sched_take 11 rfl (by kernel_rfl) (by kernel_rfl) (by kernel_rfl) (fun _ _ _ h => h) rfl (fun x hx => by obtain ⟨j0, j1, j2, j3⟩ := C8.out x (HU7.out.trans hx); go_simp; rfl) ?_
        go_simp
        refine sched_take 12 rfl (by kernel_rfl) (by kernel_rfl) (by kernel_rfl) (fun _ _ _ h => h) rfl (fun x hx => by go_simp; rfl) ?_
        go_simp
        refine sched_take 13 rfl (by kernel_rfl) (by kernel_rfl) (by kernel_rfl) (fun _ _ _ h => h) rfl (fun x hx => by go_simp; rfl) ?_
        go_simp
        refine sched_take 14 rfl (by kernel_rfl) (by kernel_rfl) (by kernel_rfl) (fun _ _ _ h => h) rfl (fun x hx => by go_simp; rfl) ?_
        go_simp
        refine sched_take 15 rfl (by kernel_rfl) (by kernel_rfl) (by kernel_rfl) (fun _ _ _ h => h) rfl (fun x hx => by go_simp; rfl) ?_
        go_simp
        refine sched_alone 16 (by kernel_rfl) rfl rfl ?_
        go_simp
        refine (done_any p _ w7 (R1.out w7 HU7.out)).mono ?_
        rintro e w8 ⟨rfl, rfl⟩
        refine ⟨Upd.refl _ _, ?_⟩
        go_simp
        refine sched_take 17 rfl (by kernel_rfl) (by kernel_rfl) (by kernel_rfl) (fun _ _ _ h => h) rfl (fun x hx => by go_simp; rfl) ?_
        go_simp
        refine sched_take 18 rfl (by kernel_rfl) (by kernel_rfl) (by kernel_rfl) (fun _ _ _ h => h) rfl (fun x hx => by go_simp; rfl) ?_
        go_simp
        refine sched_done (by kernel_rfl) ?_
        go_wp2_with fail
        have ub7 := (UB.out.drew).trans HU7.out
        have hB7 := HB.out.upd ub7 (fun _ _ h => h)
        have hsz7 : w.heap.size ≤ w7.heap.size := Nat.le_trans HU.out.size ub7.size
        have hBo : RSl Rep.byte w7 (Old w7) (.slice A1 B.length c1) B := hB7.mono (fun b hb => Nat.lt_of_lt_of_le (hS b hb) hsz7)
        have hn2 := Lib.hid (new_any _ B w7 hB7 (by omega))
        have HBo := Lib.hid hBo
        have UB7 := Lib.hid ub7
        clear ub7 hB7 hBo SB S5 C7 C8 CX R1 HO7 HRP HDD HBE y1 z1 z2
        refine hn2.out.mono ?_
        rintro e w8 ⟨p2, rfl, hp2a, hp2b, hr2, hu8⟩
        have t0 : Two w7 (fun b => w7.heap.size ≤ b ∧ b < p2) p2 w8.heap.size ⟨B, false⟩ ⟨B, false⟩ (w8.alloc (.cells #[(.slice A1 B.length c1), .int .i64 0, .bool false] 70)) := by
          have ua : Upd NoB w8 (w8.alloc (.cells #[(.slice A1 B.length c1), .int .i64 0, .bool false] 70)) := (Upd.refl NoB w8).alloc _
          exact ⟨hr2.keep ua (fun _ _ h => h) (fun h => h), ⟨B, 0, _, heap_alloc_new _ _, HBo.out.upd (hu8.trans ua) (fun _ _ h => h), fun h => by have : w8.heap.size < w7.heap.size := h; have := hu8.size; omega, by omega, by omega, rfl⟩, hu8.trans ua, hp2a, hp2b, fun b hb => hb.2⟩
        have hBd : Bd (fun b => w7.heap.size ≤ b ∧ b < p2) (w8.alloc (.cells #[(.slice A1 B.length c1), .int .i64 0, .bool false] 70)) := fun b hb => by have := hb.2; simp; omega
        generalize hS1 : (fun b => w7.heap.size ≤ b ∧ b < p2) = S1 at *
        have hq := Lib.hid (bread_any p2 _ _ t0.o hBd)
        have T0 := Lib.hid t0
        have HRB := Lib.hid (fun x h => rbread_any (S := Old w7) w8.heap.size ⟨B, false⟩ x h)
        generalize Rd.ballot ⟨B, false⟩ = bb at *
        obtain ⟨⟨bn, bd⟩, rb⟩ := bb
        clear t0 hBd hr2 hS1 hn2 HBo
        go_wp2_with fail
        refine hq.out.mono ?_
        rintro e w9 ⟨rfl, ha9⟩
        have T1 := Lib.hid (T0.out.oct ha9)
        clear ha9 hq
        go_wp2_with fail
        refine (plain_any (bn : Int) bd w9).mono ?_
        rintro e wt ⟨rfl, hut⟩
        have T2 := Lib.hid ((T1.out.grow hut).grow ((Upd.refl NoB wt).alloc (.cells #[.int .u64 bn, .int .i64 bd] 41)))
        have hg := heap_alloc_new wt (.cells #[.int .u64 bn, .int .i64 bd] 41)
        have hql : w8.heap.size < wt.heap.size := by obtain ⟨_, _, _, hh, _⟩ := (T1.out.grow hut).f; exact lt_of_heap hh
        clear hut T1
        go_wp2_with fail
        generalize wt.alloc (.cells #[.int .u64 bn, .int .i64 bd] 41) = wz at *
        generalize wt.heap.size = g9 at *
        generalize w8.heap.size = q2 at *
        have CG := Lib.hid (fun x (hx : Upd (fun b => b = q2) wz.drew x) => BCells.of (hx.heap (w := wz.drew) hg (fun e => by have : g9 = q2 := e; omega)))
        have hrb := Lib.hid (HRB.out _ (T2.out.grow ((Upd.refl NoB wz).drew)).f (fun b hb => Nat.lt_of_lt_of_le hb (T2.out.grow ((Upd.refl NoB wz).drew)).u.size))
        clear hg hql HRB
        refine sched_begin (fun b => b = q2) (by kernel_rfl) ?_
        refine sched_take 1 rfl (by kernel_rfl) (by kernel_rfl) (by kernel_rfl) (fun _ _ _ h => h) rfl (fun x hx => by go_simp; rfl) ?_
        go_simp
        refine sched_take 0 rfl (by kernel_rfl) (by kernel_rfl) (by kernel_rfl) (fun _ _ _ h => h) rfl (fun x hx => by obtain ⟨j0, j1, j2, j3⟩ := CG.out x hx; go_simp; rfl) ?_
        go_simp
        refine sched_alone 2 (by kernel_rfl) rfl rfl ?_
        go_simp
        refine hrb.out.mono ?_
        rintro e wy ⟨rfl, hay⟩
        refine ⟨hay.2, ?_⟩
        have T3 := Lib.hid ((T2.out.grow ((Upd.refl NoB wz).drew)).ref hay)
        clear hay
        obtain ⟨b, z, v3, a3, LB, LL, LR, LD, LC⟩ := tails T3.out
        refine sched_less ?_
        go_simp
        refine sched_take 3 rfl (by kernel_rfl) (by kernel_rfl) (by kernel_rfl) (fun _ _ _ h => h) rfl (fun x hx => by go_simp; rfl) ?_
        go_simp
        refine sched_take 4 rfl (by kernel_rfl) (by kernel_rfl) (by kernel_rfl) (fun _ _ _ h => h) rfl (fun x hx => by go_simp; rfl) ?_
        go_simp
        refine sched_take 5 rfl (by kernel_rfl) (by kernel_rfl) (by kernel_rfl) (fun _ _ _ h => h) rfl (fun x hx => by go_simp; rfl) ?_
        go_simp
        refine sched_take 7 rfl (by kernel_rfl) (by kernel_rfl) (by kernel_rfl) (fun _ _ _ h => h) rfl (fun x hx => by go_simp; rfl) ?_
        go_simp
        refine sched_take 8 rfl (by kernel_rfl) (by kernel_rfl) (by kernel_rfl) (fun _ _ _ h => h) rfl (fun x hx => by go_simp; rfl) ?_
        go_simp
        refine sched_take 9 rfl (by kernel_rfl) (by kernel_rfl) (by kernel_rfl) (fun _ _ _ h => h) rfl (fun x hx => by go_simp; rfl) ?_
        go_simp
        refine sched_take 10 rfl (by kernel_rfl) (by kernel_rfl) (by kernel_rfl) (fun _ _ _ h => h) rfl (fun x hx => by obtain ⟨j0, j1, j2, j3, j4⟩ := LC.out x hx; go_simp; rfl) ?_
        go_simp
        refine sched_alone 6 (by kernel_rfl) rfl rfl ?_
        go_simp
        refine (LB.out _ (Upd.refl _ _)).mono ?_
        rintro e w4 ⟨rfl, rfl⟩
        refine ⟨Upd.refl _ _, ?_⟩
        go_simp
        refine sched_take 11 rfl (by kernel_rfl) (by kernel_rfl) (by kernel_rfl) (fun _ _ _ h => h) rfl (fun x hx => by go_simp; rfl) ?_
        go_simp
        refine sched_take 12 rfl (by kernel_rfl) (by kernel_rfl) (by kernel_rfl) (fun _ _ _ h => h) rfl (fun x hx => by go_simp; rfl) ?_
        go_simp
        refine sched_take 13 rfl (by kernel_rfl) (by kernel_rfl) (by kernel_rfl) (fun _ _ _ h => h) rfl (fun x hx => by go_simp; rfl) ?_
        go_simp
        refine sched_take 14 rfl (by kernel_rfl) (by kernel_rfl) (by kernel_rfl) (fun _ _ _ h => h) rfl (fun x hx => by go_simp; rfl) ?_
        go_simp
        refine sched_take 16 rfl (by kernel_rfl) (by kernel_rfl) (by kernel_rfl) (fun _ _ _ h => h) rfl (fun x hx => by go_simp; rfl) ?_
        go_simp
        refine sched_alone 15 (by kernel_rfl) rfl rfl ?_
        go_simp
        refine (LL.out _ (Upd.refl _ _)).mono ?_
        rintro e w4 ⟨rfl, rfl⟩
        refine ⟨Upd.refl _ _, ?_⟩
        go_simp
        refine sched_alone 17 (by kernel_rfl) rfl rfl ?_
        go_simp
        refine (LR.out _ (Upd.refl _ _)).mono ?_
        rintro e wv ⟨rfl, hu⟩
        refine ⟨hu, ?_⟩
        have HUv := Lib.hid (T3.out.u.trans hu)
        clear hu
        go_simp
        refine sched_take 18 rfl (by kernel_rfl) (by kernel_rfl) (by kernel_rfl) (fun _ _ _ h => h) rfl (fun x hx => by go_simp; rfl) ?_
        go_simp
        refine sched_take 19 rfl (by kernel_rfl) (by kernel_rfl) (by kernel_rfl) (fun _ _ _ h => h) rfl (fun x hx => by go_simp; rfl) ?_
        go_simp
        refine sched_take 20 rfl (by kernel_rfl) (by kernel_rfl) (by kernel_rfl) (fun _ _ _ h => h) rfl (fun x hx => by go_simp; rfl) ?_
        go_simp
        refine sched_alone 21 (by kernel_rfl) rfl rfl ?_
        go_simp
        refine (awakeB_any _).mono ?_
        rintro e wu ⟨rfl, hu⟩
        refine ⟨hu, ?_⟩
        have HUu := Lib.hid (HU.out.trans (UB7.out.trans (HUv.out.trans hu)))
        clear hu
        go_simp
        refine sched_take 22 rfl (by kernel_rfl) (by kernel_rfl) (by kernel_rfl) (fun _ _ _ h => h) rfl (fun x hx => by go_simp; rfl) ?_
        go_simp
        refine sched_take 23 rfl (by kernel_rfl) (by kernel_rfl) (by kernel_rfl) (fun _ _ _ h => h) rfl (fun x hx => by go_simp; rfl) ?_
        go_simp
        refine sched_done (by kernel_rfl) ?_
        go_wp2_with fail
        go_ret
        exact ⟨rfl, HUu.out⟩
end Go.Proofs.Ytflifeelgamaaaa
