/- Sealed bytes are as the chapter says, and whole; whether any bytes are whole is, too (CrcSeals): the law's walk. -/
import Derived.Test.YtcckljomjpfdaaaCrc3
namespace Go.Proofs.Ytcckljomjpfdaaa
open Go.RowKit Kit
set_option linter.unusedVariables false

theorem strOf_append (a b : List UInt8) : strOf (a ++ b) = strOf a ++ strOf b := by
  apply ByteArray.ext
  simp [strOf]
theorem strOf_toList (a : List UInt8) : (strOf a).toList = a := by rw [ByteArray.toList_eq]; rfl
theorem conv9 {w : World} {S : Nat → Prop} {v : Value} {l : List UInt8} (h : RSl Rep.byte w S v l) : (convert 29 9 v).run Try.prog w = .ok (.string (strOf l)) w :=
  conv_str h Try.underlying29 Try.underlying5 Try.underlying9
set_option maxHeartbeats 4000000 in
set_option maxRecDepth 100000 in
theorem crcSeals_walk {S : Nat → Prop} (v : Value) (l : List UInt8) (w : World) (h : RSl Rep.byte w S v l) :
    Calls Try.prog 7 #[v] w fun e w' => e = .returned (.bool true) ∧ Upd NoB w w' := by
  have hfa := Lib.hid (few_any v l w h)
  obtain ⟨A0, c0, _, rfl, _⟩ := h
  generalize hv : Value.slice A0 l.length c0 = v at *
  clear hv
  go_enter Try.func7, Try.ntmps7
  go_wp2_with fail
  refine hfa.out.mono ?_
  rintro e w' ⟨v1, rfl, h1, rfl⟩
  have hla : (l.take 300).length ≤ 300 := by rw [List.length_take]; omega
  generalize l.take 300 = b at *
  have H1 := Lib.hid h1
  obtain ⟨A, c, cs, rfl, d1, d2, d3, d4, d5⟩ := h1
  have d2' : c ≤ 9223372036854775807 := d2
  have HB := Lib.hid (fun w1 (hu : Upd NoB w w1) => H1.out.upd hu (fun _ _ h => h))
  have hse := Lib.hid (seal_any _ b w H1.out (by omega))
  have hof := Lib.hid (fun w1 (hu : Upd NoB w w1) => refof_any _ b w1 (HB.out _ hu))
  have hfo := Lib.hid (fun w1 => four_any (crcOf b) w1 (crcOf_lt b))
  have hwb := Lib.hid (fun w1 (hu : Upd NoB w w1) => whole_any _ b w1 (HB.out _ hu) (by omega))
  have hfl : (four (crcOf b)).length = 4 := rfl
  have hwt : whB (b ++ four (crcOf b)) = true := by rw [whB_iff b _ rfl]; exact decide_eq_true ((whole_iff b (four (crcOf b)) rfl).1 rfl)
  have hWB : Hid (4 ≤ b.length → ((strOf (four (crcOf (b.take (b.length - 4))))).toList == (strOf (b.drop (b.length - 4))).toList) = whB b) := Lib.hid (fun h4 => by
    rw [strOf_toList, strOf_toList]
    unfold whB
    rw [decide_eq_true h4, Bool.true_and, Bool.eq_iff_iff]
    simp only [beq_iff_eq, decide_eq_true_eq]
    refine ⟨fun e => by rw [e, List.take_append_drop], fun e => ?_⟩
    have := congrArg (List.drop (b.length - 4)) e
    rw [List.drop_append_of_le_length (by rw [List.length_take]; omega), List.drop_eq_nil_of_le (by rw [List.length_take]; omega), List.nil_append] at this
    exact this)
  have hWN : Hid (¬ 4 ≤ b.length → whB b = false) := Lib.hid (fun h4 => by unfold whB; rw [decide_eq_false h4]; rfl)
  generalize whB b = WB at *
  go_wp2_with fail
  refine hse.out.mono ?_
  rintro e w1 ⟨v2, rfl, hM⟩
  have U1 := Lib.hid hM.2
  have HM1 := Lib.hid hM.1.read
  have hws1 := Lib.hid (fun w2 (hu : Upd NoB w1 w2) => whole_any v2 (b ++ four (crcOf b)) w2 (hM.1.read.upd hu (fun _ _ h => h)) (by rw [List.length_append]; omega))
  rw [hwt] at hws1
  have z1 : (strOf b).size ≤ 300 := hla
  have z2 : (strOf (four (crcOf b))).size = 4 := rfl
  have y1 : ¬ 9223372036854775807 < (strOf b).size + 4 := by omega
  have q1 : ((strOf (b ++ four (crcOf b))).toList == (strOf b ++ strOf (four (crcOf b))).toList) = true := by rw [strOf_append]; simp
  clear hM hse hwt
  obtain ⟨A2, c2, _, e2, _⟩ := id HM1.out
  generalize (b ++ four (crcOf b)).length = N2 at e2
  subst e2
  by_cases h4 : 4 ≤ b.length
  · have hWB4 := hWB.out h4
    clear hWB hWN
    cases A with
    | none => have := d4 rfl; omega
    | some a =>
      obtain ⟨f1, f2, f3⟩ := d5 a rfl
      obtain ⟨g, o, sp⟩ := a
      simp only at f1
      subst f1
      have hpre := Lib.hid (H1.out.pre (b.length - 4) (by omega) (c' := c) (by omega) (Nat.le_refl _))
      have hpost := H1.out.post (b.length - 4) (by omega)
      rw [if_neg (show ¬ c = b.length - 4 by omega), show o + (b.length - 4) * Rep.byte.sz = o + (b.length - 4) from by simp [Rep.byte]] at hpost
      have HPO := Lib.hid hpost
      clear hpost d5 f3 d3 d4
      obtain ⟨n, hn⟩ : ∃ n, n = b.length - 4 := ⟨_, rfl⟩
      have hof2 := Lib.hid (fun w2 (hu : Upd NoB w w2) => refof_any _ (b.take n) w2 ((hn ▸ hpre.out).upd hu (fun _ _ h => h)))
      have hfo2 := Lib.hid (fun w2 => four_any (crcOf (b.take n)) w2 (crcOf_lt _))
      rw [← hn] at hWB4 HPO hpre
      have hbl : b.length = n + 4 := by omega
      have hn4 : (b.length : Int) - 4 = (n : Int) := by omega
      have hmx : max (n : Int) 0 = (n : Int) := by omega
      have hnc : n ≤ c := by omega
      have hnc2 : n < c := by omega
      have hb4 : b.length - n = 4 := by omega
      rw [hb4] at HPO
      clear hn
      rw [hbl] at H1 HB hof hwb
      have hn0 : ¬ (n : Int) < 0 := by omega
      have hcn : ¬ c = n := by omega
      have hnn : (n : Int) ≤ (n : Int) + 4 := by omega
      have hif : (if (n : Int) < 0 then (0 : Int) else (n : Int)) = (n : Int) := if_neg hn0
      generalize b.drop n = D at *
      generalize four (crcOf (b.take n)) = Q4 at *
      generalize crcOf (b.take n) = X4 at *
      go_wp2_with fail
      refine sched_begin NoB (by kernel_rfl) ?_
      refine sched_take 0 rfl (by kernel_rfl) (by kernel_rfl) (by kernel_rfl) (fun _ _ _ h => h) rfl (fun x hx => by go_simp; rfl) ?_
      go_simp
      refine sched_take 1 rfl (by kernel_rfl) (by kernel_rfl) (by kernel_rfl) (fun _ _ _ h => h) rfl (fun x hx => by go_simp; rfl) ?_
      go_simp
      refine sched_take 2 rfl (by kernel_rfl) (by kernel_rfl) (by kernel_rfl) (fun _ _ _ h => h) rfl (fun x hx => by go_simp; rfl) ?_
      go_simp
      refine sched_take 3 rfl (by kernel_rfl) (by kernel_rfl) (by kernel_rfl) (fun _ _ _ h => h) rfl (fun x hx => by go_simp; rfl) ?_
      go_simp
      refine sched_take 4 rfl (by kernel_rfl) (by kernel_rfl) (by kernel_rfl) (fun _ _ _ h => h) rfl (fun x hx => by go_simp; rfl) ?_
      go_simp
      refine sched_take 5 rfl (by kernel_rfl) (by kernel_rfl) (by kernel_rfl) (fun _ _ _ h => h) rfl (fun x hx => by go_simp; rfl) ?_
      go_simp
      refine sched_take 6 rfl (by kernel_rfl) (by kernel_rfl) (by kernel_rfl) (fun _ _ _ h => h) rfl (fun x hx => by go_simp; rfl) ?_
      go_simp
      refine sched_take 10 rfl (by kernel_rfl) (by kernel_rfl) (by kernel_rfl) (fun _ _ _ h => h) rfl (fun x hx => by go_simp; rfl) ?_
      go_simp
      refine sched_take 11 rfl (by kernel_rfl) (by kernel_rfl) (by kernel_rfl) (fun _ _ _ h => h) rfl (fun x hx => by go_simp; rfl) ?_
      go_simp
      refine sched_take 12 rfl (by kernel_rfl) (by kernel_rfl) (by kernel_rfl) (fun _ _ _ h => h) rfl (fun x hx => by go_simp; rfl) ?_
      go_simp
      refine sched_take 13 rfl (by kernel_rfl) (by kernel_rfl) (by kernel_rfl) (fun _ _ _ h => h) rfl (fun x hx => by go_simp; rfl) ?_
      go_simp
      refine sched_take 14 rfl (by kernel_rfl) (by kernel_rfl) (by kernel_rfl) (fun _ _ _ h => h) rfl (fun x hx => by have hcv := conv9 ((HPO.out.upd (U1.out.drew.trans hx) (fun _ _ h => h))); go_simp; rfl) ?_
      go_simp
      refine sched_alone 7 (by kernel_rfl) rfl rfl ?_
      go_simp
      refine (hof2.out _ U1.out.drew).mono ?_
      rintro e w2 ⟨rfl, hu⟩
      refine ⟨hu, ?_⟩
      have U2 := Lib.hid hu
      clear hu
      go_simp
      refine sched_alone 8 (by kernel_rfl) rfl rfl ?_
      go_simp
      refine (hfo2.out _).mono ?_
      rintro e w3 ⟨v3, rfl, hM3⟩
      refine ⟨hM3.2, ?_⟩
      have HM3 := Lib.hid hM3.1.read
      have U3 := Lib.hid (U2.out.trans hM3.2)
      clear hM3
      go_simp
      refine sched_take 9 rfl (by kernel_rfl) (by kernel_rfl) (by kernel_rfl) (fun _ _ _ h => h) rfl (fun x hx => by have hcv := conv9 (HM3.out.upd hx (fun _ _ h => h)); go_simp; rfl) ?_
      go_simp
      refine sched_take 15 rfl (by kernel_rfl) (by kernel_rfl) (by kernel_rfl) (fun _ _ _ h => h) rfl (fun x hx => by go_simp; rfl) ?_
      go_simp
      refine sched_take 16 rfl (by kernel_rfl) (by kernel_rfl) (by kernel_rfl) (fun _ _ _ h => h) rfl (fun x hx => by go_simp; rfl) ?_
      go_simp
      refine sched_take 17 rfl (by kernel_rfl) (by kernel_rfl) (by kernel_rfl) (fun _ _ _ h => h) rfl (fun x hx => by go_simp; rfl) ?_
      go_simp
      refine sched_done (by kernel_rfl) ?_
      have US := Lib.hid ((U1.out.drew.trans U3.out).drew)
      have HMr := Lib.hid (HM1.out.upd ((((Upd.refl NoB w1).drew.trans U3.out)).drew) (fun _ _ h => h))
      have hws := Lib.hid (fun w4 (hu : Upd NoB w3.drew w4) => hws1.out w4 ((((Upd.refl NoB w1).drew.trans U3.out).drew).trans hu))
      clear hws1 HM1 U1
      go_wp2_with fail
      refine sched_begin NoB (by kernel_rfl) ?_
      refine sched_take 0 rfl (by kernel_rfl) (by kernel_rfl) (by kernel_rfl) (fun _ _ _ h => h) rfl (fun x hx => by go_simp; rfl) ?_
      go_simp
      refine sched_take 1 rfl (by kernel_rfl) (by kernel_rfl) (by kernel_rfl) (fun _ _ _ h => h) rfl (fun x hx => by have hcv := conv9 (HMr.out.upd hx (fun _ _ h => h)); go_simp; rfl) ?_
      go_simp
      refine sched_take 2 rfl (by kernel_rfl) (by kernel_rfl) (by kernel_rfl) (fun _ _ _ h => h) rfl (fun x hx => by go_simp; rfl) ?_
      go_simp
      refine sched_take 3 rfl (by kernel_rfl) (by kernel_rfl) (by kernel_rfl) (fun _ _ _ h => h) rfl (fun x hx => by have hcv := conv9 ((HB.out _ US.out).upd hx (fun _ _ h => h)); go_simp; rfl) ?_
      go_simp
      refine sched_take 4 rfl (by kernel_rfl) (by kernel_rfl) (by kernel_rfl) (fun _ _ _ h => h) rfl (fun x hx => by go_simp; rfl) ?_
      go_simp
      refine sched_alone 5 (by kernel_rfl) rfl rfl ?_
      go_simp
      refine (hof.out _ US.out).mono ?_
      rintro e w5 ⟨rfl, hu⟩
      refine ⟨hu, ?_⟩
      have U5 := Lib.hid hu
      clear hu
      go_simp
      refine sched_alone 6 (by kernel_rfl) rfl rfl ?_
      go_simp
      refine (hfo.out _).mono ?_
      rintro e w6 ⟨v6, rfl, hM6⟩
      refine ⟨hM6.2, ?_⟩
      have HM6 := Lib.hid hM6.1.read
      have U6 := Lib.hid (U5.out.trans hM6.2)
      clear hM6
      go_simp
      refine sched_take 7 rfl (by kernel_rfl) (by kernel_rfl) (by kernel_rfl) (fun _ _ _ h => h) rfl (fun x hx => by have hcv := conv9 (HM6.out.upd hx (fun _ _ h => h)); go_simp; rfl) ?_
      go_simp
      refine sched_take 8 rfl (by kernel_rfl) (by kernel_rfl) (by kernel_rfl) (fun _ _ _ h => h) rfl (fun x hx => by go_simp; rfl) ?_
      go_simp
      refine sched_take 9 rfl (by kernel_rfl) (by kernel_rfl) (by kernel_rfl) (fun _ _ _ h => h) rfl (fun x hx => by go_simp; rfl) ?_
      go_simp
      refine sched_take 10 rfl (by kernel_rfl) (by kernel_rfl) (by kernel_rfl) (fun _ _ _ h => h) rfl (fun x hx => by go_simp; rfl) ?_
      go_simp
      refine sched_take 11 rfl (by kernel_rfl) (by kernel_rfl) (by kernel_rfl) (fun _ _ _ h => h) rfl (fun x hx => by go_simp; rfl) ?_
      go_simp
      refine sched_alone 12 (by kernel_rfl) rfl rfl ?_
      go_simp
      refine (hws.out _ U6.out).mono ?_
      rintro e w7 ⟨rfl, hu⟩
      refine ⟨hu, ?_⟩
      have U7 := Lib.hid (U6.out.trans hu)
      clear hu
      go_simp
      refine sched_take 13 rfl (by kernel_rfl) (by kernel_rfl) (by kernel_rfl) (fun _ _ _ h => h) rfl (fun x hx => by go_simp; rfl) ?_
      go_simp
      refine sched_take 14 rfl (by kernel_rfl) (by kernel_rfl) (by kernel_rfl) (fun _ _ _ h => h) rfl (fun x hx => by go_simp; rfl) ?_
      go_simp
      refine sched_take 15 rfl (by kernel_rfl) (by kernel_rfl) (by kernel_rfl) (fun _ _ _ h => h) rfl (fun x hx => by go_simp; rfl) ?_
      go_simp
      refine sched_take 17 rfl (by kernel_rfl) (by kernel_rfl) (by kernel_rfl) (fun _ _ _ h => h) rfl (fun x hx => by go_simp; rfl) ?_
      go_simp
      refine sched_alone 16 (by kernel_rfl) rfl rfl ?_
      go_simp
      refine (hwb.out _ (US.out.trans U7.out)).mono ?_
      rintro e w8 ⟨rfl, hu⟩
      refine ⟨hu, ?_⟩
      have U8 := Lib.hid (U7.out.trans hu)
      clear hu
      go_simp
      refine sched_take 18 rfl (by kernel_rfl) (by kernel_rfl) (by kernel_rfl) (fun _ _ _ h => h) rfl (fun x hx => by go_simp; rfl) ?_
      go_simp
      refine sched_take 19 rfl (by kernel_rfl) (by kernel_rfl) (by kernel_rfl) (fun _ _ _ h => h) rfl (fun x hx => by go_simp; rfl) ?_
      go_simp
      refine sched_take 20 rfl (by kernel_rfl) (by kernel_rfl) (by kernel_rfl) (fun _ _ _ h => h) rfl (fun x hx => by go_simp; rfl) ?_
      go_simp
      refine sched_alone 21 (by kernel_rfl) rfl rfl ?_
      go_simp
      refine (awakeCrc_any _).mono ?_
      rintro e w9 ⟨rfl, hu⟩
      refine ⟨hu, ?_⟩
      have U9 := Lib.hid (US.out.trans (U8.out.trans hu))
      clear hu
      go_simp
      refine sched_take 22 rfl (by kernel_rfl) (by kernel_rfl) (by kernel_rfl) (fun _ _ _ h => h) rfl (fun x hx => by go_simp; rfl) ?_
      go_simp
      refine sched_take 23 rfl (by kernel_rfl) (by kernel_rfl) (by kernel_rfl) (fun _ _ _ h => h) rfl (fun x hx => by go_simp; rfl) ?_
      go_simp
      refine sched_done (by kernel_rfl) ?_
      go_wp2_with fail
      go_ret
      exact ⟨by first | rfl | simp, U9.out⟩
  · have hWN4 := hWN.out h4
    subst hWN4
    clear hWB hWN d5 d4 d3
    have hn : ¬ (0 : Int) ≤ (b.length : Int) - 4 := by omega
    have hd : decide ((0 : Int) ≤ (b.length : Int) - 4) = false := decide_eq_false hn
    have hd2 : decide ((4 : Int) ≤ (b.length : Int)) = false := decide_eq_false (by omega)
    go_wp2_with fail
    refine sched_begin NoB (by kernel_rfl) ?_
    refine sched_take 0 rfl (by kernel_rfl) (by kernel_rfl) (by kernel_rfl) (fun _ _ _ h => h) rfl (fun x hx => by go_simp; rfl) ?_
    go_simp
    refine sched_take 1 rfl (by kernel_rfl) (by kernel_rfl) (by kernel_rfl) (fun _ _ _ h => h) rfl (fun x hx => by go_simp; rfl) ?_
    go_simp
    refine sched_take 2 rfl (by kernel_rfl) (by kernel_rfl) (by kernel_rfl) (fun _ _ _ h => h) rfl (fun x hx => by go_simp; rfl) ?_
    go_simp
    refine sched_skip 3 rfl (by kernel_rfl) (by kernel_rfl) (by kernel_rfl) (fun _ _ _ h => h) rfl ?_
    go_simp
    refine sched_skip 4 rfl (by kernel_rfl) (by kernel_rfl) (by kernel_rfl) (fun _ _ _ h => h) rfl ?_
    go_simp
    refine sched_skip 5 rfl (by kernel_rfl) (by kernel_rfl) (by kernel_rfl) (fun _ _ _ h => h) rfl ?_
    go_simp
    refine sched_skip 6 rfl (by kernel_rfl) (by kernel_rfl) (by kernel_rfl) (fun _ _ _ h => h) rfl ?_
    go_simp
    refine sched_skip 7 rfl (by kernel_rfl) (by kernel_rfl) (by kernel_rfl) (fun _ _ _ h => h) rfl ?_
    go_simp
    refine sched_skip 8 rfl (by kernel_rfl) (by kernel_rfl) (by kernel_rfl) (fun _ _ _ h => h) rfl ?_
    go_simp
    refine sched_skip 9 rfl (by kernel_rfl) (by kernel_rfl) (by kernel_rfl) (fun _ _ _ h => h) rfl ?_
    go_simp
    refine sched_skip 10 rfl (by kernel_rfl) (by kernel_rfl) (by kernel_rfl) (fun _ _ _ h => h) rfl ?_
    go_simp
    refine sched_skip 11 rfl (by kernel_rfl) (by kernel_rfl) (by kernel_rfl) (fun _ _ _ h => h) rfl ?_
    go_simp
    refine sched_skip 12 rfl (by kernel_rfl) (by kernel_rfl) (by kernel_rfl) (fun _ _ _ h => h) rfl ?_
    go_simp
    refine sched_skip 13 rfl (by kernel_rfl) (by kernel_rfl) (by kernel_rfl) (fun _ _ _ h => h) rfl ?_
    go_simp
    refine sched_skip 14 rfl (by kernel_rfl) (by kernel_rfl) (by kernel_rfl) (fun _ _ _ h => h) rfl ?_
    go_simp
    refine sched_skip 15 rfl (by kernel_rfl) (by kernel_rfl) (by kernel_rfl) (fun _ _ _ h => h) rfl ?_
    go_simp
    refine sched_take 16 rfl (by kernel_rfl) (by kernel_rfl) (by kernel_rfl) (fun _ _ _ h => h) rfl (fun x hx => by go_simp; rfl) ?_
    go_simp
    refine sched_take 17 rfl (by kernel_rfl) (by kernel_rfl) (by kernel_rfl) (fun _ _ _ h => h) rfl (fun x hx => by go_simp; rfl) ?_
    go_simp
    refine sched_done (by kernel_rfl) ?_
    have US := Lib.hid (U1.out.drew.drew)
    have HMr := Lib.hid (HM1.out.upd ((Upd.refl NoB w1).drew.drew) (fun _ _ h => h))
    have hws := Lib.hid (fun w4 (hu : Upd NoB w1.drew.drew w4) => hws1.out w4 (((Upd.refl NoB w1).drew.drew).trans hu))
    clear hws1 HM1 U1
    go_wp2_with fail
    refine sched_begin NoB (by kernel_rfl) ?_
    refine sched_take 0 rfl (by kernel_rfl) (by kernel_rfl) (by kernel_rfl) (fun _ _ _ h => h) rfl (fun x hx => by go_simp; rfl) ?_
    go_simp
    refine sched_take 1 rfl (by kernel_rfl) (by kernel_rfl) (by kernel_rfl) (fun _ _ _ h => h) rfl (fun x hx => by have hcv := conv9 (HMr.out.upd hx (fun _ _ h => h)); go_simp; rfl) ?_
    go_simp
    refine sched_take 2 rfl (by kernel_rfl) (by kernel_rfl) (by kernel_rfl) (fun _ _ _ h => h) rfl (fun x hx => by go_simp; rfl) ?_
    go_simp
    refine sched_take 3 rfl (by kernel_rfl) (by kernel_rfl) (by kernel_rfl) (fun _ _ _ h => h) rfl (fun x hx => by have hcv := conv9 ((HB.out _ US.out).upd hx (fun _ _ h => h)); go_simp; rfl) ?_
    go_simp
    refine sched_take 4 rfl (by kernel_rfl) (by kernel_rfl) (by kernel_rfl) (fun _ _ _ h => h) rfl (fun x hx => by go_simp; rfl) ?_
    go_simp
    refine sched_alone 5 (by kernel_rfl) rfl rfl ?_
    go_simp
    refine (hof.out _ US.out).mono ?_
    rintro e w5 ⟨rfl, hu⟩
    refine ⟨hu, ?_⟩
    have U5 := Lib.hid hu
    clear hu
    go_simp
    refine sched_alone 6 (by kernel_rfl) rfl rfl ?_
    go_simp
    refine (hfo.out _).mono ?_
    rintro e w6 ⟨v6, rfl, hM6⟩
    refine ⟨hM6.2, ?_⟩
    have HM6 := Lib.hid hM6.1.read
    have U6 := Lib.hid (U5.out.trans hM6.2)
    clear hM6
    go_simp
    refine sched_take 7 rfl (by kernel_rfl) (by kernel_rfl) (by kernel_rfl) (fun _ _ _ h => h) rfl (fun x hx => by have hcv := conv9 (HM6.out.upd hx (fun _ _ h => h)); go_simp; rfl) ?_
    go_simp
    refine sched_take 8 rfl (by kernel_rfl) (by kernel_rfl) (by kernel_rfl) (fun _ _ _ h => h) rfl (fun x hx => by go_simp; rfl) ?_
    go_simp
    refine sched_take 9 rfl (by kernel_rfl) (by kernel_rfl) (by kernel_rfl) (fun _ _ _ h => h) rfl (fun x hx => by go_simp; rfl) ?_
    go_simp
    refine sched_take 10 rfl (by kernel_rfl) (by kernel_rfl) (by kernel_rfl) (fun _ _ _ h => h) rfl (fun x hx => by go_simp; rfl) ?_
    go_simp
    refine sched_take 11 rfl (by kernel_rfl) (by kernel_rfl) (by kernel_rfl) (fun _ _ _ h => h) rfl (fun x hx => by go_simp; rfl) ?_
    go_simp
    refine sched_alone 12 (by kernel_rfl) rfl rfl ?_
    go_simp
    refine (hws.out _ U6.out).mono ?_
    rintro e w7 ⟨rfl, hu⟩
    refine ⟨hu, ?_⟩
    have U7 := Lib.hid (U6.out.trans hu)
    clear hu
    go_simp
    refine sched_take 13 rfl (by kernel_rfl) (by kernel_rfl) (by kernel_rfl) (fun _ _ _ h => h) rfl (fun x hx => by go_simp; rfl) ?_
    go_simp
    refine sched_take 14 rfl (by kernel_rfl) (by kernel_rfl) (by kernel_rfl) (fun _ _ _ h => h) rfl (fun x hx => by go_simp; rfl) ?_
    go_simp
    refine sched_take 15 rfl (by kernel_rfl) (by kernel_rfl) (by kernel_rfl) (fun _ _ _ h => h) rfl (fun x hx => by go_simp; rfl) ?_
    go_simp
    refine sched_take 17 rfl (by kernel_rfl) (by kernel_rfl) (by kernel_rfl) (fun _ _ _ h => h) rfl (fun x hx => by go_simp; rfl) ?_
    go_simp
    refine sched_alone 16 (by kernel_rfl) rfl rfl ?_
    go_simp
    refine (hwb.out _ (US.out.trans U7.out)).mono ?_
    rintro e w8 ⟨rfl, hu⟩
    refine ⟨hu, ?_⟩
    have U8 := Lib.hid (U7.out.trans hu)
    clear hu
    go_simp
    refine sched_take 18 rfl (by kernel_rfl) (by kernel_rfl) (by kernel_rfl) (fun _ _ _ h => h) rfl (fun x hx => by go_simp; rfl) ?_
    go_simp
    refine sched_take 19 rfl (by kernel_rfl) (by kernel_rfl) (by kernel_rfl) (fun _ _ _ h => h) rfl (fun x hx => by go_simp; rfl) ?_
    go_simp
    refine sched_take 20 rfl (by kernel_rfl) (by kernel_rfl) (by kernel_rfl) (fun _ _ _ h => h) rfl (fun x hx => by go_simp; rfl) ?_
    go_simp
    refine sched_alone 21 (by kernel_rfl) rfl rfl ?_
    go_simp
    refine (awakeCrc_any _).mono ?_
    rintro e w9 ⟨rfl, hu⟩
    refine ⟨hu, ?_⟩
    have U9 := Lib.hid (US.out.trans (U8.out.trans hu))
    clear hu
    go_simp
    refine sched_take 22 rfl (by kernel_rfl) (by kernel_rfl) (by kernel_rfl) (fun _ _ _ h => h) rfl (fun x hx => by go_simp; rfl) ?_
    go_simp
    refine sched_take 23 rfl (by kernel_rfl) (by kernel_rfl) (by kernel_rfl) (fun _ _ _ h => h) rfl (fun x hx => by go_simp; rfl) ?_
    go_simp
    refine sched_done (by kernel_rfl) ?_
    go_wp2_with fail
    go_ret
    exact ⟨by first | rfl | simp, U9.out⟩
end Go.Proofs.Ytcckljomjpfdaaa
