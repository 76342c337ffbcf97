/- The shards of keys are as the chapter says (KeysShards): the law's walk. -/
import Derived.Test.YtcckljomjpfdaaaShards
import Derived.Test.YtcckljomjpfdaaaSched
namespace Go.Proofs.Ytcckljomjpfdaaa
open Go.RowKit Kit
set_option linter.unusedVariables false

theorem i9 : (Try.prog.info? 9).map (fun i => (i.zero, i.size, i.bytes)) = some (some (.string ⟨#[]⟩), 1, 16) := by kernel_rfl
set_option maxHeartbeats 1000000 in
theorem short_any (s : ByteArray) (w : World) (hs : s.size ≤ 9223372036854775807) : Calls Try.prog 13 #[.string s] w fun e w' => ∃ r : ByteArray, e = .returned (.string r) ∧ r.size ≤ 80 ∧ w = w' := by
  by_cases h : 80 < s.size
  · have h' : (80 : Int) < (s.size : Int) := by omega
    go_enter Try.func13, Try.ntmps13
    go_wp2_with fail
    go_ret
    exact ⟨s.extract 0 80, rfl, by simp; omega, rfl⟩
  · have h' : ¬ (80 : Int) < (s.size : Int) := by omega
    go_enter Try.func13, Try.ntmps13
    go_wp2_with fail
    go_ret
    exact ⟨s, rfl, by omega, rfl⟩
theorem hsh_a : hsh ⟨#[97]⟩ 1 = 177604 := by decide +kernel
theorem sgp_a : sgp ⟨#[97]⟩ 1 = true := by decide +kernel
set_option maxHeartbeats 1000000 in
/-- Chapter 8's example. -/
theorem awakeKeys_any (w : World) : Calls Try.prog 16 #[] w fun e w' => e = .returned (.bool true) ∧ Upd NoB w w' := by
  have h1 := number_any ⟨#[97]⟩ w (by decide)
  rw [show (ByteArray.mk #[97]).size = 1 from rfl, hsh_a] at h1
  have h2 := fun w => right_any ⟨#[97]⟩ w (by decide)
  simp only [show (ByteArray.mk #[97]).size = 1 from rfl, sgp_a] at h2
  have h3 := fun w => right_any ⟨#[]⟩ w (by decide)
  simp only [show (ByteArray.mk #[]).size = 0 from rfl] at h3
  have H1 := Lib.hid h1
  have H2 := Lib.hid h2
  have H3 := Lib.hid h3
  clear h1 h2 h3
  go_enter Try.func16, Try.ntmps16
  go_wp2_with fail
  refine H1.out.mono ?_
  rintro e w1 ⟨rfl, hu⟩
  have HU := Lib.hid hu
  clear hu
  go_wp2_with fail
  refine (H2.out _).mono ?_
  rintro e w2 ⟨rfl, rfl⟩
  go_wp2_with fail
  refine (H3.out _).mono ?_
  rintro e w3 ⟨rfl, rfl⟩
  go_wp2_with fail
  go_ret
  exact ⟨by first | rfl | simp, HU.out⟩

set_option maxHeartbeats 4000000 in
set_option maxRecDepth 100000 in
theorem keysShards_walk {S : Nat → Prop} (v : Value) (l : List ByteArray) (n : Int) (w : World) (h : RSl Rep.str w S v l) :
    Calls Try.prog 3 #[v, .int .i64 n] w fun e w' => e = .returned (.bool true) ∧ Upd NoB w w' := by
  have HX := Lib.hid h
  obtain ⟨A, c, cs, rfl, d1, d2, _⟩ := h
  have d2' : c ≤ 9223372036854775807 := d2
  go_enter Try.func3, Try.ntmps3
  go_wp2_with fail
  go_loopw [5, 6, 7, 13] (fun v5 x6 x7 i wr => ∃ k : Nat, k ≤ l.length ∧ i = .int .i64 k ∧ ∃ ol : List ByteArray, ol.length ≤ k ∧ ol.length ≤ 20 ∧ Hid (Mine Rep.str 9 w wr v5 ol)) (fun _ _ _ i _ => l.length - (intOf i).toNat)
  case atStart => exact ⟨0, by omega, rfl, [], by simp, by simp, Lib.hid (Mine.nil w (Upd.refl _ _))⟩
  case round =>
    obtain ⟨k, hk, rfl, ol, ho1, ho2, hM⟩ := hrel
    obtain ⟨A5, c5, _, rfl, d51, d52, _⟩ := hM.out.1.read
    have d52' : c5 ≤ 9223372036854775807 := d52
    generalize hv5 : Value.slice A5 _ c5 = v5 at *
    have HV5 := Lib.hid hv5
    clear hv5
    by_cases hlt : k < l.length
    · obtain ⟨g, o, u, rfl, hu, hc, hg⟩ := HX.out.cell1 rfl k hlt
      obtain ⟨hu1, hu2⟩ := hu
      obtain rfl := (List.cons.inj hu1).1
      have hc2 := hM.out.2.cell hc (fun h => h)
      have hcall := Lib.hid (fun w => short_any l[k] w hu2)
      generalize l[k] = s at *
      clear hc hu1
      by_cases h20 : k < 20
      · go_wp2_with fail
        refine (hcall.out _).mono ?_
        rintro e w2 ⟨r, rfl, hr, rfl⟩
        have hy := Lib.hid (show Rep.str.rep wr NoB r #[.string r].toList from ⟨rfl, by show r.size ≤ 9223372036854775807; omega⟩)
        have HO := Lib.hid hM.out.1
        have HB := Lib.hid hM.out.bd
        have hall : (ol.length + 1) * 16 ≤ 140737488355328 := by omega
        go_wp2_with (at_builtin; go_must (refine app_one (r := Rep.str) (y := r) rfl _ _ 22 9 (.string ⟨#[]⟩) 16 rfl Try.underlying22 i9 rfl (by decide) rfl rfl HO.out HB.out hy.out (fun b hb => hb.elim) hall ?_))
        intro v1 w2 hoo huu
        have fin := Lib.hid (hM.out.app hoo huu)
        clear hoo huu
        go_wp2_with fail
        go_roundw
        case measure => simp [intOf]; omega
        case rel => exact ⟨k + 1, by omega, by go_num, ol ++ [r], by simp; omega, by simp; omega, fin⟩
      · go_wp2_with fail
        go_roundw
        case measure => simp [intOf]; omega
        case rel => exact ⟨k + 1, by omega, by go_num, ol, by omega, by omega, hM⟩
    · have hM1 := hM
      have hS1 := Lib.hid (shards_any v5 ol n wr hM.out.1.read hM.out.bd)
      have hS2 := Lib.hid (fun w' (hu : Upd NoB wr w') => refshards_any v5 ol n w' (hM.out.1.read.upd hu (fun _ _ h => h)) (hM.out.bd.upd hu))
      have hOl := outl_len (sA ol n ol.length) 4
      generalize outl (sA ol n ol.length) 4 = O at *
      go_wp2_with fail
      refine hS1.out.mono ?_
      rintro e w2 ⟨va, rfl, ha⟩
      have HA := Lib.hid ha
      clear ha
      go_wp2_with fail
      refine (hS2.out _ HA.out.2).mono ?_
      rintro e w3 ⟨vb, rfl, hb⟩
      have HBb := Lib.hid hb
      have HA2 := Lib.hid (HA.out.upd hb.2)
      clear hb
      obtain ⟨Aa, ca, _, rfl, _, da2, _⟩ := HA2.out.1.read
      obtain ⟨Ab, cb, _, rfl, _, db2, _⟩ := HBb.out.1.read
      have da2' : ca ≤ 9223372036854775807 := da2
      have db2' : cb ≤ 9223372036854775807 := db2
      have HU3 := Lib.hid (hM1.out.2.trans HA2.out.2)
      obtain ⟨wo, rfl⟩ : ∃ wo : World, wo = wr := ⟨_, rfl⟩
      go_wp2_with fail
      go_loopw [10, 39] (fun x10 i wr => ∃ k : Nat, k ≤ O.length ∧ i = .int .i64 k ∧ Hid (Upd NoB w3 wr)) (fun _ i _ => O.length - (intOf i).toNat)
      case atStart => exact ⟨0, by omega, rfl, Lib.hid (Upd.refl _ _)⟩
      case round =>
        obtain ⟨m, hm, rfl, hU⟩ := hrel
        by_cases hlt2 : m < O.length
        · obtain ⟨ga, oa, ua, rfl, hua, hca, _⟩ := HA2.out.1.read.cell1 rfl m hlt2
          obtain ⟨gb, ob, ub, rfl, hub, hcb, _⟩ := HBb.out.1.read.cell1 rfl m hlt2
          obtain rfl := (List.cons.inj hua.1).1
          obtain rfl := (List.cons.inj hub.1).1
          have HCA := Lib.hid (hU.out.drew.cell hca (fun h => h))
          have HCB := Lib.hid (hU.out.drew.cell hcb (fun h => h))
          generalize O[m] = z at *
          have m1 : (0 : Int) ≤ (m : Int) := by omega
          have m2 : (m : Int) < (O.length : Int) := by omega
          clear hua hub hca hcb
          go_wp2_with fail
          refine sched_begin NoB (by kernel_rfl) ?_
          refine sched_take 0 rfl (by kernel_rfl) (by kernel_rfl) (by kernel_rfl) (fun _ _ _ h => h) rfl (fun x hx => by go_simp; rfl) ?_
          go_simp
          refine sched_take 1 rfl (by kernel_rfl) (by kernel_rfl) (by kernel_rfl) (fun _ _ _ h => h) rfl (fun x hx => by go_simp; rfl) ?_
          go_simp
          refine sched_take 2 rfl (by kernel_rfl) (by kernel_rfl) (by kernel_rfl) (fun _ _ _ h => h) rfl (fun x hx => by go_simp; rfl) ?_
          go_simp
          refine sched_take 3 rfl (by kernel_rfl) (by kernel_rfl) (by kernel_rfl) (fun _ _ _ h => h) rfl (fun x hx => by have hcx := hx.cell HCA.out (fun h => h); go_simp; rfl) ?_
          go_simp
          refine sched_take 4 rfl (by kernel_rfl) (by kernel_rfl) (by kernel_rfl) (fun _ _ _ h => h) rfl (fun x hx => by go_simp; rfl) ?_
          go_simp
          refine sched_take 5 rfl (by kernel_rfl) (by kernel_rfl) (by kernel_rfl) (fun _ _ _ h => h) rfl (fun x hx => by go_simp; rfl) ?_
          go_simp
          refine sched_take 6 rfl (by kernel_rfl) (by kernel_rfl) (by kernel_rfl) (fun _ _ _ h => h) rfl (fun x hx => by go_simp; rfl) ?_
          go_simp
          refine sched_take 7 rfl (by kernel_rfl) (by kernel_rfl) (by kernel_rfl) (fun _ _ _ h => h) rfl (fun x hx => by have hcx := hx.cell HCB.out (fun h => h); go_simp; rfl) ?_
          go_simp
          refine sched_take 8 rfl (by kernel_rfl) (by kernel_rfl) (by kernel_rfl) (fun _ _ _ h => h) rfl (fun x hx => by go_simp; rfl) ?_
          go_simp
          refine sched_done (by kernel_rfl) ?_
          go_wp2_with fail
          go_roundw
          case measure => simp [intOf]; omega
          case rel => exact ⟨m + 1, by omega, by go_num, Lib.hid hU.out.drew⟩
        · go_wp2_with fail
          refine (awakeKeys_any _).mono ?_
          rintro e w4 ⟨rfl, hu⟩
          have HU4 := Lib.hid ((HU3.out.trans hU.out).trans hu)
          clear hu
          go_wp2_with fail
          go_ret
          exact ⟨rfl, HU4.out⟩
end Go.Proofs.Ytcckljomjpfdaaa
