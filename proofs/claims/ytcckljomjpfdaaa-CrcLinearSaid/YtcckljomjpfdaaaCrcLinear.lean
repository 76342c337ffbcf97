/- The state of two rows put together by exclusive or is that of both (CrcLinear): the law's walk. -/
import Derived.Test.YtcckljomjpfdaaaCrc3
import Derived.Deep.Cut
import Derived.Deep.CutRange
namespace Go.Proofs.Ytcckljomjpfdaaa
open Go.RowKit Kit
set_option linter.unusedVariables false

theorem xor_u8 (a b : UInt8) : bits .xor .u8 (a.toNat : Int) (b.toNat : Int) = (((a ^^^ b).toNat : Nat) : Int) := by
  have ha := a.toNat_lt
  have hb := b.toNat_lt
  have h1 : (BitVec.ofInt 8 (a.toNat : Int)).toNat = a.toNat := by rw [BitVec.ofInt_natCast, BitVec.toNat_ofNat]; exact Nat.mod_eq_of_lt (by omega)
  have h2 : (BitVec.ofInt 8 (b.toNat : Int)).toNat = b.toNat := by rw [BitVec.ofInt_natCast, BitVec.toNat_ofNat]; exact Nat.mod_eq_of_lt (by omega)
  have hx : a.toNat ^^^ b.toNat < 2 ^ 8 := Nat.xor_lt_two_pow (by omega) (by omega)
  show IntKind.u8.wrap ((BitVec.ofInt 8 (a.toNat : Int) ^^^ BitVec.ofInt 8 (b.toNat : Int)).toNat : Int) = _
  rw [BitVec.toNat_xor, h1, h2, UInt8.toNat_xor]
  simp [IntKind.wrap, IntKind.bits, IntKind.signed]
  omega
theorem zip_snoc (a b : List UInt8) (k : Nat) (ha : k < a.length) (hb : k < b.length) : (List.zipWith (· ^^^ ·) a b).take (k + 1) = (List.zipWith (· ^^^ ·) a b).take k ++ [a[k] ^^^ b[k]] := by
  rw [List.take_succ_eq_append_getElem (by rw [List.length_zipWith]; omega), List.getElem_zipWith]

set_option maxHeartbeats 2000000 in
set_option maxRecDepth 100000 in
theorem crcLinear_walk {S : Nat → Prop} (s t : Nat) (va vb : Value) (la lb : List UInt8) (w : World) (ha : RSl Rep.byte w S va la) (hb : RSl Rep.byte w S vb lb) (hs : s < 4294967296) (ht : t < 4294967296) :
    Calls Try.prog 6 #[.int .u32 s, .int .u32 t, va, vb] w fun e w' => e = .returned (.bool true) ∧ Upd NoB w w' := by
  have hfa := Lib.hid (few_any va la w ha)
  have hfb := Lib.hid (few_any vb lb w hb)
  have hxst := xor_u32 s t hs ht
  have hxlt : s ^^^ t < 4294967296 := Nat.xor_lt_two_pow (n := 32) hs ht
  have hlin := Lib.hid (fun a b h => crcm_linear s t a b h)
  have hmx := Lib.hid (fun (v : Value) (l : List UInt8) w1 (h : RSl Rep.byte w1 (grow NoB w w1) v l) => more_any (s ^^^ t) v l w1 h hxlt)
  generalize s ^^^ t = st at *
  have HST := Lib.hid hxst
  clear hxst
  obtain ⟨A0, c0, _, rfl, _⟩ := ha
  generalize hv : Value.slice A0 la.length c0 = va at *
  clear hv
  obtain ⟨A0, c0, _, rfl, _⟩ := hb
  generalize hv : Value.slice A0 lb.length c0 = vb at *
  clear hv
  go_enter Try.func6, Try.ntmps6
  go_wp2_with fail
  refine hfa.out.mono ?_
  rintro e w' ⟨v1, rfl, h1, rfl⟩
  go_wp2_with fail
  refine hfb.out.mono ?_
  rintro e w' ⟨v2, rfl, h2, rfl⟩
  have hla : (la.take 300).length ≤ 300 := by rw [List.length_take]; omega
  have hlb : (lb.take 300).length ≤ 300 := by rw [List.length_take]; omega
  generalize la.take 300 = a at *
  generalize lb.take 300 = b at *
  have H1 := Lib.hid h1
  have H2 := Lib.hid h2
  clear hfa hfb
  obtain ⟨A1, c1, _, rfl, a1, a2, _, a4, a5⟩ := h1
  obtain ⟨A2, c2, _, rfl, b1, b2, _, b4, b5⟩ := h2
  have a2' : c1 ≤ 9223372036854775807 := a2
  have b2' : c2 ≤ 9223372036854775807 := b2
  clear a2 b2
  go_upto_if 19 with fail
  go_cut [2] from 11 to 61 (fun v2 wc => Hid (RSl Rep.byte wc S v2 (a.take b.length)) ∧ wc = w)
  case first =>
    clear b5
    by_cases hl : b.length < a.length
    · have hl' : (b.length : Int) < (a.length : Int) := by omega
      cases A1 with
      | none => have := a4 rfl; omega
      | some ad =>
        obtain ⟨f1, f2, f3⟩ := a5 ad rfl
        obtain ⟨g, o, sp⟩ := ad
        simp only at f1
        subst f1
        have fin := Lib.hid (H1.out.pre b.length (by omega) (c' := c1) (by omega) (Nat.le_refl _))
        clear f3 a5 a4
        go_wp2_with fail
        go_meet
        case rel => exact ⟨fin, rfl⟩
    · have hl' : ¬ (b.length : Int) < (a.length : Int) := by omega
      have fin := Lib.hid (show RSl Rep.byte w S (.slice A1 a.length c1) (a.take b.length) by rw [List.take_of_length_le (by omega)]; exact H1.out)
      clear a5 a4
      go_wp2_with fail
      go_meet
      case rel => exact ⟨fin, rfl⟩
  obtain ⟨H3, hwc⟩ := hcut
  obtain rfl := hwc.symm
  clear a5 a4 a1 a2' H1
  have hla2 : (a.take b.length).length ≤ b.length := by rw [List.length_take]; omega
  generalize a.take b.length = a at *
  obtain ⟨A3, c3, _, rfl, d1, d2, _⟩ := id H3.out
  have d2' : c3 ≤ 9223372036854775807 := d2
  have hla2' : (a.length : Int) ≤ (b.length : Int) := by omega
  have hac : (a.length : Int) ≤ (c2 : Int) := by omega
  go_upto_region 4 with fail
  go_cut [3] from 11 to 61 (fun v3 wc => Hid (RSl Rep.byte wc S v3 (b.take a.length)) ∧ wc = w)
  case first =>
    cases A2 with
    | none =>
      obtain rfl : c2 = 0 := b4 rfl
      obtain rfl : b = [] := List.eq_nil_of_length_eq_zero (by omega)
      obtain rfl : a = [] := List.eq_nil_of_length_eq_zero (by simpa using hla2)
      have fin := Lib.hid (show RSl Rep.byte w S (.slice none 0 0) ([].take ([] : List UInt8).length) from RSl.nil w S)
      clear b5
      go_wp2_with fail
      go_meet
      case rel => exact ⟨fin, rfl⟩
    | some ad =>
      obtain ⟨f1, f2, f3⟩ := b5 ad rfl
      obtain ⟨g, o, sp⟩ := ad
      simp only at f1
      subst f1
      have fin := Lib.hid (H2.out.pre a.length hla2 (c' := c2) (by omega) (Nat.le_refl _))
      clear f3 b5 b4
      go_wp2_with fail
      go_meet
      case rel => exact ⟨fin, rfl⟩
  obtain ⟨H4, hwc⟩ := hcut
  obtain rfl := hwc.symm
  clear b5 b4 b1 b2' H2 hac
  have hlab : (b.take a.length).length = a.length := by rw [List.length_take]; omega
  generalize b.take a.length = b' at *
  have hfin := Lib.hid (hlin.out a b' hlab.symm)
  have hzl : (List.zipWith (· ^^^ ·) a b').length = a.length := by rw [List.length_zipWith, hlab, Nat.min_self]
  have hsn := Lib.hid (fun k (h : k < a.length) (h' : k < b'.length) => zip_snoc a b' k h h')
  have hfull := Lib.hid (show (List.zipWith (· ^^^ ·) a b').take a.length = List.zipWith (· ^^^ ·) a b' from List.take_of_length_le (by omega))
  generalize List.zipWith (· ^^^ ·) a b' = Z at *
  clear hlin
  have HLAB := Lib.hid hlab
  obtain ⟨A4, c4, _, e4, g1, g2, _⟩ := id H4.out
  rw [hlab] at e4
  subst e4
  have g2' : c4 ≤ 9223372036854775807 := g2
  clear hlab
  go_wp2_with fail
  go_loopw [9, 10, 30] (fun v9 x10 i wr => ∃ k : Nat, k ≤ a.length ∧ i = .int .i64 k ∧ Hid (Mine Rep.byte 5 w wr v9 (Z.take k))) (fun _ _ i _ => a.length - (intOf i).toNat)
  case atStart => exact ⟨0, by omega, rfl, Lib.hid (by simpa using Mine.nil w (Upd.refl _ _))⟩
  case round =>
    obtain ⟨k, hk, rfl, hM⟩ := hrel
    obtain ⟨A9, c9, _, rfl, d91, d92, _⟩ := hM.out.1.read
    generalize hv9 : Value.slice A9 _ c9 = v9 at *
    clear hv9 d91 d92
    by_cases hlt : k < a.length
    · have hltb : k < b'.length := by rw [HLAB.out]; exact hlt
      have H4' := H4.out
      rw [← HLAB.out] at H4'
      obtain ⟨ga, oa, ua, rfl, hua, hca, _⟩ := H3.out.cell1 rfl k hlt
      obtain ⟨gb, ob, ub, rfl, hub, hcb, _⟩ := RSl.cell1 rfl H4' k hltb
      obtain rfl := (List.cons.inj hua).1
      obtain rfl := (List.cons.inj hub).1
      have HCA := Lib.hid hca
      have HCB := Lib.hid hcb
      have hxo := xor_u8 a[k] b'[k]
      have hq := Lib.hid (hsn.out k hlt hltb)
      have m1 : (0 : Int) ≤ (k : Int) := by omega
      have m2 : (k : Int) < (a.length : Int) := by omega
      have hall : ((Z.take k).length + 1) * 1 ≤ 140737488355328 := by rw [List.length_take]; omega
      generalize a[k] = x at *
      generalize b'[k] = y at *
      generalize x ^^^ y = xy at *
      have HXO := Lib.hid hxo
      have hMd := Lib.hid (hM.out.upd (Upd.refl NoB wr).drew)
      clear hua hub hca hcb hxo H4'
      go_wp2_with fail
      refine sched_begin (fun b => v9.ownBlock = some b) (by kernel_rfl) ?_
      refine sched_take 0 rfl (by kernel_rfl) (by kernel_rfl) (by kernel_rfl) (fun _ _ _ h => h) rfl (fun x hx => by go_simp; rfl) ?_
      go_simp
      refine sched_take 1 rfl (by kernel_rfl) (by kernel_rfl) (by kernel_rfl) (fun _ _ _ h => h) rfl (fun x hx => by go_simp; rfl) ?_
      go_simp
      refine sched_take 2 rfl (by kernel_rfl) (by kernel_rfl) (by kernel_rfl) (fun _ _ _ h => h) rfl (fun x hx => by go_simp; rfl) ?_
      go_simp
      refine sched_take 3 rfl (by kernel_rfl) (by kernel_rfl) (by kernel_rfl) (fun _ _ _ h => h) rfl (fun x hx => by go_simp; rfl) ?_
      go_simp
      refine sched_take 4 rfl (by kernel_rfl) (by kernel_rfl) (by kernel_rfl) (fun _ _ _ h => h) rfl (fun x hx => by have hcx := hMd.out.cell_old hx HCA.out; go_simp; rfl) ?_
      go_simp
      refine sched_take 5 rfl (by kernel_rfl) (by kernel_rfl) (by kernel_rfl) (fun _ _ _ h => h) rfl (fun x hx => by go_simp; rfl) ?_
      go_simp
      refine sched_take 6 rfl (by kernel_rfl) (by kernel_rfl) (by kernel_rfl) (fun _ _ _ h => h) rfl (fun x hx => by go_simp; rfl) ?_
      go_simp
      refine sched_take 7 rfl (by kernel_rfl) (by kernel_rfl) (by kernel_rfl) (fun _ _ _ h => h) rfl (fun x hx => by go_simp; rfl) ?_
      go_simp
      refine sched_take 8 rfl (by kernel_rfl) (by kernel_rfl) (by kernel_rfl) (fun _ _ _ h => h) rfl (fun x hx => by have hcx := hMd.out.cell_old hx HCB.out; go_simp; rfl) ?_
      go_simp
      refine sched_take 9 rfl (by kernel_rfl) (by kernel_rfl) (by kernel_rfl) (fun _ _ _ h => h) rfl (fun x hx => by go_simp; rfl) ?_
      go_simp
      refine sched_alone 10 (by kernel_rfl) rfl rfl ?_
      go_simp
      refine ⟨(Upd.refl _ _).alloc _, ?_⟩
      have hy := Lib.hid (show Rep.byte.rep wr.drew NoB xy #[.int .u8 (bits .xor .u8 (x.toNat : Int) (y.toNat : Int))].toList by show [_] = [_]; rw [HXO.out])
      have HO := Lib.hid hMd.out.1
      have HB := Lib.hid hMd.out.bd
      refine sched_law 11 (by kernel_rfl) rfl rfl ?_
      go_simp
      at_builtin
      refine app_one' (r := Rep.byte) (v := v9) (y := xy) rfl _ _ 29 5 (.int .u8 0) 1 rfl Try.underlying29 i5 rfl (by decide) rfl rfl HO.out HB.out hy.out (fun b hb => hb.elim) hall ?_
      intro v2 w3 ho2 hu2 hu3
      refine law_done ⟨hu3, ?_⟩
      have fin := Lib.hid (hMd.out.app ho2 hu2)
      clear ho2 hu2 hu3
      go_simp
      refine sched_take 12 rfl (by kernel_rfl) (by kernel_rfl) (by kernel_rfl) (fun _ _ _ h => h) rfl (fun x hx => by go_simp; rfl) ?_
      go_simp
      refine sched_done (by kernel_rfl) ?_
      go_wp2_with fail
      go_roundw
      case measure => simp [intOf]; omega
      case rel => exact ⟨k + 1, by omega, by go_num, Lib.hid (by rw [hq.out]; exact fin.out)⟩
    · obtain rfl : k = a.length := by omega
      have hM2 := Lib.hid (show Mine Rep.byte 5 w wr v9 Z by rw [← hfull.out]; exact hM.out)
      have c1 := Lib.hid (hmx.out v9 Z wr hM2.out.1.read)
      have c2 := Lib.hid (fun w1 (hu : Upd NoB w w1) => more_any s _ a w1 (H3.out.upd hu (fun _ _ h => h)) hs)
      have c3 := Lib.hid (fun w1 (hu : Upd NoB w w1) => more_any t _ b' w1 (H4.out.upd hu (fun _ _ h => h)) ht)
      have hX := crcm_lt hs a
      have hY := crcm_lt ht b'
      rw [hfin.out] at c1
      have hxy := Lib.hid (xor_u32 _ _ hX hY)
      have hxl : crcm s a ^^^ crcm t b' < 4294967296 := Nat.xor_lt_two_pow (n := 32) hX hY
      generalize crcm s a ^^^ crcm t b' = XY at *
      generalize crcm s a = X at *
      generalize crcm t b' = Y at *
      have hst := HST.out
      go_wp2_with fail
      refine c1.out.mono ?_
      rintro e w3 ⟨rfl, hu⟩
      have U3 := Lib.hid (hM2.out.2.trans hu)
      clear hu
      go_wp2_with fail
      refine (c2.out _ U3.out).mono ?_
      rintro e w4 ⟨rfl, hu⟩
      have U4 := Lib.hid (U3.out.trans hu)
      clear hu
      go_wp2_with fail
      refine (c3.out _ U4.out).mono ?_
      rintro e w5 ⟨rfl, hu⟩
      have U5 := Lib.hid (U4.out.trans hu)
      clear hu
      have hxy2 := hxy.out
      go_wp2_with fail
      refine (awakeCrc_any _).mono ?_
      rintro e w6 ⟨rfl, hu⟩
      have U6 := Lib.hid (U5.out.trans hu)
      clear hu
      go_wp2_with fail
      go_ret
      exact ⟨rfl, U6.out⟩
end Go.Proofs.Ytcckljomjpfdaaa
