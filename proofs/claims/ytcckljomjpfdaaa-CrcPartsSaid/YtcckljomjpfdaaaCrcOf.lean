/- The sum of any bytes, and the state behind them (CrcOf); two parts one behind the other (CrcParts): the laws' walks. -/
import Derived.Test.YtcckljomjpfdaaaCrc3
namespace Go.Proofs.Ytcckljomjpfdaaa
open Go.RowKit Kit
set_option linter.unusedVariables false

set_option maxHeartbeats 1000000 in
set_option maxRecDepth 100000 in
theorem crcOf_walk {S : Nat → Prop} (s : Nat) (v : Value) (l : List UInt8) (w : World) (h : RSl Rep.byte w S v l) (hs : s < 4294967296) :
    Calls Try.prog 4 #[.int .u32 s, v] w fun e w' => e = .returned (.bool true) ∧ Upd NoB w w' := by
  have hf := Lib.hid (few_any v l w h)
  obtain ⟨A0, c0, _, rfl, _⟩ := h
  generalize hv : Value.slice A0 l.length c0 = v at *
  clear hv
  go_enter Try.func4, Try.ntmps4
  go_wp2_with fail
  refine hf.out.mono ?_
  rintro e w' ⟨v1, rfl, h1, rfl⟩
  generalize l.take 300 = b at *
  have H1 := Lib.hid (fun w1 (hu : Upd NoB w w1) => h1.upd hu (fun _ _ h => h))
  have ha := Lib.hid (fun w1 (hu : Upd NoB w w1) => of_any v1 b w1 (H1.out w1 hu))
  have hb := Lib.hid (fun w1 (hu : Upd NoB w w1) => refof_any v1 b w1 (H1.out w1 hu))
  have hc := Lib.hid (fun w1 (hu : Upd NoB w w1) => more_any s v1 b w1 (H1.out w1 hu) hs)
  have hd := Lib.hid (fun w1 (hu : Upd NoB w w1) => refmore_any s v1 b w1 (H1.out w1 hu) hs)
  clear h1 hf
  generalize crcOf b = X at *
  generalize crcm s b = Y at *
  go_wp2_with fail
  refine (ha.out _ (Upd.refl _ _)).mono ?_
  rintro e w1 ⟨rfl, hu⟩
  have U1 := Lib.hid hu
  clear hu
  go_wp2_with fail
  refine (hb.out _ U1.out).mono ?_
  rintro e w2 ⟨rfl, hu⟩
  have U2 := Lib.hid (U1.out.trans hu)
  clear hu
  go_wp2_with fail
  refine (hc.out _ U2.out).mono ?_
  rintro e w3 ⟨rfl, hu⟩
  have U3 := Lib.hid (U2.out.trans hu)
  clear hu
  go_wp2_with fail
  refine (hd.out _ U3.out).mono ?_
  rintro e w4 ⟨rfl, hu⟩
  have U4 := Lib.hid (U3.out.trans hu)
  clear hu
  go_wp2_with fail
  refine (awakeCrc_any _).mono ?_
  rintro e w5 ⟨rfl, hu⟩
  have U5 := Lib.hid (U4.out.trans hu)
  clear hu
  go_wp2_with fail
  go_ret
  exact ⟨rfl, U5.out⟩

theorem crcm_append (s : Nat) (a b : List UInt8) : crcm s (a ++ b) = crcm (crcm s a) b := by
  induction a generalizing s with
  | nil => rfl
  | cons c a ih => exact ih _
set_option maxHeartbeats 1000000 in
set_option maxRecDepth 100000 in
theorem crcParts_walk {S : Nat → Prop} (s : Nat) (va vb : Value) (la lb : List UInt8) (w : World) (ha : RSl Rep.byte w S va la) (hb : RSl Rep.byte w S vb lb) (hs : s < 4294967296) :
    Calls Try.prog 5 #[.int .u32 s, va, vb] w fun e w' => e = .returned (.bool true) ∧ Upd NoB w w' := by
  have hfa := Lib.hid (few_any va la w ha)
  have hfb := Lib.hid (few_any vb lb w hb)
  obtain ⟨A0, c0, _, rfl, _⟩ := ha
  generalize hv : Value.slice A0 la.length c0 = va at *
  clear hv
  obtain ⟨A0, c0, _, rfl, _⟩ := hb
  generalize hv : Value.slice A0 lb.length c0 = vb at *
  clear hv
  go_enter Try.func5, Try.ntmps5
  go_wp2_with fail
  refine hfa.out.mono ?_
  rintro e w' ⟨v1, rfl, h1, rfl⟩
  go_wp2_with fail
  refine hfb.out.mono ?_
  rintro e w' ⟨v2, rfl, h2, rfl⟩
  have hla : (la.take 300).length ≤ 300 := by rw [List.length_take]; omega
  have hlb : (lb.take 300).length ≤ 300 := by rw [List.length_take]; omega
  generalize la.take 300 = a at *
  generalize lb.take 300 = b at *
  have H1 := Lib.hid (fun w1 (hu : Upd NoB w w1) => h1.upd hu (fun _ _ h => h))
  have H2 := Lib.hid (fun w1 (hu : Upd NoB w w1) => h2.upd hu (fun _ _ h => h))
  have hm := Lib.hid (crcm_append s a b)
  have hlt := crcm_lt hs a
  clear h1 h2 hfa hfb
  have u0 : Upd NoB w (w.alloc (.cells #[] 5)) := (Upd.refl NoB w).alloc _
  have H0 := Lib.hid (show Mine Rep.byte 5 w (w.alloc (.cells #[] 5)) (.slice (some ⟨w.heap.size, 0, none⟩) 0 0) [] from
    ⟨OSl.made (r := Rep.byte) (e := 5) (w := w) (S := grow NoB w (w.alloc (.cells #[] 5))) #[] 0 (by simp) (by decide) ⟨.inr (Nat.le_refl _), by simp⟩, u0⟩)
  have HO := Lib.hid H0.out.1
  have HB := Lib.hid H0.out.bd
  have Ha := Lib.hid (H1.out _ u0)
  clear u0
  go_wp2_with (at_builtin; go_must (refine app_all (r := Rep.byte) rfl _ _ 29 5 (.int .u8 0) 1 rfl Try.underlying29 i5 rfl (by decide) rfl rfl HO.out HB.out Ha.out (fun cs hc => Rows.flat flat_byte hc _ _) (by simp; omega) ?_))
  intro v3 w1 ho hu
  have M1 := Lib.hid (show Mine Rep.byte 5 w w1 v3 a from by simpa using H0.out.app ho hu)
  clear ho hu
  have HO1 := Lib.hid M1.out.1
  have HB1 := Lib.hid M1.out.bd
  have Hb := Lib.hid (H2.out _ M1.out.2)
  obtain ⟨A3, c3, _, rfl, _⟩ := M1.out.1.read
  generalize hv : Value.slice A3 a.length c3 = v3 at *
  clear hv
  go_wp2_with (at_builtin; go_must (refine app_all (r := Rep.byte) rfl _ _ 29 5 (.int .u8 0) 1 rfl Try.underlying29 i5 rfl (by decide) rfl rfl HO1.out HB1.out Hb.out (fun cs hc => Rows.flat flat_byte hc _ _) (by omega) ?_))
  intro v4 w2 ho hu
  have M2 := Lib.hid (M1.out.app ho hu)
  clear ho hu
  have c1 := Lib.hid (fun w3 (hu : Upd NoB w w3) => more_any s v1 a w3 (H1.out _ hu) hs)
  have c2 := Lib.hid (fun w3 (hu : Upd NoB w w3) => more_any (crcm s a) v2 b w3 (H2.out _ hu) hlt)
  have c3 := Lib.hid (fun w3 (hu : Upd NoB w2 w3) => more_any s v4 (a ++ b) w3 ((M2.out.upd hu).1.read) hs)
  rw [hm.out] at c3
  have U2 := Lib.hid M2.out.2
  generalize crcm s a = X at *
  generalize crcm X b = Y at *
  clear M1 HO1 HB1 Hb
  go_wp2_with fail
  refine (c1.out _ U2.out).mono ?_
  rintro e w3 ⟨rfl, hu⟩
  have U3 := Lib.hid hu
  clear hu
  go_wp2_with fail
  refine (c2.out _ (U2.out.trans U3.out)).mono ?_
  rintro e w4 ⟨rfl, hu⟩
  have U4 := Lib.hid (U3.out.trans hu)
  clear hu
  go_wp2_with fail
  refine (c3.out _ U4.out).mono ?_
  rintro e w5 ⟨rfl, hu⟩
  have U5 := Lib.hid ((U2.out.trans U4.out).trans hu)
  clear hu
  go_wp2_with fail
  refine (awakeCrc_any _).mono ?_
  rintro e w6 ⟨rfl, hu⟩
  have U6 := Lib.hid (U5.out.trans hu)
  clear hu
  go_wp2_with fail
  go_ret
  exact ⟨rfl, U6.out⟩
end Go.Proofs.Ytcckljomjpfdaaa
