/- Cyclic sums, function by function (3): seals. -/
import Derived.Test.YtcckljomjpfdaaaCrc2
import Derived.Lib.SlBytesConst
namespace Go.Proofs.Ytcckljomjpfdaaa
open Go.RowKit Kit
set_option linter.unusedVariables false

theorem four_take (n k : Nat) (h : k < 4) : (four n).take (k + 1) = (four n).take k ++ [UInt8.ofNat (n / 256 ^ k % 256)] := by
  rcases (show k = 0 ∨ k = 1 ∨ k = 2 ∨ k = 3 by omega) with rfl | rfl | rfl | rfl <;> simp [four]

set_option maxHeartbeats 1000000 in
set_option maxRecDepth 100000 in
theorem seal_any {S : Nat → Prop} (v : Value) (l : List UInt8) (w : World) (h : RSl Rep.byte w S v l) (hl : l.length ≤ 1000) :
    Calls Try.prog 23 #[v] w fun e w' => ∃ v', e = .returned v' ∧ Mine Rep.byte 5 w w' v' (l ++ four (crcOf l)) := by
  have hc := Lib.hid (clone_any v l w h (by omega))
  have ho := Lib.hid (fun w' (hu : Upd NoB w w') => of_any v l w' (h.upd hu (fun _ _ h => h)))
  have hN := crcOf_lt l
  clear h
  generalize crcOf l = N at *
  go_enter Try.func23, Try.ntmps23
  go_wp2_with fail
  refine hc.out.mono ?_
  rintro e w1 ⟨v1, rfl, hM⟩
  have HM := Lib.hid hM
  clear hM
  go_wp2_with fail
  refine (ho.out _ HM.out.2).mono ?_
  rintro e w2 ⟨rfl, hu⟩
  have HM2 := Lib.hid (HM.out.upd hu)
  clear hu
  go_wp2_with fail
  go_loopw [3, 4, 9] (fun v3 x4 i wr => ∃ k X : Nat, k ≤ 4 ∧ i = .int .i64 k ∧ x4 = .int .u32 X ∧ X < 4294967296 ∧ Hid (X = N / 256 ^ k) ∧ Hid (Mine Rep.byte 5 w wr v3 (l ++ (four N).take k))) (fun _ _ i _ => 4 - (intOf i).toNat)
  case atStart => exact ⟨0, N, by omega, rfl, rfl, hN, Lib.hid (by simp), Lib.hid (by simpa using HM2.out)⟩
  case round =>
    obtain ⟨k, X, hk, rfl, rfl, hX, hE, hM⟩ := hrel
    by_cases hlt : k < 4
    · have hft := Lib.hid (four_take N k hlt)
      have hy := Lib.hid (show Rep.byte.rep wr NoB (UInt8.ofNat (X % 256)) #[.int .u8 ((X : Int) % 256)].toList by
        show [_] = [_]
        rw [byte_of _ (by omega)]; simp)
      have hall : ((l ++ (four N).take k).length + 1) * 1 ≤ 140737488355328 := by
        rw [List.length_append, List.length_take]
        have : (four N).length = 4 := rfl
        omega
      have HO := Lib.hid hM.out.1
      have HB := Lib.hid hM.out.bd
      have hnext := Lib.hid (show X / 256 = N / 256 ^ (k + 1) by rw [hE.out, Nat.div_div_eq_div_mul, ← Nat.pow_succ])
      have hq := Lib.hid (show (four N).take (k + 1) = (four N).take k ++ [UInt8.ofNat (X % 256)] by rw [hft.out, hE.out])
      go_wp2_with (at_builtin; go_must (refine app_one (r := Rep.byte) (y := UInt8.ofNat (X % 256)) rfl _ _ 29 5 (.int .u8 0) 1 rfl Try.underlying29 i5 rfl (by decide) rfl rfl HO.out HB.out hy.out (fun b hb => hb.elim) hall ?_))
      intro v2 w3 ho2 hu2
      have fin := Lib.hid (hM.out.app ho2 hu2)
      clear ho2 hu2
      go_wp2_with fail
      go_roundw
      case measure => simp [intOf]; omega
      case rel => exact ⟨k + 1, X / 256, by omega, by go_num, by first | rfl | (simp; done), by omega, hnext, Lib.hid (by rw [hq.out]; first | exact fin.out | (rw [← List.append_assoc]; exact fin.out))⟩
    · obtain rfl : k = 4 := by omega
      have hM4 := Lib.hid (show Mine Rep.byte 5 w wr _ (l ++ four N) from hM.out)
      go_wp2_with fail
      go_ret
      exact ⟨_, rfl, hM4.out⟩

/-- Is it whole? -/
def whB (l : List UInt8) : Bool := decide (4 ≤ l.length) && decide (l.take (l.length - 4) ++ four (crcOf (l.take (l.length - 4))) = l)
theorem whB_iff (p q : List UInt8) (hq : q.length = 4) : whB (p ++ q) = decide (crcm 4294967295 (p ++ q) = stps 32 4294967295) := by
  have e : (p ++ q).length - 4 = p.length := by rw [List.length_append]; omega
  unfold whB
  rw [decide_eq_true (show 4 ≤ (p ++ q).length by rw [List.length_append]; omega), e, List.take_left, Bool.true_and]
  refine decide_eq_decide.2 ?_
  rw [← whole_iff p q hq]
  exact ⟨fun h => List.append_cancel_left h, fun h => by rw [show crcOf p = 4294967295 - crcm 4294967295 p from rfl, h]⟩
set_option maxHeartbeats 1000000 in
set_option maxRecDepth 100000 in
theorem whole_any {S : Nat → Prop} (v : Value) (l : List UInt8) (w : World) (h : RSl Rep.byte w S v l) (hl : l.length ≤ 1000) :
    Calls Try.prog 25 #[v] w fun e w' => e = .returned (.bool (whB l)) ∧ Upd NoB w w' := by
  have H := Lib.hid h
  obtain ⟨A, c, cs, rfl, d1, d2, d3, d4, d5⟩ := h
  have d2' : c ≤ 9223372036854775807 := d2
  by_cases h4 : 4 ≤ l.length
  · cases A with
    | none => have := d4 rfl; omega
    | some a =>
      obtain ⟨f1, f2, f3⟩ := d5 a rfl
      obtain ⟨g, o, sp⟩ := a
      simp only at f1
      subst f1
      have hp := H.out.pre (l.length - 4) (by omega) (c' := c) (by omega) (Nat.le_refl _)
      have hsl := Lib.hid (seal_any _ _ w hp (by rw [List.length_take]; omega))
      have heq := Lib.hid (fun (v : Value) (x : List UInt8) w2 (S2 : Nat → Prop) (hu : Upd NoB w w2) (hr : RSl Rep.byte w2 S2 v x) => equal_any v _ x l w2 hr (H.out.upd hu (fun _ _ h => h)))
      have hw := Lib.hid (show whB l = decide (l.take (l.length - 4) ++ four (crcOf (l.take (l.length - 4))) = l) by unfold whB; rw [decide_eq_true h4]; rfl)
      obtain ⟨n, hn⟩ : ∃ n, n = l.length - 4 := ⟨_, rfl⟩
      rw [← hn] at hsl hw
      have hn4 : (l.length : Int) - 4 = (n : Int) := by omega
      have hn0 : n ≤ c := by omega
      have hnl : l.length = n + 4 := by omega
      clear hn hp f3 d5 d4 d3
      generalize l.take n ++ four (crcOf (l.take n)) = X at *
      rw [hnl] at heq
      clear hn4 h4 d1
      have hmx : n + 4 ≤ 1000 := by omega
      rw [hnl]
      clear hnl hl
      go_enter Try.func25, Try.ntmps25
      go_wp2_with fail
      refine hsl.out.mono ?_
      rintro e w1 ⟨v1, rfl, hM⟩
      have HM := Lib.hid hM
      clear hM
      go_wp2_with fail
      refine (heq.out _ _ _ _ HM.out.2 HM.out.1.read).mono ?_
      rintro e w2 ⟨rfl, hu⟩
      have HU := Lib.hid (HM.out.2.trans hu)
      clear hu
      go_wp2_with fail
      go_ret
      exact ⟨by rw [hw.out]; first | rfl | (simp; done), HU.out⟩
  · have hw := Lib.hid (show whB l = false by unfold whB; rw [decide_eq_false h4]; rfl)
    have hn : ¬ (0 : Int) ≤ (l.length : Int) - 4 := by omega
    go_enter Try.func25, Try.ntmps25
    go_wp2_with fail
    go_ret
    exact ⟨by rw [hw.out]; first | rfl | (simp; done), Upd.refl _ _⟩
theorem crc_ex : crcOf [49, 50, 51, 52, 53, 54, 55, 56, 57] = 3421780262 := by decide +kernel
theorem whB_nil : whB (four (crcOf [])) = true := by decide +kernel
set_option maxHeartbeats 1000000 in
set_option maxRecDepth 100000 in
/-- Chapter 2's example. -/
theorem awakeCrc_any (w : World) : Calls Try.prog 22 #[] w fun e w' => e = .returned (.bool true) ∧ Upd NoB w w' := by
  have hb : RSl Rep.byte (w.alloc (.cells #[.int .u8 49, .int .u8 50, .int .u8 51, .int .u8 52, .int .u8 53, .int .u8 54, .int .u8 55, .int .u8 56, .int .u8 57] 5 (9, 10))) (fun b => b = w.heap.size) (.slice (some ⟨w.heap.size, 0, none⟩) 9 9) [49, 50, 51, 52, 53, 54, 55, 56, 57] := by
    refine ⟨some ⟨w.heap.size, 0, none⟩, 9, _, rfl, by decide, by decide, Rows_bytes _ _ _, (fun h => nomatch h), fun a ha => ?_⟩
    obtain rfl := Option.some.inj ha
    refine ⟨rfl, rfl, fun j u hu => ?_⟩
    simp only [World.cell?, heap_alloc_new, Nat.zero_add]
    simpa using hu
  have ho := of_any _ _ _ hb
  rw [crc_ex] at ho
  have HO := Lib.hid ho
  have HS := Lib.hid (fun w => seal_any (S := NoB) (.slice none 0 0) [] w (RSl.nil w NoB) (by decide))
  have HW := Lib.hid (fun v w (S : Nat → Prop) (h : RSl Rep.byte w S v (four (crcOf []))) => whole_any v _ w h (by decide))
  rw [whB_nil] at HW
  clear ho hb
  have kc := fun (w : World) (C : Array Value) (n c : Nat) => Lib.run_convert_bytes_const (P := Try.prog) w 29 5 C n c Try.underlying29 Try.underlying5
  go_enter Try.func22, Try.ntmps22
  go_wp2_with fail
  refine HO.out.mono ?_
  rintro e w1 ⟨rfl, hu⟩
  have HU := Lib.hid (((Upd.refl NoB w).alloc _).trans hu)
  clear hu
  go_wp2_with fail
  refine (HS.out _).mono ?_
  rintro e w2 ⟨v2, rfl, hM⟩
  have HM := Lib.hid (show RSl Rep.byte w2 _ v2 (four (crcOf [])) from hM.1.read)
  have HU2 := Lib.hid (HU.out.trans hM.2)
  clear hM
  go_wp2_with fail
  refine (HW.out _ _ _ HM.out).mono ?_
  rintro e w3 ⟨rfl, hu⟩
  have HU3 := Lib.hid (HU2.out.trans hu)
  clear hu
  go_wp2_with fail
  go_ret
  exact ⟨rfl, HU3.out⟩
end Go.Proofs.Ytcckljomjpfdaaa
