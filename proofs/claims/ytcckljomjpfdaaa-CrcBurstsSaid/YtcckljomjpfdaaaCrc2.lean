/- Cyclic sums, function by function (2): sums, seals. -/
import Derived.Test.YtcckljomjpfdaaaCrc1
namespace Go.Proofs.Ytcckljomjpfdaaa
open Go.RowKit Kit
set_option linter.unusedVariables false

/-- The sum. -/
def crcOf (l : List UInt8) : Nat := 4294967295 - crcm 4294967295 l
theorem crcOf_lt (l : List UInt8) : crcOf l < 4294967296 := by unfold crcOf; omega
theorem xor_ones {n : Nat} (hn : n < 4294967296) : 4294967295 ^^^ n = 4294967295 - n := by
  have := Nat.testBit_two_pow_sub_succ (n := 32) (x := n) (by omega)
  apply Nat.eq_of_testBit_eq; intro i
  rw [show 4294967295 - n = 2 ^ 32 - (n + 1) by omega, this, Nat.testBit_xor, show 4294967295 = 2 ^ 32 - 1 from rfl, Nat.testBit_two_pow_sub_one]
  by_cases c : i < 32
  · simp [c]
  · have : n.testBit i = false := Nat.testBit_lt_two_pow (Nat.lt_of_lt_of_le hn (by rw [show 4294967296 = 2 ^ 32 from rfl]; exact Nat.pow_le_pow_right (by omega) (by omega)))
    simp [c, this]
theorem not_u32 (n : Nat) (h : n < 4294967296) : bits .xor .u32 IntKind.u32.max (n : Int) = ((4294967295 - n : Nat) : Int) := by
  rw [show IntKind.u32.max = ((4294967295 : Nat) : Int) from rfl, xor_u32 _ _ (by omega) h, xor_ones h]
theorem byte_of (n : Nat) (h : n < 256) : (((UInt8.ofNat n).toNat : Nat) : Int) = (n : Int) := by
  rw [UInt8.toNat_ofNat', Nat.mod_eq_of_lt (by omega)]

set_option maxHeartbeats 1000000 in
theorem few_any {S : Nat → Prop} (v : Value) (l : List UInt8) (w : World) (h : RSl Rep.byte w S v l) :
    Calls Try.prog 17 #[v] w fun e w' => ∃ v', e = .returned v' ∧ RSl Rep.byte w S v' (l.take 300) ∧ w = w' := by
  have H := Lib.hid h
  obtain ⟨A, c, cs, rfl, d1, d2, d3, d4, d5⟩ := h
  have d2' : c ≤ 9223372036854775807 := d2
  by_cases hl : 300 < l.length
  · have hl' : (300 : Int) < (l.length : Int) := by omega
    cases A with
    | none => have := d4 rfl; omega
    | some a =>
      obtain ⟨f1, f2, f3⟩ := d5 a rfl
      obtain ⟨g, o, sp⟩ := a
      simp only at f1
      subst f1
      have f4 : (300 : Int) ≤ (c : Int) := by omega
      have fin := Lib.hid (H.out.pre 300 (by omega) (c' := c) (by omega) (Nat.le_refl _))
      clear f3 d5 d4 d3
      go_enter Try.func17, Try.ntmps17
      go_wp2_with fail
      go_ret
      exact ⟨_, rfl, fin.out, rfl⟩
  · have hl' : ¬ (300 : Int) < (l.length : Int) := by omega
    clear d5 d4 d3
    go_enter Try.func17, Try.ntmps17
    go_wp2_with fail
    go_ret
    exact ⟨_, rfl, by rw [List.take_of_length_le (by omega)]; exact H.out, rfl⟩
set_option maxHeartbeats 1000000 in
theorem of_any {S : Nat → Prop} (v : Value) (l : List UInt8) (w : World) (h : RSl Rep.byte w S v l) :
    Calls Try.prog 18 #[v] w fun e w' => e = .returned (.int .u32 (crcOf l)) ∧ Upd NoB w w' := by
  have hm := Lib.hid (more_any 4294967295 v l w h (by omega))
  obtain ⟨A, c, cs, rfl, _⟩ := h
  have hlt := crcm_lt (s := 4294967295) (by omega) l
  have hn := Lib.hid (not_u32 _ hlt)
  have hd := Lib.hid (show crcOf l = 4294967295 - crcm 4294967295 l from rfl)
  generalize crcm 4294967295 l = Z at *
  go_enter Try.func18, Try.ntmps18
  go_wp2_with fail
  refine (show Calls Try.prog 20 #[.int .u32 4294967295, _] _ _ from hm.out).mono ?_
  rintro e w' ⟨rfl, hu⟩
  have HU := Lib.hid hu
  clear hu
  go_wp2_with fail
  go_ret
  exact ⟨by rw [hd.out, ← hn.out]; rfl, HU.out⟩
set_option maxHeartbeats 1000000 in
theorem refof_any {S : Nat → Prop} (v : Value) (l : List UInt8) (w : World) (h : RSl Rep.byte w S v l) :
    Calls Try.prog 19 #[v] w fun e w' => e = .returned (.int .u32 (crcOf l)) ∧ Upd NoB w w' := by
  have hm := Lib.hid (refmore_any 4294967295 v l w h (by omega))
  obtain ⟨A, c, cs, rfl, _⟩ := h
  have hlt := crcm_lt (s := 4294967295) (by omega) l
  have hd := Lib.hid (show crcOf l = 4294967295 - crcm 4294967295 l from rfl)
  generalize crcm 4294967295 l = Z at *
  go_enter Try.func19, Try.ntmps19
  go_wp2_with fail
  refine (show Calls Try.prog 21 #[.int .u32 4294967295, _] _ _ from hm.out).mono ?_
  rintro e w' ⟨rfl, hu⟩
  have HU := Lib.hid hu
  clear hu
  go_wp2_with fail
  go_ret
  refine ⟨?_, HU.out⟩
  rw [hd.out]
  have e1 : ((4294967295 - Z : Nat) : Int) = 4294967295 - (Z : Int) := by omega
  rw [e1]
  first | rfl | (congr 2; simp [IntKind.wrap, IntKind.bits, IntKind.signed]; omega)
set_option maxHeartbeats 1000000 in
theorem four_any (n : Nat) (w : World) (hn : n < 4294967296) :
    Calls Try.prog 24 #[.int .u32 n] w fun e w' => ∃ v', e = .returned v' ∧ Mine Rep.byte 5 w w' v' (four n) := by
  have e0 : ((n : Int) % 256) % 256 = (n : Int) % 256 := by omega
  have hlit := Lib.hid (show ∀ a b c d : Value, (Kit.Rows Rep.byte w NoB (four n) [a, b, c, d]) → Mine Rep.byte 5 w (w.alloc (.cells #[a, b, c, d] 5)) (.slice (some ⟨w.heap.size, 0, none⟩) 4 4) (four n) from fun a b c d hr =>
    ⟨OSl.lit (T := NoB) #[a, b, c, d] 4 rfl (by decide) hr (fun b h => h.elim) (fun b h => h.elim) ⟨.inr (Nat.le_refl _), by simp⟩, (Upd.refl _ _).alloc _⟩)
  clear e0
  go_enter Try.func24, Try.ntmps24
  go_wp2_with fail
  go_ret
  refine ⟨_, rfl, hlit.out _ _ _ _ ?_⟩
  have : ∀ l : List UInt8, Kit.Rows Rep.byte w NoB l (l.map fun b => .int .u8 (b.toNat : Int)) := Rows_bytes w NoB
  have h := this (four n)
  simp only [four, List.map_cons, List.map_nil] at h ⊢
  rw [byte_of _ (by omega), byte_of _ (by omega), byte_of _ (by omega), byte_of _ (by omega)] at h
  rw [show ((n % 256 : Nat) : Int) = (n : Int) % 256 by omega, show ((n / 256 % 256 : Nat) : Int) = (n : Int) / 256 % 256 by omega, show ((n / 65536 % 256 : Nat) : Int) = (n : Int) / 65536 % 256 by omega, show ((n / 16777216 % 256 : Nat) : Int) = (n : Int) / 16777216 by omega] at h
  exact h
end Go.Proofs.Ytcckljomjpfdaaa
