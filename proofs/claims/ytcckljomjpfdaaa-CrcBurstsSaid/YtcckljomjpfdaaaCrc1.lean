/- Cyclic sums, function by function (1): the state behind bytes. -/
import Derived.Test.YtcckljomjpfdaaaBytes
import Derived.Test.YtcckljomjpfdaaaCrcMath
namespace Go.Proofs.Ytcckljomjpfdaaa
open Go.RowKit Kit
set_option linter.unusedVariables false

theorem crcm_lt {s : Nat} (h : s < 4294967296) (l : List UInt8) : crcm s l < 4294967296 := by
  induction l generalizing s with
  | nil => exact h
  | cons c l ih => exact ih (stps_lt (Nat.xor_lt_two_pow (n := 32) (by omega) (by have := c.toNat_lt; omega)) 8)
theorem xor_u32 (a b : Nat) (ha : a < 4294967296) (hb : b < 4294967296) : bits .xor .u32 (a : Int) (b : Int) = ((a ^^^ b : Nat) : Int) := by
  have hx : a ^^^ b < 2 ^ 32 := Nat.xor_lt_two_pow (by omega) (by omega)
  have h1 : (BitVec.ofInt 32 (a : Int)).toNat = a := by rw [BitVec.ofInt_natCast, BitVec.toNat_ofNat]; exact Nat.mod_eq_of_lt (by omega)
  have h2 : (BitVec.ofInt 32 (b : Int)).toNat = b := by rw [BitVec.ofInt_natCast, BitVec.toNat_ofNat]; exact Nat.mod_eq_of_lt (by omega)
  show IntKind.u32.wrap ((BitVec.ofInt 32 (a : Int) ^^^ BitVec.ofInt 32 (b : Int)).toNat : Int) = _
  rw [BitVec.toNat_xor, h1, h2]
  simp [IntKind.wrap, IntKind.bits, IntKind.signed]
  omega
theorem and_u32 (a b : Nat) (ha : a < 4294967296) (hb : b < 4294967296) : bits .and .u32 (a : Int) (b : Int) = ((a &&& b : Nat) : Int) := by
  have hx : a &&& b < 2 ^ 32 := Nat.and_lt_two_pow _ (by omega)
  have h1 : (BitVec.ofInt 32 (a : Int)).toNat = a := by rw [BitVec.ofInt_natCast, BitVec.toNat_ofNat]; exact Nat.mod_eq_of_lt (by omega)
  have h2 : (BitVec.ofInt 32 (b : Int)).toNat = b := by rw [BitVec.ofInt_natCast, BitVec.toNat_ofNat]; exact Nat.mod_eq_of_lt (by omega)
  show IntKind.u32.wrap ((BitVec.ofInt 32 (a : Int) &&& BitVec.ofInt 32 (b : Int)).toNat : Int) = _
  rw [BitVec.toNat_and, h1, h2]
  simp [IntKind.wrap, IntKind.bits, IntKind.signed]
  omega

theorem and_one (Z : Nat) (hZ : Z < 4294967296) : bits .and .u32 (Z : Int) 1 = (Z : Int) % 2 := by
  rw [show (1 : Int) = ((1 : Nat) : Int) from rfl, and_u32 _ _ hZ (by omega), Nat.and_one_is_mod]
  omega
theorem stp_bits (Z : Nat) (hZ : Z < 4294967296) : bits .xor .u32 ((Z : Int) / 2) (bits .and .u32 3988292384 (-((Z : Int) % 2) % 4294967296)) = (stp Z : Int) := by
  have e0 : ((Z : Int) / 2) = ((Z / 2 : Nat) : Int) := by omega
  by_cases c : Z % 2 = 1
  · have e1 : bits .and .u32 3988292384 (-((Z : Int) % 2) % 4294967296) = ((3988292384 : Nat) : Int) := by
      rw [show -((Z : Int) % 2) % 4294967296 = 4294967295 by omega]
      decide +kernel
    rw [e1, e0, xor_u32 _ _ (by omega) (by omega)]
    unfold stp
    rw [if_pos c]
  · have e1 : bits .and .u32 3988292384 (-((Z : Int) % 2) % 4294967296) = ((0 : Nat) : Int) := by
      rw [show -((Z : Int) % 2) % 4294967296 = 0 by omega]
      decide +kernel
    rw [e1, e0, xor_u32 _ _ (by omega) (by omega)]
    unfold stp
    rw [if_neg c]

set_option maxHeartbeats 1000000 in
set_option maxRecDepth 100000 in
theorem more_any {S : Nat → Prop} (s : Nat) (v : Value) (l : List UInt8) (w : World) (h : RSl Rep.byte w S v l) (hs : s < 4294967296) :
    Calls Try.prog 20 #[.int .u32 s, v] w fun e w' => e = .returned (.int .u32 (crcm s l : Int)) ∧ Upd NoB w w' := by
  obtain ⟨A, c, cs, rfl, d1, d2, d3, d4, d5⟩ := id h
  have d2' : c ≤ 9223372036854775807 := d2
  go_enter Try.func20, Try.ntmps20
  go_wp2_with fail
  go_loopw [0, 9] (fun x i wr => ∃ k X : Nat, k ≤ l.length ∧ i = .int .i64 k ∧ x = .int .u32 X ∧ X < 4294967296 ∧ Hid (crcm X (l.drop k) = crcm s l) ∧ Hid (Upd NoB w wr)) (fun _ i _ => l.length - (intOf i).toNat)
  case atStart => exact ⟨0, s, by omega, rfl, rfl, hs, Lib.hid rfl, Lib.hid (Upd.refl _ _)⟩
  case round =>
    obtain ⟨k, X, hk, rfl, rfl, hX, hH, hU⟩ := hrel
    by_cases hlt : k < l.length
    · cases A with
      | none => have := d4 rfl; omega
      | some a =>
        obtain ⟨f1, f2, f3⟩ := d5 a rfl
        obtain ⟨g, o, sp⟩ := a
        simp only at f1 f2 f3
        subst f1
        have hc := hU.out.cell (f3 k _ (by rw [rows_bytes_eq d3]; simp [List.getElem?_eq_getElem hlt]; rfl)) (fun h => h)
        obtain ⟨Y, hY⟩ : ∃ Y : Nat, Y = X ^^^ (l[k]'hlt).toNat := ⟨_, rfl⟩
        have hcb := (l[k]'hlt).toNat_lt
        have hxy : bits .xor .u32 (X : Int) ((((l[k]'hlt).toNat : Nat) : Int) % 4294967296) = (Y : Int) := by
          rw [show (((l[k]'hlt).toNat : Nat) : Int) % 4294967296 = (((l[k]'hlt).toNat : Nat) : Int) by omega, xor_u32 _ _ hX (by omega), hY]
        have hxz : bits .xor .u32 (X : Int) (((l[k]'hlt).toNat : Nat) : Int) = (Y : Int) := by rw [xor_u32 _ _ hX (by omega), hY]
        have hYl : Y < 4294967296 := by rw [hY]; exact Nat.xor_lt_two_pow (n := 32) (by omega) (by omega)
        have HY := Lib.hid hY
        have hH2 := hH.out
        rw [List.drop_eq_getElem_cons hlt] at hH2
        have HH := Lib.hid (show crcm (stps 8 Y) (l.drop (k + 1)) = crcm s l by rw [hY]; exact hH2)
        clear hY hH2
        go_wp2_with fail
        go_loopw [0, 17] (fun x j w2 => ∃ m Z : Nat, m ≤ 8 ∧ j = .int .i64 m ∧ x = .int .u32 Z ∧ Z < 4294967296 ∧ Hid (Z = stps m Y) ∧ Hid (w2 = wr)) (fun _ j _ => 8 - (intOf j).toNat)
        case atStart => exact ⟨0, Y, by omega, rfl, by first | rfl | rw [hxz] | rw [hxy], hYl, Lib.hid rfl, Lib.hid rfl⟩
        case round =>
          obtain ⟨m, Z, hm, rfl, rfl, hZ, hE, hW⟩ := hrel
          obtain rfl := hW.out
          by_cases hm8 : m < 8
          · go_wp2_with fail
            go_roundw
            case rel =>
              refine ⟨m + 1, stp Z, by omega, by go_num, ?_, stp_lt hZ, Lib.hid (by rw [hE.out]; rfl), ?_⟩
              · rw [and_one Z hZ]
                exact congrArg (Value.int .u32) (stp_bits Z hZ)
              · first | exact Lib.hid rfl | exact Lib.hid trivial
            case measure => simp [intOf]; omega
          · go_wp2_with fail
            obtain rfl : m = 8 := by omega
            go_roundw
            case rel => exact ⟨k + 1, Z, by omega, by go_num, rfl, hZ, Lib.hid (by rw [hE.out]; exact HH.out), hU⟩
            case measure => simp [intOf]; omega
    · go_wp2_with fail
      go_ret
      have : k = l.length := by omega
      subst this
      have e := hH.out
      rw [List.drop_length] at e
      exact ⟨by rw [← e]; rfl, hU.out⟩

set_option maxHeartbeats 1000000 in
set_option maxRecDepth 100000 in
theorem refmore_any {S : Nat → Prop} (s : Nat) (v : Value) (l : List UInt8) (w : World) (h : RSl Rep.byte w S v l) (hs : s < 4294967296) :
    Calls Try.prog 21 #[.int .u32 s, v] w fun e w' => e = .returned (.int .u32 (crcm s l : Int)) ∧ Upd NoB w w' := by
  obtain ⟨A, c, cs, rfl, d1, d2, d3, d4, d5⟩ := id h
  have d2' : c ≤ 9223372036854775807 := d2
  go_enter Try.func21, Try.ntmps21
  go_wp2_with fail
  go_loopw [0, 11] (fun x i wr => ∃ k X : Nat, k ≤ l.length ∧ i = .int .i64 k ∧ x = .int .u32 X ∧ X < 4294967296 ∧ Hid (crcm X (l.drop k) = crcm s l) ∧ Hid (Upd NoB w wr)) (fun _ i _ => l.length - (intOf i).toNat)
  case atStart => exact ⟨0, s, by omega, rfl, rfl, hs, Lib.hid rfl, Lib.hid (Upd.refl _ _)⟩
  case round =>
    obtain ⟨k, X, hk, rfl, rfl, hX, hH, hU⟩ := hrel
    by_cases hlt : k < l.length
    · cases A with
      | none => have := d4 rfl; omega
      | some a =>
        obtain ⟨f1, f2, f3⟩ := d5 a rfl
        obtain ⟨g, o, sp⟩ := a
        simp only at f1 f2 f3
        subst f1
        have hc := hU.out.cell (f3 k _ (by rw [rows_bytes_eq d3]; simp [List.getElem?_eq_getElem hlt]; rfl)) (fun h => h)
        obtain ⟨Y, hY⟩ : ∃ Y : Nat, Y = X ^^^ (l[k]'hlt).toNat := ⟨_, rfl⟩
        have hcb := (l[k]'hlt).toNat_lt
        have hxy : bits .xor .u32 (X : Int) ((((l[k]'hlt).toNat : Nat) : Int) % 4294967296) = (Y : Int) := by
          rw [show (((l[k]'hlt).toNat : Nat) : Int) % 4294967296 = (((l[k]'hlt).toNat : Nat) : Int) by omega, xor_u32 _ _ hX (by omega), hY]
        have hxz : bits .xor .u32 (X : Int) (((l[k]'hlt).toNat : Nat) : Int) = (Y : Int) := by rw [xor_u32 _ _ hX (by omega), hY]
        have hYl : Y < 4294967296 := by rw [hY]; exact Nat.xor_lt_two_pow (n := 32) (by omega) (by omega)
        have HY := Lib.hid hY
        have hH2 := hH.out
        rw [List.drop_eq_getElem_cons hlt] at hH2
        have HH := Lib.hid (show crcm (stps 8 Y) (l.drop (k + 1)) = crcm s l by rw [hY]; exact hH2)
        clear hY hH2
        go_wp2_with fail
        go_loopw [0, 7] (fun x j w2 => ∃ m Z : Nat, m ≤ 8 ∧ j = .int .i64 m ∧ x = .int .u32 Z ∧ Z < 4294967296 ∧ Hid (Z = stps m Y) ∧ Hid (w2 = wr)) (fun _ j _ => 8 - (intOf j).toNat)
        case atStart => exact ⟨0, Y, by omega, rfl, by first | rfl | rw [hxz] | rw [hxy], hYl, Lib.hid rfl, Lib.hid rfl⟩
        case round =>
          obtain ⟨m, Z, hm, rfl, rfl, hZ, hE, hW⟩ := hrel
          obtain rfl := hW.out
          by_cases hm8 : m < 8
          · by_cases odd : Z % 2 = 1
            · have o1 : ((Z : Int) % 2 == 1) = true := by simp; omega
              have fin := Lib.hid (show bits .xor .u32 ((Z : Int) / 2) 3988292384 = (stp Z : Int) by
                rw [show ((Z : Int) / 2) = ((Z / 2 : Nat) : Int) by omega, show (3988292384 : Int) = ((3988292384 : Nat) : Int) from rfl, xor_u32 _ _ (by omega) (by omega)]
                unfold stp
                rw [if_pos odd])
              clear odd
              go_wp2_with fail
              go_roundw
              case rel => exact ⟨m + 1, stp Z, by omega, by go_num, congrArg (Value.int .u32) fin.out, stp_lt hZ, Lib.hid (by rw [hE.out]; rfl), by first | exact Lib.hid rfl | exact Lib.hid trivial⟩
              case measure => simp [intOf]; omega
            · have o1 : ((Z : Int) % 2 == 1) = false := by simp; omega
              have fin := Lib.hid (show ((Z : Int) / 2) = (stp Z : Int) by
                unfold stp
                rw [if_neg odd, Nat.xor_zero]
                omega)
              clear odd
              go_wp2_with fail
              go_roundw
              case rel => exact ⟨m + 1, stp Z, by omega, by go_num, congrArg (Value.int .u32) fin.out, stp_lt hZ, Lib.hid (by rw [hE.out]; rfl), by first | exact Lib.hid rfl | exact Lib.hid trivial⟩
              case measure => simp [intOf]; omega
          · go_wp2_with fail
            obtain rfl : m = 8 := by omega
            go_roundw
            case rel => exact ⟨k + 1, Z, by omega, by go_num, rfl, hZ, Lib.hid (by rw [hE.out]; exact HH.out), hU⟩
            case measure => simp [intOf]; omega
    · go_wp2_with fail
      go_ret
      have : k = l.length := by omega
      subst this
      have e := hH.out
      rw [List.drop_length] at e
      exact ⟨by rw [← e]; rfl, hU.out⟩
end Go.Proofs.Ytcckljomjpfdaaa
