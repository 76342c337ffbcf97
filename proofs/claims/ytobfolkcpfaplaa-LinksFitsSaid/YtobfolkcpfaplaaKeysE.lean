/- Keys: which bytes may stand in them; a key's number, its shard: the functions' walks. -/
import Derived.Test.YtobfolkcpfaplaaProg
import Derived.Test.YtobfolkcpfaplaaKit
import Derived.Lib.Hide
import Derived.ProofKit
namespace Go.Proofs.Ytobfolkcpfaplaa
open Go.RowKit Kit
set_option linter.unusedVariables false

/-- The byte at a place; 0 behind the end. -/
def bt (s : ByteArray) (i : Nat) : Nat := if h : i < s.size then (s[i]'h).toNat else 0
theorem bt_at (s : ByteArray) (i : Nat) (h : i < s.size) : (s[i]'h).toNat = bt s i := by simp [bt, h]
theorem bt_range (s : ByteArray) (i : Nat) : bt s i < 256 := by
  unfold bt
  split
  · exact UInt8.toNat_lt _
  · omega
theorem xor_u32 (a b : Nat) (ha : a < 4294967296) (hb : b < 4294967296) : bits .xor .u32 (a : Int) (b : Int) = ((a ^^^ b : Nat) : Int) := by
  have hx : a ^^^ b < 2 ^ 32 := Nat.xor_lt_two_pow (by omega) (by omega)
  have h1 : (BitVec.ofInt 32 (a : Int)).toNat = a := by rw [BitVec.ofInt_natCast, BitVec.toNat_ofNat]; exact Nat.mod_eq_of_lt (by omega)
  have h2 : (BitVec.ofInt 32 (b : Int)).toNat = b := by rw [BitVec.ofInt_natCast, BitVec.toNat_ofNat]; exact Nat.mod_eq_of_lt (by omega)
  show IntKind.u32.wrap ((BitVec.ofInt 32 (a : Int) ^^^ BitVec.ofInt 32 (b : Int)).toNat : Int) = _
  rw [BitVec.toNat_xor, h1, h2]
  simp [IntKind.wrap, IntKind.bits, IntKind.signed]
  omega
theorem xor_i64 (a b : Nat) (ha : a < 4294967296) (hb : b < 4294967296) : bits .xor .i64 (a : Int) (b : Int) = ((a ^^^ b : Nat) : Int) := by
  have hx : a ^^^ b < 2 ^ 32 := Nat.xor_lt_two_pow (by omega) (by omega)
  have h1 : (BitVec.ofInt 64 (a : Int)).toNat = a := by rw [BitVec.ofInt_natCast, BitVec.toNat_ofNat]; exact Nat.mod_eq_of_lt (by omega)
  have h2 : (BitVec.ofInt 64 (b : Int)).toNat = b := by rw [BitVec.ofInt_natCast, BitVec.toNat_ofNat]; exact Nat.mod_eq_of_lt (by omega)
  show IntKind.i64.wrap ((BitVec.ofInt 64 (a : Int) ^^^ BitVec.ofInt 64 (b : Int)).toNat : Int) = _
  rw [BitVec.toNat_xor, h1, h2]
  simp [IntKind.wrap, IntKind.bits, IntKind.signed]
  omega

/-! ### Which bytes -/
def signN (c : Nat) : Bool := decide (97 ≤ c ∧ c ≤ 122) || (decide (48 ≤ c ∧ c ≤ 57) || decide (c = 95))
theorem zones (c : Nat) : (c < 48 ∧ signN c = false) ∨ (48 ≤ c ∧ c ≤ 57 ∧ signN c = true) ∨ (57 < c ∧ c < 95 ∧ signN c = false) ∨ (c = 95 ∧ signN c = true) ∨ (95 < c ∧ c < 97 ∧ signN c = false) ∨ (97 ≤ c ∧ c ≤ 122 ∧ signN c = true) ∨ (122 < c ∧ signN c = false) := by
  unfold signN
  simp only [Bool.or_eq_true, Bool.or_eq_false_iff, decide_eq_true_eq, decide_eq_false_iff_not]
  omega
/-- Are the first k bytes such? -/
def sgp (s : ByteArray) : Nat → Bool
  | 0 => true
  | k + 1 => sgp s k && signN (bt s k)
theorem sgp_no (s : ByteArray) (k n : Nat) (h : sgp s k = false) (hn : k ≤ n) : sgp s n = false := by
  induction n with
  | zero => obtain rfl : k = 0 := by omega
            exact h
  | succ n ih =>
    by_cases e : k = n + 1
    · exact e ▸ h
    · unfold sgp
      rw [ih (by omega)]
      rfl

set_option maxHeartbeats 1000000 in
theorem sign_any (c : Nat) (w : World) (hc : c < 256) : Calls Try.prog 92 #[.int .u8 c] w fun e w' => e = .returned (.bool (signN c)) ∧ w = w' := by
  rcases zones c with ⟨h1, e⟩ | ⟨h1, h2, e⟩ | ⟨h1, h2, e⟩ | ⟨h1, e⟩ | ⟨h1, h2, e⟩ | ⟨h1, h2, e⟩ | ⟨h1, e⟩
  case inr.inr.inr.inl =>
    subst h1
    go_enter Try.func92, Try.ntmps92
    go_wp2_with fail
    go_ret
    exact ⟨rfl, rfl⟩
  all_goals
    rw [e]
    clear e
    have n95 : ((c : Int) == 95) = false := by simp; omega
    go_enter Try.func92, Try.ntmps92
    go_wp2_with fail
    go_ret
    exact ⟨rfl, rfl⟩
set_option maxHeartbeats 1000000 in
theorem signs_any (s : ByteArray) (m : Int) (w : World) (hs : s.size ≤ 9223372036854775807) :
    Calls Try.prog 85 #[.string s, .int .i64 m] w fun e w' => e = .returned (.bool (sgp s s.size && decide ((s.size : Int) ≤ m))) ∧ w = w' := by
  have hN := Lib.hid (fun k (hk : k < s.size) (h : sgp s k = true) (h' : signN (bt s k) = false) => sgp_no s (k + 1) s.size (by unfold sgp; rw [h, h']; rfl) hk)
  have hS := Lib.hid (fun k w => sign_any (bt s k) w (bt_range s k))
  go_enter Try.func85, Try.ntmps85
  go_wp2_with fail
  go_loopw [5, 8] (fun j i wr => ∃ k : Nat, k ≤ s.size ∧ i = .int .i64 k ∧ Hid (sgp s k = true) ∧ Hid (wr = w)) (fun _ i _ => s.size - (intOf i).toNat)
  case atStart => exact ⟨0, by omega, rfl, Lib.hid rfl, Lib.hid rfl⟩
  case round =>
    obtain ⟨k, hk, rfl, hH, hU⟩ := hrel
    obtain rfl := hU.out.symm
    by_cases hlt : k < s.size
    · have hb : ((s[k]'hlt).toNat : Int) = ((bt s k : Nat) : Int) := by rw [bt_at]
      have hc := Lib.hid (hS.out k)
      cases hsg : signN (bt s k)
      · have hF := Lib.hid (hN.out k hlt hH.out hsg)
        rw [hsg] at hc
        clear hsg
        generalize bt s k = c at *
        go_wp2_with fail
        refine (hc.out _).mono ?_
        rintro e w' ⟨rfl, rfl⟩
        go_wp2_with fail
        go_ret
        exact ⟨by rw [hF.out]; rfl, rfl⟩
      · have hT := Lib.hid (show sgp s (k + 1) = true by unfold sgp; rw [hH.out, hsg]; rfl)
        rw [hsg] at hc
        clear hsg
        generalize bt s k = c at *
        go_wp2_with fail
        refine (hc.out _).mono ?_
        rintro e w' ⟨rfl, rfl⟩
        go_wp2_with fail
        go_roundw
        case measure => simp [intOf]; omega
        case rel => exact ⟨k + 1, by omega, by go_num, hT, by first | exact Lib.hid rfl | exact Lib.hid trivial⟩
    · obtain rfl : k = s.size := by omega
      go_wp2_with fail
      go_ret
      exact ⟨by rw [hH.out]; rfl, rfl⟩
set_option maxHeartbeats 1000000 in
theorem refsigns_any (s : ByteArray) (w : World) (hs : s.size ≤ 9223372036854775807) :
    Calls Try.prog 75 #[.string s] w fun e w' => e = .returned (.bool (sgp s s.size)) ∧ w = w' := by
  have hN := Lib.hid (fun k (hk : k < s.size) (h : sgp s k = true) (h' : signN (bt s k) = false) => sgp_no s (k + 1) s.size (by unfold sgp; rw [h, h']; rfl) hk)
  go_enter Try.func75, Try.ntmps75
  go_wp2_with fail
  go_loopw [3] (fun i wr => ∃ k : Nat, k ≤ s.size ∧ i = .int .i64 k ∧ Hid (sgp s k = true) ∧ Hid (wr = w)) (fun i _ => s.size - (intOf i).toNat)
  case atStart => exact ⟨0, by omega, rfl, Lib.hid rfl, Lib.hid rfl⟩
  case round =>
    obtain ⟨k, hk, rfl, hH, hU⟩ := hrel
    obtain rfl := hU.out.symm
    by_cases hlt : k < s.size
    · have hb : ((s[k]'hlt).toNat : Int) = ((bt s k : Nat) : Int) := by rw [bt_at]
      have hT := Lib.hid (fun h : signN (bt s k) = true => show sgp s (k + 1) = true by unfold sgp; rw [hH.out, h]; rfl)
      have hF := Lib.hid (hN.out k hlt hH.out)
      have hr := bt_range s k
      generalize bt s k = c at *
      rcases zones c with ⟨h1, e⟩ | ⟨h1, h2, e⟩ | ⟨h1, h2, e⟩ | ⟨h1, e⟩ | ⟨h1, h2, e⟩ | ⟨h1, h2, e⟩ | ⟨h1, e⟩
      all_goals
        have E := Lib.hid e
        clear e
        try have n95 : ((c : Int) == 95) = false := by simp; omega
        try have y95 : ((c : Int) == 95) = true := by simp; omega
        try have d57n : decide ((c : Int) ≤ 57) = false := by simp; omega
        try have d57y : decide ((c : Int) ≤ 57) = true := by simp; omega
        try have d122n : decide ((c : Int) ≤ 122) = false := by simp; omega
        try have d122y : decide ((c : Int) ≤ 122) = true := by simp; omega
        go_wp2_with fail
        first
        | (go_roundw
           case measure => simp [intOf]; omega
           case rel => exact ⟨k + 1, by omega, by go_num, Lib.hid (hT.out E.out), by first | exact Lib.hid rfl | exact Lib.hid trivial⟩)
        | (go_ret
           exact ⟨by rw [hF.out E.out]; rfl, rfl⟩)
    · obtain rfl : k = s.size := by omega
      go_wp2_with fail
      go_ret
      exact ⟨by rw [hH.out]; rfl, rfl⟩
set_option maxHeartbeats 1000000 in
theorem kright_any (s : ByteArray) (w : World) (hs : s.size ≤ 9223372036854775807) :
    Calls Try.prog 71 #[.string s] w fun e w' => e = .returned (.bool (decide (0 < s.size) && (sgp s s.size && decide (s.size ≤ 32)))) ∧ w = w' := by
  have hS := Lib.hid (fun w => signs_any s 32 w hs)
  by_cases h : 0 < s.size
  · have e1 : decide (0 < s.size) = true := decide_eq_true h
    have e2 : decide (s.size ≤ 32) = decide ((s.size : Int) ≤ 32) := decide_eq_decide.2 (by omega)
    rw [e1, e2]
    clear e1 e2
    generalize (sgp s s.size && decide ((s.size : Int) ≤ 32)) = B at *
    have n1 : (s.toList == []) = false := by
      rw [ByteArray.toList_eq]
      cases hh : s.data.toList with
      | nil => have : s.size = 0 := by rw [ByteArray.size, ← Array.length_toList, hh]; rfl
               omega
      | cons a l => rfl
    have n2 : s.toList.isEmpty = false := by
      rw [ByteArray.toList_eq]
      cases hh : s.data.toList with
      | nil => have : s.size = 0 := by rw [ByteArray.size, ← Array.length_toList, hh]; rfl
               omega
      | cons a l => rfl
    go_enter Try.func71, Try.ntmps71
    go_wp2_with fail
    refine (hS.out _).mono ?_
    rintro e w' ⟨rfl, rfl⟩
    go_wp2_with fail
    go_ret
    exact ⟨by simp, rfl⟩
  · have e1 : decide (0 < s.size) = false := decide_eq_false h
    rw [e1]
    clear e1
    have n0 : s.toList = [] := by
      rw [ByteArray.toList_eq]
      exact List.eq_nil_of_length_eq_zero (by rw [Array.length_toList]; show s.size = 0; omega)
    have n1 : (s.toList == []) = true := by rw [n0]; rfl
    have n2 : s.toList.isEmpty = true := by rw [n0]; rfl
    clear n0
    go_enter Try.func71, Try.ntmps71
    go_wp2_with fail
    go_ret
    exact ⟨by simp, rfl⟩
end Go.Proofs.Ytobfolkcpfaplaa
