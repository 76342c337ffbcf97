/- A key's number, and its shard, are as the chapter says (KeysNumber): the law's walk. -/
import Derived.Test.YtflifeelgamaaaaPureKeysRight
import Derived.Test.YtflifeelgamaaaaKit
import Derived.Lib.Hide
import Derived.ProofKit
namespace Go.Proofs.Ytflifeelgamaaaa
open Go.RowKit Kit Go.Proofs.YtflifeelgamaaaaW.PrintWords
set_option linter.unusedVariables false

theorem xor_u32 (a b : Nat) (ha : a < 4294967296) (hb : b < 4294967296) : bits .xor .u32 (a : Int) (b : Int) = ((a ^^^ b : Nat) : Int) := by
  have hx : a ^^^ b < 2 ^ 32 := Nat.xor_lt_two_pow (by omega) (by omega)
  have h1 : (BitVec.ofInt 32 (a : Int)).toNat = a := by rw [BitVec.ofInt_natCast, BitVec.toNat_ofNat]; exact Nat.mod_eq_of_lt (by omega)
  have h2 : (BitVec.ofInt 32 (b : Int)).toNat = b := by rw [BitVec.ofInt_natCast, BitVec.toNat_ofNat]; exact Nat.mod_eq_of_lt (by omega)
  show IntKind.u32.wrap ((BitVec.ofInt 32 (a : Int) ^^^ BitVec.ofInt 32 (b : Int)).toNat : Int) = _
  rw [BitVec.toNat_xor, h1, h2]
  simp [IntKind.wrap, IntKind.bits, IntKind.signed]
  omega
theorem xor_i64 (a b : Nat) (ha : a < 4294967296) (hb : b < 4294967296) : bits .xor .i64 (a : Int) (b : Int) = ((a ^^^ b : Nat) : Int) := by
  have hx : a ^^^ b < 2 ^ 32 := Nat.xor_lt_two_pow (by omega) (by omega)
  have h1 : (BitVec.ofInt 64 (a : Int)).toNat = a := by rw [BitVec.ofInt_natCast, BitVec.toNat_ofNat]; exact Nat.mod_eq_of_lt (by omega)
  have h2 : (BitVec.ofInt 64 (b : Int)).toNat = b := by rw [BitVec.ofInt_natCast, BitVec.toNat_ofNat]; exact Nat.mod_eq_of_lt (by omega)
  show IntKind.i64.wrap ((BitVec.ofInt 64 (a : Int) ^^^ BitVec.ofInt 64 (b : Int)).toNat : Int) = _
  rw [BitVec.toNat_xor, h1, h2]
  simp [IntKind.wrap, IntKind.bits, IntKind.signed]
  omega

/-- The number of the first k bytes. -/
def hsh (s : ByteArray) : Nat → Nat
  | 0 => 5381
  | k + 1 => (hsh s k * 33 % 4294967296) ^^^ (bt s k).toNat
theorem hsh_lt (s : ByteArray) : ∀ k, hsh s k < 4294967296
  | 0 => by simp [hsh]
  | k + 1 => by
    have := bt_range s k
    exact Nat.xor_lt_two_pow (n := 32) (by omega) (by omega)
theorem step_u32 (s : ByteArray) (k : Nat) : bits .xor .u32 ((hsh s k : Int) * 33 % 4294967296) (bt s k % 4294967296) = (hsh s (k + 1) : Int) := by
  have := bt_range s k
  rw [show (hsh s k : Int) * 33 % 4294967296 = ((hsh s k * 33 % 4294967296 : Nat) : Int) by omega, show bt s k % 4294967296 = ((bt s k).toNat : Int) by omega, xor_u32 _ _ (by omega) (by omega)]
  rfl
theorem step_i64 (s : ByteArray) (k : Nat) : bits .xor .i64 ((hsh s k * 33 % 4294967296 : Nat) : Int) (bt s k) = (hsh s (k + 1) : Int) := by
  have := bt_range s k
  rw [show bt s k = ((bt s k).toNat : Int) by omega, xor_i64 _ _ (by omega) (by omega)]
  rfl

set_option maxHeartbeats 1000000 in
theorem number_any (s : ByteArray) (w : World) (hs : s.size ≤ 9223372036854775807) :
    Calls Try.prog 29 #[.string s] w fun e w' => e = .returned (.int .u32 (hsh s s.size : Int)) ∧ Upd NoB w w' := by
  go_enter Try.func29, Try.ntmps29
  go_wp2_with fail
  go_loopw [3, 7] (fun h i wr => ∃ k H : Nat, k ≤ s.size ∧ i = .int .i64 k ∧ h = .int .u32 H ∧ Hid (H = hsh s k) ∧ Hid (Upd NoB w wr)) (fun _ i _ => s.size - (intOf i).toNat)
  case atStart => exact ⟨0, 5381, by omega, rfl, rfl, Lib.hid rfl, Lib.hid (Upd.refl _ _)⟩
  case round =>
    obtain ⟨k, H, hk, rfl, rfl, hH, hU⟩ := hrel
    have hb := bt_at s k
    by_cases hlt : k < s.size
    · go_wp2_with fail
      go_roundw
      case measure => simp [intOf]; omega
      case rel =>
        have hbk : ((s[k]'hlt).toNat : Int) = bt s k := by have := bt_at s k (by simpa using hlt); simpa using this
        have hrg := bt_range s k
        have hHl := hsh_lt s k
        have hHe := hH.out
        subst hHe
        refine ⟨k + 1, hsh s (k + 1), by omega, by simp, ?_, Lib.hid rfl, hU⟩
        rw [hbk]
        exact congrArg (Value.int .u32) (step_u32 s k)
    · go_wp2_with fail
      go_ret
      have : k = s.size := by omega
      subst this
      exact ⟨by rw [← hH.out]; rfl, hU.out⟩
set_option maxHeartbeats 1000000 in
theorem refnumber_any (s : ByteArray) (w : World) (hs : s.size ≤ 9223372036854775807) :
    Calls Try.prog 30 #[.string s] w fun e w' => e = .returned (.int .i64 (hsh s s.size : Int)) ∧ Upd NoB w w' := by
  go_enter Try.func30, Try.ntmps30
  go_wp2_with fail
  go_loopw [3, 4] (fun h i wr => ∃ k H : Nat, k ≤ s.size ∧ i = .int .i64 k ∧ h = .int .i64 H ∧ Hid (H = hsh s k) ∧ Hid (Upd NoB w wr)) (fun _ i _ => s.size - (intOf i).toNat)
  case atStart => exact ⟨0, 5381, by omega, rfl, rfl, Lib.hid rfl, Lib.hid (Upd.refl _ _)⟩
  case round =>
    obtain ⟨k, H, hk, rfl, rfl, hH, hU⟩ := hrel
    have hb := bt_at s k
    by_cases hlt : k < s.size
    · go_wp2_with fail
      go_roundw
      case measure => simp [intOf]; omega
      case rel =>
        have hbk : ((s[k]'hlt).toNat : Int) = bt s k := by have := bt_at s k (by simpa using hlt); simpa using this
        have hrg := bt_range s k
        have hHl := hsh_lt s k
        have hHe := hH.out
        subst hHe
        refine ⟨k + 1, hsh s (k + 1), by omega, by simp, ?_, Lib.hid rfl, hU⟩
        rw [hbk]
        have e1 : wrap64 (bt s k) = bt s k := by simp [wrap64]; omega
        have e2 : wrap64 ((hsh s k : Int) * 33) = (hsh s k : Int) * 33 := by simp [wrap64]; omega
        have e3 : ((hsh s k : Int) * 33).tmod 4294967296 = ((hsh s k * 33 % 4294967296 : Nat) : Int) := by rw [Int.tmod_eq_emod_of_nonneg (by omega)]; omega
        rw [e1, e2, e3]
        exact congrArg (Value.int .i64) (step_i64 s k)
    · go_wp2_with fail
      go_ret
      have : k = s.size := by omega
      subst this
      exact ⟨by rw [← hH.out]; rfl, hU.out⟩

/-- How many shards there are. -/
def clip (n : Int) : Int := if n < 1 then 1 else if 4 < n then 4 else n
theorem clip_range (n : Int) : 1 ≤ clip n ∧ clip n ≤ 4 := by
  unfold clip
  by_cases a : n < 1
  · rw [if_pos a]; omega
  · rw [if_neg a]
    by_cases b : 4 < n
    · rw [if_pos b]; omega
    · rw [if_neg b]; omega

set_option maxHeartbeats 1000000 in
theorem refshard_any (s : ByteArray) (n : Int) (w : World) (hs : s.size ≤ 9223372036854775807) :
    Calls Try.prog 31 #[.string s, .int .i64 n] w fun e w' => e = .returned (.int .i64 ((hsh s s.size : Int) % clip n)) ∧ Upd NoB w w' := by
  have hN := Lib.hid (refnumber_any s w hs)
  have hlt := hsh_lt s s.size
  generalize hsh s s.size = H at *
  have hc : n < 1 ∧ clip n = 1 ∨ 4 < n ∧ clip n = 4 ∨ 1 ≤ n ∧ n ≤ 4 ∧ clip n = n := by
    unfold clip
    by_cases a : n < 1
    · exact .inl ⟨a, if_pos a⟩
    · rw [if_neg a]
      by_cases b : 4 < n
      · exact .inr (.inl ⟨b, if_pos b⟩)
      · exact .inr (.inr ⟨by omega, by omega, if_neg b⟩)
  rcases hc with ⟨h1, e⟩ | ⟨h1, e⟩ | ⟨h1, h2, e⟩
  all_goals
    rw [e]
    have f1 : ((H : Int)).tmod 1 = (H : Int) % 1 := Int.tmod_eq_emod_of_nonneg (by omega)
    have f2 : ((H : Int)).tmod 4 = (H : Int) % 4 := Int.tmod_eq_emod_of_nonneg (by omega)
    have f3 : ((H : Int)).tmod n = (H : Int) % n := Int.tmod_eq_emod_of_nonneg (by omega)
    have F1 := Lib.hid f1
    have F2 := Lib.hid f2
    have F3 := Lib.hid f3
    have Fc : 1 ≤ n → n ≤ 4 → (n == 0) = false := fun a b => by simp; omega
    clear f1 f2 f3 e
    go_enter Try.func31, Try.ntmps31
    go_wp2_with fail
    refine hN.out.mono ?_
    rintro e w' ⟨rfl, hu⟩
    have HU := Lib.hid hu
    clear hu
    go_wp2_with fail
    go_ret
    exact ⟨by first | rfl | simp, HU.out⟩

set_option maxHeartbeats 1000000 in
theorem shard_any (s : ByteArray) (n : Int) (w : World) (hs : s.size ≤ 9223372036854775807) :
    Calls Try.prog 28 #[.string s, .int .i64 n] w fun e w' => e = .returned (.int .i64 ((hsh s s.size : Int) % clip n)) ∧ Upd NoB w w' := by
  have hN := Lib.hid (fun w => number_any s w hs)
  have hlt := hsh_lt s s.size
  generalize hsh s s.size = H at *
  have hc : n < 1 ∧ clip n = 1 ∨ 4 < n ∧ clip n = 4 ∨ n = 1 ∨ n = 2 ∨ n = 3 ∨ n = 4 := by
    unfold clip
    by_cases a : n < 1
    · exact .inl ⟨a, if_pos a⟩
    · rw [if_neg a]
      by_cases b : 4 < n
      · exact .inr (.inl ⟨b, if_pos b⟩)
      · exact .inr (.inr (by omega))
  rcases hc with ⟨h1, e⟩ | ⟨h1, e⟩ | rfl | rfl | rfl | rfl
  · rw [e]
    have m1 : max n 1 = 1 := by omega
    go_enter Try.func28, Try.ntmps28
    go_wp2_with fail
    refine (hN.out _).mono ?_
    rintro e w' ⟨rfl, hu⟩
    have HU := Lib.hid hu
    clear hu
    go_wp2_with fail
    go_ret
    exact ⟨by first | rfl | (simp; done) | (rw [show clip 1 = 1 from rfl]; simp; done), HU.out⟩
  · rw [e]
    have m1 : max n 1 = n := by omega
    have m2 : min n 4 = 4 := by omega
    go_enter Try.func28, Try.ntmps28
    go_wp2_with fail
    refine (hN.out _).mono ?_
    rintro e w' ⟨rfl, hu⟩
    have HU := Lib.hid hu
    clear hu
    go_wp2_with fail
    go_ret
    exact ⟨by first | rfl | (simp; done) | (rw [show clip 1 = 1 from rfl]; simp; done), HU.out⟩
  all_goals
    go_enter Try.func28, Try.ntmps28
    go_wp2_with fail
    refine (hN.out _).mono ?_
    rintro e w' ⟨rfl, hu⟩
    have HU := Lib.hid hu
    clear hu
    go_wp2_with fail
    go_ret
    exact ⟨by first | rfl | (simp; done) | (rw [show clip 1 = 1 from rfl]; simp; done), HU.out⟩

open Go.Proofs.Ytflifeelgamaaaa.PKeysRight in
theorem short_any (s : ByteArray) (w : World) : Calls Try.prog 22 #[.string s] w fun e w' => ∃ r : ByteArray, e = .returned (.string r) ∧ r.size ≤ 80 ∧ Upd NoB w w' := by
  have h : ∃ r : ByteArray, sautoirlaw08_short.f s = some r ∧ r.size ≤ 80 := by
    unfold sautoirlaw08_short.f
    by_cases c : (s.size : Int) > 80
    · refine ⟨s.extract 0 80, ?_, by simp; omega⟩
      rw [if_pos c, if_pos (by omega), if_pos (by omega)]
    · exact ⟨s, by rw [if_neg c], by omega⟩
  obtain ⟨r, hr, hz⟩ := h
  exact (sautoirlaw08_short.calls s r w hr).mono fun e w' ⟨he, hd⟩ => ⟨r, he, hz, Upd.of_below hd.below _⟩
open Go.Proofs.Ytflifeelgamaaaa.PKeysRight in
theorem awakeKeys_any (w : World) : Calls Try.prog 27 #[] w fun e w' => e = .returned (.bool true) ∧ Upd NoB w w' :=
  (sautoirlaw08_awake.calls 8 true w (Pure.awake_ok 0)).mono fun e w' ⟨he, hd⟩ => ⟨he, Upd.of_below hd.below _⟩

set_option maxHeartbeats 2000000 in
theorem keysNumber_walk (s : ByteArray) (n : Int) (w : World) : Calls Try.prog 6 #[.string s, .int .i64 n] w fun e w' => e = .returned (.bool true) ∧ Upd NoB w w' := by
  go_enter Try.func6, Try.ntmps6
  go_wp2_with fail
  refine (short_any s _).mono ?_
  rintro e w1 ⟨r, rfl, hz, hu⟩
  have HU := Lib.hid hu
  clear hu
  have hN := Lib.hid (fun w => number_any r w (by omega))
  have hR := Lib.hid (fun w => refnumber_any r w (by omega))
  have hS := Lib.hid (fun w => shard_any r n w (by omega))
  have hT := Lib.hid (fun w => refshard_any r n w (by omega))
  have hlt := hsh_lt r r.size
  generalize hsh r r.size = H at *
  have hc := clip_range n
  have k0 : 0 ≤ (H : Int) % clip n := Int.emod_nonneg _ (by omega)
  have k1 : (H : Int) % clip n < clip n := Int.emod_lt_of_pos _ (by omega)
  have k2 : ¬ n < 1 → clip n ≤ n := by
    intro a
    unfold clip
    rw [if_neg a]
    by_cases b : 4 < n
    · rw [if_pos b]; omega
    · rw [if_neg b]; omega
  generalize (H : Int) % clip n = K at *
  have k3 : K < 4 := by omega
  have k4 : n < 1 ∨ K < n := by omega
  clear k1 k2 hc
  go_wp2_with fail
  refine (hS.out _).mono ?_
  rintro e w2 ⟨rfl, hu⟩
  have HU2 := Lib.hid (HU.out.trans hu)
  clear hu
  go_wp2_with fail
  refine (hN.out _).mono ?_
  rintro e w3 ⟨rfl, hu⟩
  have HU3 := Lib.hid (HU2.out.trans hu)
  clear hu
  have ew : IntKind.i64.wrap (H : Int) = (H : Int) := by simp only [IntKind.wrap, IntKind.bits, IntKind.signed]; simp; omega
  go_wp2_with fail
  refine (hR.out _).mono ?_
  rintro e w4 ⟨rfl, hu⟩
  have HU4 := Lib.hid (HU3.out.trans hu)
  clear hu
  go_wp2_with fail
  refine (hT.out _).mono ?_
  rintro e w5 ⟨rfl, hu⟩
  have HU5 := Lib.hid (HU4.out.trans hu)
  clear hu
  by_cases c : n < 1
  · go_wp2_with fail
    refine (awakeKeys_any _).mono ?_
    rintro e w6 ⟨rfl, hu⟩
    have HU6 := Lib.hid (HU5.out.trans hu)
    clear hu
    go_wp2_with fail
    go_ret
    exact ⟨rfl, HU6.out⟩
  · have c2 : K < n := by omega
    go_wp2_with fail
    refine (awakeKeys_any _).mono ?_
    rintro e w6 ⟨rfl, hu⟩
    have HU6 := Lib.hid (HU5.out.trans hu)
    clear hu
    go_wp2_with fail
    go_ret
    exact ⟨rfl, HU6.out⟩
end Go.Proofs.Ytflifeelgamaaaa
