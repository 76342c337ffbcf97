/- A key's number, and its shard: the functions' walks. -/
import Derived.Test.YtcckljomjpfdaaaKeys
namespace Go.Proofs.Ytcckljomjpfdaaa
open Go.RowKit Kit
set_option linter.unusedVariables false

/-- The number of the first k bytes. -/
def hsh (s : ByteArray) : Nat → Nat
  | 0 => 5381
  | k + 1 => (hsh s k * 33 % 4294967296) ^^^ bt s k
theorem hsh_lt (s : ByteArray) : ∀ k, hsh s k < 4294967296
  | 0 => by simp [hsh]
  | k + 1 => by
    have := bt_range s k
    exact Nat.xor_lt_two_pow (n := 32) (by omega) (by omega)
theorem step_u32 (s : ByteArray) (k : Nat) : bits .xor .u32 ((hsh s k : Int) * 33 % 4294967296) ((bt s k : Int) % 4294967296) = (hsh s (k + 1) : Int) := by
  have := bt_range s k
  rw [show (hsh s k : Int) * 33 % 4294967296 = ((hsh s k * 33 % 4294967296 : Nat) : Int) by omega, show (bt s k : Int) % 4294967296 = (bt s k : Int) by omega, xor_u32 _ _ (by omega) (by omega)]
  rfl
theorem step_i64 (s : ByteArray) (k : Nat) : bits .xor .i64 ((hsh s k * 33 % 4294967296 : Nat) : Int) (bt s k) = (hsh s (k + 1) : Int) := by
  have := bt_range s k
  rw [xor_i64 _ _ (by omega) (by omega)]
  rfl

set_option maxHeartbeats 1000000 in
theorem number_any (s : ByteArray) (w : World) (hs : s.size ≤ 9223372036854775807) :
    Calls Try.prog 45 #[.string s] w fun e w' => e = .returned (.int .u32 (hsh s s.size : Int)) ∧ Upd NoB w w' := by
  go_enter Try.func45, Try.ntmps45
  go_wp2_with fail
  go_loopw [3, 7] (fun h i wr => ∃ k H : Nat, k ≤ s.size ∧ i = .int .i64 k ∧ h = .int .u32 H ∧ Hid (H = hsh s k) ∧ Hid (Upd NoB w wr)) (fun _ i _ => s.size - (intOf i).toNat)
  case atStart => exact ⟨0, 5381, by omega, rfl, rfl, Lib.hid rfl, Lib.hid (Upd.refl _ _)⟩
  case round =>
    obtain ⟨k, H, hk, rfl, rfl, hH, hU⟩ := hrel
    have hb := bt_at s k
    by_cases hlt : k < s.size
    · go_wp2_with fail
      go_roundw
      case measure => simp [intOf]; omega
      case rel =>
        have hbk : ((s[k]'hlt).toNat : Int) = ((bt s k : Nat) : Int) := by rw [bt_at s k hlt]
        have hrg := bt_range s k
        have hHl := hsh_lt s k
        have hHe := hH.out
        subst hHe
        refine ⟨k + 1, hsh s (k + 1), by omega, by simp, ?_, Lib.hid rfl, hU⟩
        exact congrArg (Value.int .u32) (step_u32 s k)
    · go_wp2_with fail
      go_ret
      have : k = s.size := by omega
      subst this
      exact ⟨by rw [← hH.out]; rfl, hU.out⟩
set_option maxHeartbeats 1000000 in
theorem refnumber_any (s : ByteArray) (w : World) (hs : s.size ≤ 9223372036854775807) :
    Calls Try.prog 54 #[.string s] w fun e w' => e = .returned (.int .i64 (hsh s s.size : Int)) ∧ Upd NoB w w' := by
  go_enter Try.func54, Try.ntmps54
  go_wp2_with fail
  go_loopw [3, 4] (fun h i wr => ∃ k H : Nat, k ≤ s.size ∧ i = .int .i64 k ∧ h = .int .i64 H ∧ Hid (H = hsh s k) ∧ Hid (Upd NoB w wr)) (fun _ i _ => s.size - (intOf i).toNat)
  case atStart => exact ⟨0, 5381, by omega, rfl, rfl, Lib.hid rfl, Lib.hid (Upd.refl _ _)⟩
  case round =>
    obtain ⟨k, H, hk, rfl, rfl, hH, hU⟩ := hrel
    have hb := bt_at s k
    by_cases hlt : k < s.size
    · go_wp2_with fail
      go_roundw
      case measure => simp [intOf]; omega
      case rel =>
        have hbk : ((s[k]'hlt).toNat : Int) = ((bt s k : Nat) : Int) := by rw [bt_at s k hlt]
        have hrg := bt_range s k
        have hHl := hsh_lt s k
        have hHe := hH.out
        subst hHe
        refine ⟨k + 1, hsh s (k + 1), by omega, by simp, ?_, Lib.hid rfl, hU⟩
        have e1 : wrap64 ((bt s k : Nat) : Int) = ((bt s k : Nat) : Int) := by simp [wrap64]; omega
        have e2 : wrap64 ((hsh s k : Int) * 33) = (hsh s k : Int) * 33 := by simp [wrap64]; omega
        have e3 : ((hsh s k : Int) * 33).tmod 4294967296 = ((hsh s k * 33 % 4294967296 : Nat) : Int) := by rw [Int.tmod_eq_emod_of_nonneg (by omega)]; omega
        rw [e1, e2, e3]
        exact congrArg (Value.int .i64) (step_i64 s k)
    · go_wp2_with fail
      go_ret
      have : k = s.size := by omega
      subst this
      exact ⟨by rw [← hH.out]; rfl, hU.out⟩

/-- How many shards there are. -/
def clip (n : Int) : Int := if n < 1 then 1 else if 4 < n then 4 else n
theorem clip_range (n : Int) : 1 ≤ clip n ∧ clip n ≤ 4 := by
  unfold clip
  by_cases a : n < 1
  · rw [if_pos a]; omega
  · rw [if_neg a]
    by_cases b : 4 < n
    · rw [if_pos b]; omega
    · rw [if_neg b]; omega

set_option maxHeartbeats 1000000 in
theorem refshard_any (s : ByteArray) (n : Int) (w : World) (hs : s.size ≤ 9223372036854775807) :
    Calls Try.prog 44 #[.string s, .int .i64 n] w fun e w' => e = .returned (.int .i64 ((hsh s s.size : Int) % clip n)) ∧ Upd NoB w w' := by
  have hN := Lib.hid (refnumber_any s w hs)
  have hlt := hsh_lt s s.size
  generalize hsh s s.size = H at *
  have hc : n < 1 ∧ clip n = 1 ∨ 4 < n ∧ clip n = 4 ∨ 1 ≤ n ∧ n ≤ 4 ∧ clip n = n := by
    unfold clip
    by_cases a : n < 1
    · exact .inl ⟨a, if_pos a⟩
    · rw [if_neg a]
      by_cases b : 4 < n
      · exact .inr (.inl ⟨b, if_pos b⟩)
      · exact .inr (.inr ⟨by omega, by omega, if_neg b⟩)
  rcases hc with ⟨h1, e⟩ | ⟨h1, e⟩ | ⟨h1, h2, e⟩
  all_goals
    rw [e]
    have f1 : ((H : Int)).tmod 1 = (H : Int) % 1 := Int.tmod_eq_emod_of_nonneg (by omega)
    have f2 : ((H : Int)).tmod 4 = (H : Int) % 4 := Int.tmod_eq_emod_of_nonneg (by omega)
    have f3 : ((H : Int)).tmod n = (H : Int) % n := Int.tmod_eq_emod_of_nonneg (by omega)
    have F1 := Lib.hid f1
    have F2 := Lib.hid f2
    have F3 := Lib.hid f3
    have Fc : 1 ≤ n → n ≤ 4 → (n == 0) = false := fun a b => by simp; omega
    clear f1 f2 f3 e
    go_enter Try.func44, Try.ntmps44
    go_wp2_with fail
    refine hN.out.mono ?_
    rintro e w' ⟨rfl, hu⟩
    have HU := Lib.hid hu
    clear hu
    go_wp2_with fail
    go_ret
    exact ⟨by first | rfl | simp, HU.out⟩

set_option maxHeartbeats 1000000 in
theorem shard_any (s : ByteArray) (n : Int) (w : World) (hs : s.size ≤ 9223372036854775807) :
    Calls Try.prog 43 #[.string s, .int .i64 n] w fun e w' => e = .returned (.int .i64 ((hsh s s.size : Int) % clip n)) ∧ Upd NoB w w' := by
  have hN := Lib.hid (fun w => number_any s w hs)
  have hlt := hsh_lt s s.size
  generalize hsh s s.size = H at *
  have hc : n < 1 ∧ clip n = 1 ∨ 4 < n ∧ clip n = 4 ∨ n = 1 ∨ n = 2 ∨ n = 3 ∨ n = 4 := by
    unfold clip
    by_cases a : n < 1
    · exact .inl ⟨a, if_pos a⟩
    · rw [if_neg a]
      by_cases b : 4 < n
      · exact .inr (.inl ⟨b, if_pos b⟩)
      · exact .inr (.inr (by omega))
  rcases hc with ⟨h1, e⟩ | ⟨h1, e⟩ | rfl | rfl | rfl | rfl
  · rw [e]
    have m1 : max n 1 = 1 := by omega
    go_enter Try.func43, Try.ntmps43
    go_wp2_with fail
    refine (hN.out _).mono ?_
    rintro e w' ⟨rfl, hu⟩
    have HU := Lib.hid hu
    clear hu
    go_wp2_with fail
    go_ret
    exact ⟨by first | rfl | (simp; done) | (rw [show clip 1 = 1 from rfl]; simp; done), HU.out⟩
  · rw [e]
    have m1 : max n 1 = n := by omega
    have m2 : min n 4 = 4 := by omega
    go_enter Try.func43, Try.ntmps43
    go_wp2_with fail
    refine (hN.out _).mono ?_
    rintro e w' ⟨rfl, hu⟩
    have HU := Lib.hid hu
    clear hu
    go_wp2_with fail
    go_ret
    exact ⟨by first | rfl | (simp; done) | (rw [show clip 1 = 1 from rfl]; simp; done), HU.out⟩
  all_goals
    go_enter Try.func43, Try.ntmps43
    go_wp2_with fail
    refine (hN.out _).mono ?_
    rintro e w' ⟨rfl, hu⟩
    have HU := Lib.hid hu
    clear hu
    go_wp2_with fail
    go_ret
    exact ⟨by first | rfl | (simp; done) | (rw [show clip 1 = 1 from rfl]; simp; done), HU.out⟩

end Go.Proofs.Ytcckljomjpfdaaa
