/- The package octet, function by function (1): what number computes. -/
import Derived.Test.YtflifeelgamaaaaProg
import Derived.Test.YtflifeelgamaaaaKit
import Derived.Test.YtflifeelgamaaaaOctetPure
import Derived.Lib.Hide
import Derived.Deep.QuietTactic
import Derived.BigQuiet
namespace Go.Proofs.Ytflifeelgamaaaa
open Go.RowKit Kit Oct
set_option linter.unusedVariables false

theorem i5 : (Try.prog.info? 5).map (fun i => (i.zero, i.size, i.bytes)) = some (some (.int .u8 0), 1, 1) := by kernel_rfl

/-- What the loop of number carries. -/
def NumAt (bs : List UInt8) (k acc : Nat) : Prop := num 0 0 bs = num acc k (bs.drop k) ∧ acc < 2 ^ (7 * k) ∧ k ≤ 10

theorem and127 (x : Nat) (h : x < 256) : bits .and .u8 (x : Int) 127 = ((x % 128 : Nat) : Int) := by
  have : ∀ x : Fin 256, bits .and .u8 ((x.val : Nat) : Int) 127 = ((x.val % 128 : Nat) : Int) := by decide +kernel
  exact this ⟨x, h⟩

theorem or_add (a b n : Nat) (ha : a < 2 ^ n) (h : a + b * 2 ^ n < 2 ^ 64) : bits .or .u64 (a : Int) ((b * 2 ^ n : Nat) : Int) = ((a + b * 2 ^ n : Nat) : Int) := by
  have hb : b * 2 ^ n < 2 ^ 64 := Nat.lt_of_le_of_lt (Nat.le_add_left _ _) h
  have ha' : a < 2 ^ 64 := Nat.lt_of_le_of_lt (Nat.le_add_right _ _) h
  change IntKind.u64.wrap ((BitVec.ofInt 64 (a : Int) ||| BitVec.ofInt 64 ((b * 2 ^ n : Nat) : Int)).toNat : Int) = _
  rw [BitVec.toNat_or, BitVec.toNat_ofInt, BitVec.toNat_ofInt]
  have e1 : ((a : Int) % (2 ^ 64 : Nat)).toNat = a := by omega
  have e2 : (((b * 2 ^ n : Nat) : Int) % (2 ^ 64 : Nat)).toNat = b * 2 ^ n := by omega
  rw [e1, e2, Nat.or_comm, Nat.mul_comm b, ← Nat.two_pow_add_eq_or_of_lt ha, Nat.add_comm]
  simp only [IntKind.wrap, IntKind.bits, IntKind.signed]
  rw [Nat.mul_comm b] at h
  generalize 2 ^ n * b = y at *
  simp
  omega

theorem part_val (x k acc : Nat) (hx : x < 256) (hk : k ≤ 9) (hk9 : k = 9 → x ≤ 1) (ha : acc < 2 ^ (7 * k)) :
    bits .or .u64 (acc : Int) (IntKind.u64.wrap (IntKind.u64.wrap (bits .and .u8 (x : Int) 127) * 2 ^ (7 * k))) = ((acc + x % 128 * 2 ^ (7 * k) : Nat) : Int) := by
  have hp : x % 128 * 2 ^ (7 * k) + 2 ^ (7 * k) ≤ 2 ^ 64 := by
    by_cases e : k = 9
    · subst e
      have := hk9 rfl
      have : x % 128 ≤ 1 := by omega
      omega
    · have h1 : 2 ^ (7 * k) ≤ 2 ^ 56 := Nat.pow_le_pow_right (by omega) (by omega)
      have h2 := Nat.mul_le_mul (show x % 128 + 1 ≤ 128 by omega) h1
      rw [Nat.add_mul] at h2
      omega
  have e1 : IntKind.u64.wrap ((x % 128 : Nat) : Int) = ((x % 128 : Nat) : Int) := by
    simp only [IntKind.wrap, IntKind.bits, IntKind.signed]
    simp
    omega
  have e2 : ((x % 128 : Nat) : Int) * 2 ^ (7 * k) = ((x % 128 * 2 ^ (7 * k) : Nat) : Int) := by simp
  have e3 : IntKind.u64.wrap ((x % 128 * 2 ^ (7 * k) : Nat) : Int) = ((x % 128 * 2 ^ (7 * k) : Nat) : Int) := by
    simp only [IntKind.wrap, IntKind.bits, IntKind.signed]
    have hp' := Nat.two_pow_pos (7 * k)
    generalize x % 128 * 2 ^ (7 * k) = y at *
    simp
    omega
  rw [and127 x hx, e1, e2, e3, or_add _ _ _ ha (by omega)]

theorem drop_at (bs : List UInt8) (k : Nat) (h : k < bs.length) : bs.drop k = bs.getD k 0 :: bs.drop (k + 1) := by
  rw [List.drop_eq_getElem_cons h, List.getD_eq_getElem?_getD, List.getElem?_eq_getElem h]
  rfl

theorem num_bad (bs : List UInt8) (k acc x : Nat) (h : NumAt bs k acc) (hk : k < bs.length) (hx : x = (bs.getD k 0).toNat) (c : 9 < k ∨ (k = 9 ∧ 1 < x)) : num 0 0 bs = (0, 0) := by
  rw [h.1, drop_at bs k hk]
  simp only [num]
  rw [if_pos (by rw [← hx]; exact c)]
theorem num_zero (bs : List UInt8) (k acc x : Nat) (h : NumAt bs k acc) (hk : k < bs.length) (hx : x = (bs.getD k 0).toNat) (c : ¬ (9 < k ∨ (k = 9 ∧ 1 < x))) (c1 : x = 0 ∧ 0 < k) : num 0 0 bs = (0, 0) := by
  rw [h.1, drop_at bs k hk]
  simp only [num, ← hx]
  rw [if_neg c, if_pos (by omega), if_pos c1]
theorem num_end (bs : List UInt8) (k acc x : Nat) (h : NumAt bs k acc) (hk : k < bs.length) (hx : x = (bs.getD k 0).toNat) (c : ¬ (9 < k ∨ (k = 9 ∧ 1 < x))) (c1 : x < 128) (c2 : ¬ (x = 0 ∧ 0 < k)) :
    num 0 0 bs = (acc + x % 128 * 2 ^ (7 * k), k + 1) := by
  rw [h.1, drop_at bs k hk]
  simp only [num, ← hx]
  rw [if_neg c, if_pos c1, if_neg c2]
theorem num_next (bs : List UInt8) (k acc x : Nat) (h : NumAt bs k acc) (hk : k < bs.length) (hx : x = (bs.getD k 0).toNat) (c : ¬ (9 < k ∨ (k = 9 ∧ 1 < x))) (c1 : ¬ x < 128) : NumAt bs (k + 1) (acc + x % 128 * 2 ^ (7 * k)) := by
  refine ⟨?_, ?_, by omega⟩
  · rw [h.1, drop_at bs k hk]
    simp only [num, ← hx]
    rw [if_neg c, if_neg c1]
  · rw [pow7]
    have := Nat.mul_le_mul_right (2 ^ (7 * k)) (show x % 128 ≤ 127 by omega)
    have := h.2.1
    omega

theorem ret2_of {b : Nat × Nat} {A K : Nat} {x y : Int} (h : b = (A, K)) (hx : x = A) (hy : y = K) : Ending.returned (.tuple #[.int .u64 x, .int .i64 y]) = .returned (.tuple #[.int .u64 (b.1 : Int), .int .i64 (b.2 : Int)]) := by rw [h, hx, hy]
theorem ret2_eq {a b : Nat × Nat} (h : a = b) : Ending.returned (.tuple #[.int .u64 (a.1 : Int), .int .i64 (a.2 : Int)]) = .returned (.tuple #[.int .u64 (b.1 : Int), .int .i64 (b.2 : Int)]) := by rw [h]

set_option maxHeartbeats 1000000 in
set_option maxRecDepth 100000 in
theorem number_some (g o c : Nat) (w : World) (bs : List UInt8) (hc : bs.length ≤ 9223372036854775807) (hcell : ∀ i, i < bs.length → w.cell? ⟨g, o + i, none⟩ = some (.int .u8 ((bs.getD i 0).toNat : Int))) :
    Calls Try.prog 71 #[.slice (some ⟨g, o, none⟩) bs.length c] w fun e w' => e = .returned (.tuple #[.int .u64 ((num 0 0 bs).1 : Int), .int .i64 ((num 0 0 bs).2 : Int)]) ∧ w = w' := by
  go_enter Try.func71, Try.ntmps71
  go_wp2_with fail
  go_loop [4, 10] (fun n i => ∃ k acc : Nat, k ≤ bs.length ∧ i = .int .i64 k ∧ n = .int .u64 acc ∧ Hid (NumAt bs k acc)) (fun _ i => bs.length - (intOf i).toNat)
  case atStart => exact ⟨0, 0, by omega, rfl, rfl, rfl, by decide, by decide⟩
  case round =>
    obtain ⟨k, acc, hk, rfl, rfl, hnum⟩ := hrel
    by_cases hlt : k < bs.length
    · have hx0 := hcell k hlt
      clear hcell
      obtain ⟨x, hx⟩ : ∃ x : Nat, x = (bs.getD k 0).toNat := ⟨_, rfl⟩
      rw [← hx] at hx0
      have HX := Lib.hid hx
      have hx256 : x < 256 := by rw [hx]; exact UInt8.toNat_lt _
      clear hx
      have hk10 : k ≤ 10 := hnum.out.2.2
      by_cases c1 : 9 < k
      · have fin := Lib.hid (num_bad bs k acc x hnum.out hlt HX.out (.inl c1))
        go_wp2_with fail
        go_ret2
        exact ⟨ret2_eq fin.out.symm, rfl⟩
      · have c1b : decide ((63 : Int) < 7 * (k : Int)) = false := by simp; omega
        by_cases c2 : k = 9 ∧ 1 < x
        · have fin := Lib.hid (num_bad bs k acc x hnum.out hlt HX.out (.inr c2))
          obtain ⟨rfl, c3⟩ := c2
          go_wp2_with fail
          go_ret2
          exact ⟨ret2_eq fin.out.symm, rfl⟩
        · have cc : ¬ (9 < k ∨ (k = 9 ∧ 1 < x)) := by omega
          have pv := Lib.hid (part_val x k acc hx256 (by omega) (by omega) hnum.out.2.1)
          have c2b : ((7 * (k : Int)) == 63) = true → x ≤ 1 := by intro h; simp at h; omega
          by_cases c4 : x < 128
          · by_cases c5 : x = 0 ∧ 0 < k
            · have fin := Lib.hid (num_zero bs k acc x hnum.out hlt HX.out cc c5)
              obtain ⟨rfl, c6⟩ := c5
              by_cases c7 : k = 9
              · subst c7
                go_wp2_with fail
                go_ret2
                exact ⟨ret2_eq fin.out.symm, rfl⟩
              · have c7b : ((7 * (k : Int)) == 63) = false := by simp; omega
                go_wp2_with fail
                go_ret2
                exact ⟨ret2_eq fin.out.symm, rfl⟩
            · have fin := Lib.hid (num_end bs k acc x hnum.out hlt HX.out cc c4 c5)
              by_cases c7 : k = 9
              · subst c7
                go_wp2_with fail
                go_ret2
                exact ⟨ret2_of fin.out (by rw [← pv.out]; rfl) rfl, rfl⟩
              · have c7b : ((7 * (k : Int)) == 63) = false := by simp; omega
                by_cases c8 : x = 0
                · have c8b : ((x : Int) == 0) = true := by simp; omega
                  have c9b : ¬ 0 < k := by omega
                  clear c8 c5 c7
                  go_wp2_with fail
                  go_ret2
                  exact ⟨ret2_of fin.out pv.out rfl, rfl⟩
                · have c8b : ((x : Int) == 0) = false := by simp; omega
                  go_wp2_with fail
                  go_ret2
                  exact ⟨ret2_of fin.out pv.out rfl, rfl⟩
          · have fin := Lib.hid (num_next bs k acc x hnum.out hlt HX.out cc c4)
            by_cases c7 : k = 9
            · omega
            · have c7b : ((7 * (k : Int)) == 63) = false := by simp; omega
              go_wp2_with fail
              go_round
              case rel => exact ⟨k + 1, _, by omega, by go_num, by rw [pv.out], fin.out⟩
              case measure => simp [intOf]; omega
    · go_wp2_with fail
      go_ret2
      refine ⟨?_, rfl⟩
      have := hnum.out.1
      rw [List.drop_eq_nil_of_le (by omega)] at this
      rw [this]; rfl

end Go.Proofs.Ytflifeelgamaaaa
