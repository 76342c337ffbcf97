/- Plain facts on numbers as bytes (chapter 1): no program in sight. -/
namespace Go.Proofs.Ytflifeelgamaaaa.Oct

/-- A number's bytes. -/
def enc (n : Nat) : List UInt8 :=
  if n < 128 then [UInt8.ofNat n] else UInt8.ofNat (n % 128 + 128) :: enc (n / 128)
termination_by n
decreasing_by omega

theorem enc_small {n : Nat} (h : n < 128) : enc n = [UInt8.ofNat n] := by rw [enc, if_pos h]
theorem enc_big {n : Nat} (h : ¬ n < 128) : enc n = UInt8.ofNat (n % 128 + 128) :: enc (n / 128) := by rw [enc, if_neg h]

/-- The number that is read behind i bytes, which told acc; and how many bytes it has in all; (0, 0): there is none. -/
def num (acc i : Nat) : List UInt8 → Nat × Nat
  | [] => (0, 0)
  | c :: l =>
    if 9 < i ∨ (i = 9 ∧ 1 < c.toNat) then (0, 0)
    else if c.toNat < 128 then (if c.toNat = 0 ∧ 0 < i then (0, 0) else (acc + c.toNat % 128 * 2 ^ (7 * i), i + 1))
    else num (acc + c.toNat % 128 * 2 ^ (7 * i)) (i + 1) l

theorem toNat_ofNat {n : Nat} (h : n < 256) : (UInt8.ofNat n).toNat = n := by simp; omega

theorem pow7 (i : Nat) : 2 ^ (7 * (i + 1)) = 2 ^ (7 * i) * 128 := by rw [Nat.mul_add, Nat.pow_add]

/-- A number's bytes, read: the number, all of them; whatever stands behind. -/
theorem num_enc (l : List UInt8) : ∀ (n acc i : Nat), (0 < i → 0 < n) → acc + n * 2 ^ (7 * i) < 2 ^ 64 →
    num acc i (enc n ++ l) = (acc + n * 2 ^ (7 * i), i + (enc n).length) := by
  intro n
  induction n using Nat.strongRecOn with
  | _ n ih =>
    intro acc i h0 hb
    have hi : i ≤ 9 ∧ (i = 9 → n ≤ 1) := by
      by_cases hn : n = 0
      · have : i = 0 := by omega
        omega
      · have h1 : 2 ^ (7 * i) < 2 ^ 64 := Nat.lt_of_le_of_lt (Nat.le_trans (Nat.le_mul_of_pos_left _ (by omega)) (Nat.le_add_left _ _)) hb
        have h2 : 7 * i < 64 := (Nat.pow_lt_pow_iff_right (by omega)).1 h1
        refine ⟨by omega, fun e => ?_⟩
        subst e
        have : n * 2 ^ 63 < 2 ^ 64 := Nat.lt_of_le_of_lt (Nat.le_add_left _ _) hb
        omega
    by_cases h : n < 128
    · rw [enc_small h]
      simp only [List.singleton_append, num, toNat_ofNat (show n < 256 by omega), List.length_singleton]
      rw [if_neg (by omega), if_pos h, if_neg (by omega), Nat.mod_eq_of_lt h]
    · rw [enc_big h]
      simp only [List.cons_append, num, toNat_ofNat (show n % 128 + 128 < 256 by omega), List.length_cons]
      rw [if_neg (by omega), if_neg (by omega)]
      have e1 : (n % 128 + 128) % 128 = n % 128 := by omega
      have e2 : acc + n % 128 * 2 ^ (7 * i) + n / 128 * 2 ^ (7 * (i + 1)) = acc + n * 2 ^ (7 * i) := by
        rw [pow7, Nat.mul_comm (2 ^ (7 * i)) 128, ← Nat.mul_assoc, Nat.add_assoc, ← Nat.add_mul]
        congr 2
        omega
      rw [e1, ih (n / 128) (by omega) _ (i + 1) (by omega) (by rw [e2]; exact hb), e2]
      congr 1
      omega

/-- What is read is a number's own bytes. -/
theorem num_inv : ∀ (l : List UInt8) (acc i N k : Nat), num acc i l = (N, k) → 0 < k →
    ∃ n, N = acc + n * 2 ^ (7 * i) ∧ (0 < i → 0 < n) ∧ k = i + (enc n).length ∧ (i ≤ 9 → n * 2 ^ (7 * i) < 2 ^ 64) ∧ ∃ r, l = enc n ++ r := by
  intro l
  induction l with
  | nil =>
    intro acc i N k h hk
    simp only [num, Prod.mk.injEq] at h
    omega
  | cons c l ih =>
    intro acc i N k h hk
    simp only [num] at h
    by_cases c1 : 9 < i ∨ (i = 9 ∧ 1 < c.toNat)
    · rw [if_pos c1] at h
      simp only [Prod.mk.injEq] at h
      omega
    · rw [if_neg c1] at h
      have hi : i ≤ 9 := by omega
      by_cases c2 : c.toNat < 128
      · rw [if_pos c2] at h
        by_cases c3 : c.toNat = 0 ∧ 0 < i
        · rw [if_pos c3] at h
          simp only [Prod.mk.injEq] at h
          omega
        · rw [if_neg c3] at h
          simp only [Prod.mk.injEq] at h
          rw [Nat.mod_eq_of_lt c2] at h
          refine ⟨c.toNat, h.1.symm, by omega, by rw [enc_small c2, List.length_singleton]; exact h.2.symm, fun _ => ?_, l, by rw [enc_small c2]; simp⟩
          have hp : 2 ^ (7 * i) ≤ 2 ^ 63 := Nat.pow_le_pow_right (by omega) (by omega)
          by_cases e : i = 9
          · subst e
            have : c.toNat ≤ 1 := by omega
            omega
          · have hp : 2 ^ (7 * i) ≤ 2 ^ 56 := Nat.pow_le_pow_right (by omega) (by omega)
            have := Nat.mul_le_mul (show c.toNat ≤ 127 by omega) hp
            omega
      · rw [if_neg c2] at h
        obtain ⟨n, e1, e2, e3, e4, r, e5⟩ := ih _ _ _ _ h hk
        have hc := c.toNat_lt
        have hn : 0 < n := e2 (by omega)
        have g : ¬ (c.toNat % 128 + 128 * n) < 128 := by omega
        have em : (c.toNat % 128 + 128 * n) % 128 = c.toNat % 128 := by omega
        have ed : (c.toNat % 128 + 128 * n) / 128 = n := by omega
        have eb : enc (c.toNat % 128 + 128 * n) = c :: enc n := by
          rw [enc_big g, em, ed]
          congr 1
          apply UInt8.toNat_inj.1
          rw [toNat_ofNat (by omega)]
          omega
        have ee : (c.toNat % 128 + 128 * n) * 2 ^ (7 * i) = c.toNat % 128 * 2 ^ (7 * i) + n * 2 ^ (7 * (i + 1)) := by
          rw [Nat.add_mul, pow7, Nat.mul_comm 128 n, Nat.mul_assoc, Nat.mul_comm 128]
        refine ⟨c.toNat % 128 + 128 * n, ?_, by omega, ?_, fun _ => ?_, r, ?_⟩
        · rw [e1, ee]; omega
        · rw [e3, eb, List.length_cons]; omega
        · have hi' : i + 1 ≤ 9 := by
            by_cases e : i = 9
            · omega
            · omega
          have := e4 hi'
          rw [ee]
          have x1 : 2 ^ (64 - 7 * (i + 1)) * 2 ^ (7 * (i + 1)) = 2 ^ 64 := by rw [← Nat.pow_add]; congr 1; omega
          have x2 : n < 2 ^ (64 - 7 * (i + 1)) := by
            refine Nat.lt_of_mul_lt_mul_right (a := 2 ^ (7 * (i + 1))) ?_
            rw [x1]; exact this
          have x3 : (n + 1) * 2 ^ (7 * (i + 1)) ≤ 2 ^ 64 := by rw [← x1]; exact Nat.mul_le_mul_right _ x2
          have x4 : c.toNat % 128 * 2 ^ (7 * i) < 2 ^ (7 * (i + 1)) := by
            rw [pow7, Nat.mul_comm (2 ^ (7 * i))]
            exact Nat.mul_lt_mul_of_pos_right (by omega) (Nat.two_pow_pos _)
          rw [Nat.add_mul, Nat.one_mul] at x3
          omega
        · rw [eb, e5]; rfl

theorem enc_pos (n : Nat) : 0 < (enc n).length := by
  by_cases h : n < 128
  · rw [enc_small h]; simp
  · rw [enc_big h]; simp

/-- Two numbers whose bytes begin one another's are the same. -/
theorem enc_apart {n m : Nat} (hn : n < 2 ^ 64) (hm : m < 2 ^ 64) {r : List UInt8} (h : enc m = enc n ++ r) : n = m := by
  have a := num_enc r n 0 0 (by omega) (by omega)
  have b := num_enc [] m 0 0 (by omega) (by omega)
  rw [List.append_nil, h, a] at b
  simp only [Prod.mk.injEq] at b
  omega

/-- The one number that stands next. -/
theorem num_some {l : List UInt8} {N k : Nat} (h : num 0 0 l = (N, k)) (hk : 0 < k) : N < 2 ^ 64 ∧ k = (enc N).length ∧ l = enc N ++ l.drop k := by
  obtain ⟨n, e1, _, e3, e4, r, e5⟩ := num_inv l 0 0 N k h hk
  have hN : N = n := by omega
  subst hN
  refine ⟨by have := e4 (by omega); omega, by omega, ?_⟩
  have hk' : k = (enc N).length := by omega
  rw [hk']
  conv => rhs; rw [e5]
  rw [List.drop_left, ← e5]

theorem num_le (l : List UInt8) : (num 0 0 l).2 ≤ l.length := by
  rcases Nat.eq_zero_or_pos (num 0 0 l).2 with h | h
  · omega
  · obtain ⟨_, e, e'⟩ := num_some (l := l) rfl h
    have := congrArg List.length e'
    rw [List.length_append, ← e] at this
    omega

theorem num_none (l : List UInt8) (h : (num 0 0 l).2 = 0) : num 0 0 l = (0, 0) := by
  have : ∀ (l : List UInt8) (acc i : Nat), (num acc i l).2 = 0 → num acc i l = (0, 0) := by
    intro l
    induction l with
    | nil => intro acc i _; rfl
    | cons c l ih =>
      intro acc i h
      simp only [num] at h ⊢
      by_cases c1 : 9 < i ∨ (i = 9 ∧ 1 < c.toNat)
      · rw [if_pos c1]
      · rw [if_neg c1] at h ⊢
        by_cases c2 : c.toNat < 128
        · rw [if_pos c2] at h ⊢
          by_cases c3 : c.toNat = 0 ∧ 0 < i
          · rw [if_pos c3]
          · rw [if_neg c3] at h
            simp at h
        · rw [if_neg c2] at h ⊢
          exact ih _ _ h
  exact this l 0 0 h

end Go.Proofs.Ytflifeelgamaaaa.Oct
