/- Cyclic sums: the plain mathematics. No program in sight. -/
namespace Go.Proofs.Ytcckljomjpfdaaa
def stp (s : Nat) : Nat := (s / 2) ^^^ (if s % 2 = 1 then 3988292384 else 0)
def stps : Nat → Nat → Nat
  | 0, s => s
  | k + 1, s => stp (stps k s)
def crcm (s : Nat) : List UInt8 → Nat
  | [] => s
  | c :: cs => crcm (stps 8 (s ^^^ c.toNat)) cs
theorem xor_half (a b : Nat) : (a ^^^ b) / 2 = a / 2 ^^^ b / 2 := by
  apply Nat.eq_of_testBit_eq
  intro i
  simp [Nat.testBit_div_two, Nat.testBit_xor]
theorem xor_odd (a b : Nat) : (a ^^^ b) % 2 = (a % 2 + b % 2) % 2 := by
  have h := Nat.testBit_xor a b 0
  simp only [Nat.testBit_zero] at h
  have key : ∀ x : Nat, x % 2 = 0 ∨ x % 2 = 1 := fun x => by omega
  rcases key a with ha | ha <;> rcases key b with hb | hb <;> rcases key (a ^^^ b) with hc | hc <;> simp [ha, hb, hc] at h ⊢
theorem stp_xor (a b : Nat) : stp (a ^^^ b) = stp a ^^^ stp b := by
  unfold stp
  rw [xor_half, xor_odd]
  by_cases ha : a % 2 = 1 <;> by_cases hb : b % 2 = 1
  · rw [if_neg (by omega), if_pos ha, if_pos hb]
    apply Nat.eq_of_testBit_eq; intro i; simp only [Nat.testBit_xor]
    cases (a/2).testBit i <;> cases (b/2).testBit i <;> cases (3988292384 : Nat).testBit i <;> simp
  · rw [if_pos (by omega), if_pos ha, if_neg hb]
    apply Nat.eq_of_testBit_eq; intro i; simp only [Nat.testBit_xor]
    cases (a/2).testBit i <;> cases (b/2).testBit i <;> cases (3988292384 : Nat).testBit i <;> simp
  · rw [if_pos (by omega), if_neg ha, if_pos hb]
    apply Nat.eq_of_testBit_eq; intro i; simp only [Nat.testBit_xor]
    cases (a/2).testBit i <;> cases (b/2).testBit i <;> cases (3988292384 : Nat).testBit i <;> simp
  · rw [if_neg (by omega), if_neg ha, if_neg hb]
    simp
theorem stps_xor (a b : Nat) : ∀ k, stps k (a ^^^ b) = stps k a ^^^ stps k b
  | 0 => rfl
  | k + 1 => by rw [stps, stps_xor a b k, stp_xor]; rfl
theorem stps_add (m : Nat) (s : Nat) : ∀ k, stps (m + k) s = stps k (stps m s)
  | 0 => rfl
  | k + 1 => by rw [← Nat.add_assoc, stps, stps_add m s k]; rfl
theorem stp_even (y : Nat) : stp (y * 2) = y := by
  unfold stp; rw [if_neg (by omega)]; simp
theorem stps_shift (y : Nat) : ∀ k, stps k (y * 2 ^ k) = y
  | 0 => by simp [stps]
  | k + 1 => by
    rw [Nat.add_comm, stps_add 1, show stps 1 (y * 2 ^ (1 + k)) = y * 2 ^ k from ?_, stps_shift y k]
    show stp (y * 2 ^ (1 + k)) = _
    rw [show y * 2 ^ (1 + k) = (y * 2 ^ k) * 2 by rw [Nat.pow_add, Nat.mul_assoc, Nat.mul_comm (2 ^ k)]]
    exact stp_even _
/-- Bytes as a number, the lowest first. -/
def le : List UInt8 → Nat
  | [] => 0
  | c :: cs => c.toNat ^^^ (le cs * 256)
theorem crcm_le (l : List UInt8) : ∀ s, crcm s l = stps (8 * l.length) (s ^^^ le l) := by
  induction l with
  | nil => intro s; simp [crcm, le, stps]
  | cons c cs ih =>
    intro s
    rw [crcm, ih, List.length_cons, show 8 * (cs.length + 1) = 8 + 8 * cs.length by omega, stps_add, le, ← Nat.xor_assoc, stps_xor _ (le cs * 256), show 256 = 2 ^ 8 from rfl, stps_shift]
theorem stp_lt {s : Nat} (h : s < 4294967296) : stp s < 4294967296 := by
  unfold stp
  exact Nat.xor_lt_two_pow (n := 32) (by omega) (by split <;> omega)
theorem stps_lt {s : Nat} (h : s < 4294967296) : ∀ k, stps k s < 4294967296
  | 0 => h
  | k + 1 => stp_lt (stps_lt h k)
theorem stp_ne {s : Nat} (h : s < 4294967296) (h0 : s ≠ 0) : stp s ≠ 0 := by
  unfold stp
  by_cases c : s % 2 = 1
  · rw [if_pos c]
    intro e
    have : s / 2 = 3988292384 := by
      have := congrArg (· ^^^ 3988292384) e
      simpa [Nat.xor_assoc] using this
    omega
  · rw [if_neg c]; simp; omega
theorem stps_ne {s : Nat} (h : s < 4294967296) (h0 : s ≠ 0) : ∀ k, stps k s ≠ 0
  | 0 => h0
  | k + 1 => stp_ne (stps_lt h k) (stps_ne h h0 k)
theorem xor_eq_zero {a b : Nat} (h : a ^^^ b = 0) : a = b := by
  have := congrArg (· ^^^ b) h
  simpa [Nat.xor_assoc] using this
theorem stps_inj {a b : Nat} (ha : a < 4294967296) (hb : b < 4294967296) (k : Nat) (h : stps k a = stps k b) : a = b := by
  by_cases e : a ^^^ b = 0
  · exact xor_eq_zero e
  · exact absurd (by rw [stps_xor, h, Nat.xor_self]) (stps_ne (Nat.xor_lt_two_pow (n := 32) ha hb) e k)
theorem le_append (a b : List UInt8) : le (a ++ b) = le a ^^^ (le b * 2 ^ (8 * a.length)) := by
  induction a with
  | nil => simp [le]
  | cons c a ih =>
    rw [List.cons_append, le, ih, le, List.length_cons]
    rw [show 256 = 2 ^ 8 from rfl, ← Nat.shiftLeft_eq, Nat.shiftLeft_xor_distrib, Nat.shiftLeft_eq, Nat.shiftLeft_eq, Nat.mul_assoc, ← Nat.pow_add, Nat.xor_assoc, Nat.mul_add]
def four (n : Nat) : List UInt8 := [UInt8.ofNat (n % 256), UInt8.ofNat (n / 256 % 256), UInt8.ofNat (n / 65536 % 256), UInt8.ofNat (n / 16777216 % 256)]
theorem xor_low {a b k : Nat} (h : a < 2 ^ k) : a ^^^ (b * 2 ^ k) = a + b * 2 ^ k := by
  have e : a + b * 2 ^ k = 2 ^ k * b + a := by rw [Nat.mul_comm]; omega
  apply Nat.eq_of_testBit_eq; intro i
  rw [e, Nat.testBit_xor, Nat.testBit_two_pow_mul_add _ h, Nat.testBit_mul_two_pow]
  by_cases c : i < k
  · simp [c, show ¬ k ≤ i by omega]
  · rw [Nat.testBit_lt_two_pow (x := a) (Nat.lt_of_lt_of_le h (Nat.pow_le_pow_right (by omega) (by omega)))]
    simp [c, show k ≤ i by omega]
theorem le_four {n : Nat} (h : n < 4294967296) : le (four n) = n := by
  unfold four
  have l (c : Nat) (b : Nat) : le (UInt8.ofNat (c % 256) :: []) = c % 256 := by simp [le]
  simp only [le, UInt8.toNat_ofNat', Nat.zero_mul, Nat.xor_zero, Nat.mod_mod_of_dvd _ (show 256 ∣ 2^8 from ⟨1, rfl⟩)]
  rw [show (256 : Nat) = 2 ^ 8 from rfl, xor_low (by omega), xor_low (by omega), xor_low (by omega)]
  omega
theorem le_lt : ∀ l : List UInt8, le l < 2 ^ (8 * l.length)
  | [] => by simp [le]
  | c :: cs => by
    have ih := le_lt cs
    have hc := c.toNat_lt
    rw [le, show 256 = 2 ^ 8 from rfl, xor_low (by omega), List.length_cons, show 8 * (cs.length + 1) = 8 * cs.length + 8 by omega, Nat.pow_add]
    have : (le cs + 1) * 2 ^ 8 ≤ 2 ^ (8 * cs.length) * 2 ^ 8 := Nat.mul_le_mul_right _ ih
    omega
theorem le_inj : ∀ {a b : List UInt8}, a.length = b.length → le a = le b → a = b
  | [], [], _, _ => rfl
  | c :: a, d :: b, h, e => by
    have hc := c.toNat_lt
    have hd := d.toNat_lt
    rw [le, le, show 256 = 2 ^ 8 from rfl, xor_low (by omega), xor_low (by omega)] at e
    have e1 : c.toNat = d.toNat := by omega
    have e2 : le a = le b := by omega
    rw [UInt8.toNat_inj.1 e1, le_inj (by simpa using h) e2]
/-- What is whole: the state behind all of it is always the same one. -/
theorem whole_iff (p q : List UInt8) (hq : q.length = 4) : four (4294967295 - crcm 4294967295 p) = q ↔ crcm 4294967295 (p ++ q) = stps 32 4294967295 := by
  have happ : crcm 4294967295 (p ++ q) = crcm (crcm 4294967295 p) q := by
    generalize (4294967295 : Nat) = s
    induction p generalizing s with
    | nil => rfl
    | cons c p ih => exact ih _
  have hs : crcm 4294967295 p < 4294967296 := by
    have aux : ∀ (l : List UInt8) (s : Nat), s < 4294967296 → crcm s l < 4294967296 := by
      intro l
      induction l with
      | nil => exact fun s h => h
      | cons c l ih => exact fun s h => ih _ (stps_lt (Nat.xor_lt_two_pow (n := 32) h (by have := c.toNat_lt; omega)) 8)
    exact aux _ _ (by omega)
  generalize crcm 4294967295 p = S at *
  have hlq : le q < 4294967296 := by have := le_lt q; rw [hq] at this; simpa using this
  have hx : ∀ n, n < 4294967296 → 4294967295 - n = 4294967295 ^^^ n := by
    intro n hn
    have := Nat.testBit_two_pow_sub_succ (n := 32) (x := n) (by omega)
    apply Nat.eq_of_testBit_eq; intro i
    rw [show 4294967295 - n = 2 ^ 32 - (n + 1) by omega, this, Nat.testBit_xor, show 4294967295 = 2 ^ 32 - 1 from rfl, Nat.testBit_two_pow_sub_one]
    by_cases c : i < 32
    · simp [c]
    · have : n.testBit i = false := Nat.testBit_lt_two_pow (Nat.lt_of_lt_of_le hn (by rw [show 4294967296 = 2 ^ 32 from rfl]; exact Nat.pow_le_pow_right (by omega) (by omega)))
      simp [c, this]
  rw [happ, crcm_le, hq]
  constructor
  · intro h
    rw [← h, le_four (by omega), hx _ hs, ← Nat.xor_assoc, Nat.xor_comm S, Nat.xor_assoc, Nat.xor_self, Nat.xor_zero]
  · intro h
    have := stps_inj (Nat.xor_lt_two_pow (n := 32) hs hlq) (by omega) 32 h
    refine le_inj (by rw [hq]; rfl) ?_
    rw [le_four (by omega), hx _ hs, ← this, Nat.xor_comm S, Nat.xor_assoc, Nat.xor_self, Nat.xor_zero]
theorem bursts (l l' : List UInt8) (n at_ p : Nat) (hl : l.length = n) (hl' : l'.length = n) (hat : at_ + 32 ≤ 8 * n) (hp : p < 4294967296) (hp0 : p ≠ 0) (he : le l' = le l ^^^ (p * 2 ^ at_)) : crcm 4294967295 l' ≠ crcm 4294967295 l := by
  rw [crcm_le, crcm_le, he, hl, hl', ← Nat.xor_assoc, stps_xor]
  intro h
  have h2 : stps (8 * n) (p * 2 ^ at_) = 0 := by
    have := congrArg (stps (8 * n) (4294967295 ^^^ le l) ^^^ ·) h
    simpa [← Nat.xor_assoc] using this
  rw [show 8 * n = at_ + (8 * n - at_) by omega, stps_add, stps_shift] at h2
  exact stps_ne hp hp0 _ h2
theorem le_set (l : List UInt8) (i j : Nat) (hi : i < l.length) (hj : j < 8) : le (l.set i (l[i] ^^^ UInt8.ofNat (2 ^ j))) = le l ^^^ 2 ^ (8 * i + j) := by
  induction l generalizing i with
  | nil => simp at hi
  | cons c l ih =>
    have hp : 2 ^ j < 256 := by have : 2 ^ j < 2 ^ 8 := Nat.pow_lt_pow_right (by omega) hj; simpa using this
    cases i with
    | zero =>
      simp only [List.set_cons_zero, le, List.getElem_cons_zero, UInt8.toNat_xor, UInt8.toNat_ofNat', Nat.mul_zero, Nat.zero_add]
      rw [Nat.mod_eq_of_lt (by omega), Nat.xor_assoc, Nat.xor_assoc, Nat.xor_comm (2 ^ j)]
    | succ i =>
      simp only [List.set_cons_succ, le, List.getElem_cons_succ]
      rw [ih i (by simpa using hi), show 256 = 2 ^ 8 from rfl, ← Nat.shiftLeft_eq, Nat.shiftLeft_xor_distrib, Nat.shiftLeft_eq, Nat.shiftLeft_eq, ← Nat.pow_add, ← Nat.xor_assoc, show 8 * i + j + 8 = 8 * (i + 1) + j by omega]
theorem xor4 (a b c d : Nat) : (a ^^^ b) ^^^ (c ^^^ d) = (a ^^^ c) ^^^ (b ^^^ d) := by
  rw [Nat.xor_assoc, Nat.xor_assoc, ← Nat.xor_assoc b, Nat.xor_comm b c, Nat.xor_assoc c]
theorem le_zip : ∀ (a b : List UInt8), a.length = b.length → le (List.zipWith (· ^^^ ·) a b) = le a ^^^ le b
  | [], [], _ => by simp [le]
  | c :: a, d :: b, h => by
    rw [List.zipWith_cons_cons, le, le, le, le_zip a b (by simpa using h), UInt8.toNat_xor, show 256 = 2 ^ 8 from rfl, ← Nat.shiftLeft_eq, Nat.shiftLeft_xor_distrib, Nat.shiftLeft_eq, Nat.shiftLeft_eq]
    exact xor4 _ _ _ _
theorem crcm_linear (s t : Nat) (a b : List UInt8) (h : a.length = b.length) : crcm (s ^^^ t) (List.zipWith (· ^^^ ·) a b) = crcm s a ^^^ crcm t b := by
  rw [crcm_le, crcm_le, crcm_le, le_zip a b h, List.length_zipWith, ← h, Nat.min_self, ← stps_xor]
  exact congrArg _ (xor4 _ _ _ _)
end Go.Proofs.Ytcckljomjpfdaaa
