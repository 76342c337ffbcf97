/- Plain facts on how the reference reads a number (chapter 1). -/
import Derived.Test.YtflifeelgamaaaaOctetPure
namespace Go.Proofs.Ytflifeelgamaaaa.Oct

/-- The number that bytes tell, modulo 2^64. -/
def valw : List UInt8 → Nat
  | [] => 0
  | c :: l => (valw l * 128 + c.toNat % 128) % 2 ^ 64

theorem valw_lt (l : List UInt8) : valw l < 2 ^ 64 := by
  cases l with
  | nil => exact Nat.two_pow_pos 64
  | cons c l => exact Nat.mod_lt _ (Nat.two_pow_pos 64)

theorem valw_enc (n : Nat) (h : n < 2 ^ 64) : valw (enc n) = n := by
  induction n using Nat.strongRecOn with
  | _ n ih =>
    by_cases c : n < 128
    · rw [enc_small c]
      simp only [valw, toNat_ofNat (show n < 256 by omega)]
      omega
    · rw [enc_big c]
      simp only [valw, toNat_ofNat (show n % 128 + 128 < 256 by omega)]
      rw [ih (n / 128) (by omega) (by omega)]
      omega

/-- All bytes of a number but the last one are 128 or more; the last one is not. -/
theorem enc_shape (n : Nat) : (∀ i, i + 1 < (enc n).length → 128 ≤ ((enc n).getD i 0).toNat) ∧ ((enc n).getD ((enc n).length - 1) 0).toNat < 128 := by
  induction n using Nat.strongRecOn with
  | _ n ih =>
    by_cases c : n < 128
    · rw [enc_small c]
      refine ⟨fun i hi => ?_, ?_⟩
      · simp at hi
      · show (UInt8.ofNat n).toNat < 128
        rw [toNat_ofNat (by omega)]; exact c
    · obtain ⟨h1, h2⟩ := ih (n / 128) (by omega)
      have hp := enc_pos (n / 128)
      rw [enc_big c]
      refine ⟨fun i hi => ?_, ?_⟩
      · cases i with
        | zero => show 128 ≤ (UInt8.ofNat (n % 128 + 128)).toNat; rw [toNat_ofNat (by omega)]; omega
        | succ i =>
          simp only [List.length_cons] at hi
          simpa using h1 i (by omega)
      · rw [List.length_cons, show (enc (n / 128)).length + 1 - 1 = ((enc (n / 128)).length - 1) + 1 by omega]
        simpa using h2

theorem num_lead (l : List UInt8) : ∀ (acc i : Nat), i ≤ 9 → (∀ k, k < l.length → k < 10 - i → 128 ≤ (l.getD k 0).toNat) → num acc i l = (0, 0) := by
  induction l with
  | nil => intro acc i _ _; rfl
  | cons c l ih =>
    intro acc i hi h
    have h0 : 128 ≤ c.toNat := by simpa using h 0 (by simp) (by omega)
    simp only [num]
    by_cases e : i = 9
    · rw [if_pos (by omega)]
    · rw [if_neg (by omega), if_neg (by omega)]
      refine ih _ (i + 1) (by omega) (fun k hk hk' => ?_)
      have := h (k + 1) (by simp; omega) (by omega)
      simpa using this

/-- The first byte below 128 stands too far, or nowhere: no number. -/
theorem num_far (l : List UInt8) (j : Nat) (h : ∀ i, i < j → 128 ≤ (l.getD i 0).toNat) (hj : l.length ≤ j ∨ 9 < j) : num 0 0 l = (0, 0) :=
  num_lead l 0 0 (by omega) (fun k hk hk' => h k (by omega))

theorem num_is (l : List UInt8) (j : Nat) (hj : j < l.length) (he : enc (valw (l.take (j + 1))) = l.take (j + 1)) : num 0 0 l = (valw (l.take (j + 1)), j + 1) := by
  have hn := valw_lt (l.take (j + 1))
  have := num_enc (l.drop (j + 1)) (valw (l.take (j + 1))) 0 0 (by omega) (by omega)
  rw [he, List.take_append_drop, List.length_take, Nat.min_eq_left (by omega)] at this
  rw [this]
  simp

theorem num_not (l : List UInt8) (j : Nat) (h : ∀ i, i < j → 128 ≤ (l.getD i 0).toNat) (hl : (l.getD j 0).toNat < 128) (he : ¬ enc (valw (l.take (j + 1))) = l.take (j + 1)) : num 0 0 l = (0, 0) := by
  refine num_none l ?_
  refine Classical.byContradiction fun hk => he ?_
  obtain ⟨hN, hk', hl'⟩ := num_some (l := l) rfl (Nat.pos_of_ne_zero hk)
  generalize (num 0 0 l).1 = N at *
  generalize (num 0 0 l).2 = k at *
  obtain ⟨s1, s2⟩ := enc_shape N
  have hp := enc_pos N
  have hkl : k ≤ l.length := by
    have := congrArg List.length hl'
    rw [List.length_append] at this
    omega
  have hg : ∀ i, i < k → l.getD i 0 = (enc N).getD i 0 := by
    intro i hi
    rw [hl', List.getD_eq_getElem?_getD, List.getD_eq_getElem?_getD, List.getElem?_append_left (by omega)]
  have e1 : k = j + 1 := by
    rcases Nat.lt_trichotomy k (j + 1) with h1 | h1 | h1
    · have a := h (k - 1) (by omega)
      rw [hg (k - 1) (by omega), hk'] at a
      omega
    · exact h1
    · have a := s1 j (by omega)
      rw [← hg j (by omega)] at a
      omega
  have e2 : l.take (j + 1) = enc N := by
    rw [hl', ← e1, hk', List.take_left]
  rw [e2, valw_enc N hN]

end Go.Proofs.Ytflifeelgamaaaa.Oct
