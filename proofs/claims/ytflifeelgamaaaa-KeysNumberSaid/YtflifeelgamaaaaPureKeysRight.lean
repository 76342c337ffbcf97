/- Which texts may be keys, and values (KeysRight): the program answers as the reference, for every text. Conditions: none beyond the row's own. -/
import Derived.Test.YtflifeelgamaaaaPKeysRightx2
namespace Go.Proofs.Ytflifeelgamaaaa.Pure
open Go.RowKit Go.Proofs.Ytflifeelgamaaaa.PKeysRight Go.Proofs.YtflifeelgamaaaaW.PrintWords Go.Proofs.YtflifeelgamaaaaW.PrintLast

def signP (c : Int) : Prop := 97 ≤ c ∧ c ≤ 122 ∨ 48 ≤ c ∧ c ≤ 57 ∨ c = 95
/-- From place i on all bytes may stand in a key. -/
def allP (s : ByteArray) (i : Int) : Prop := ∀ j : Int, i ≤ j → j < s.size → signP (bt s j)

theorem sign_eq (k : Nat) (c : Int) (hk : 2 ≤ k) : ∃ r, keys_sign.f k c = some r ∧ (r = true ↔ signP c) := by
  obtain ⟨k, rfl⟩ : ∃ m, k = m + 2 := ⟨k - 2, by omega⟩
  by_cases h1 : 97 ≤ c
  · by_cases h2 : c ≤ 122
    · exact ⟨true, by simp [keys_sign.f, keys_sign.j0, h1, h2], by simp [signP, h1, h2]⟩
    · exact ⟨false, by simp [keys_sign.f, keys_sign.j0, keys_sign.j1, h1, h2, show 48 ≤ c by omega, show ¬ c ≤ 57 by omega, show ¬ c = 95 by omega], by simp only [signP, Bool.false_eq_true, false_iff]; omega⟩
  · by_cases h3 : 48 ≤ c
    · by_cases h4 : c ≤ 57
      · exact ⟨true, by simp [keys_sign.f, keys_sign.j0, keys_sign.j1, h1, h3, h4], by simp only [signP, true_iff]; omega⟩
      · by_cases h5 : c = 95
        · exact ⟨true, by simp [keys_sign.f, keys_sign.j0, keys_sign.j1, h5], by simp only [signP, true_iff]; omega⟩
        · exact ⟨false, by simp [keys_sign.f, keys_sign.j0, keys_sign.j1, h1, h3, h4, h5], by simp only [signP, Bool.false_eq_true, false_iff]; omega⟩
    · exact ⟨false, by simp [keys_sign.f, keys_sign.j0, keys_sign.j1, h1, h3, show ¬ c = 95 by omega], by simp only [signP, Bool.false_eq_true, false_iff]; omega⟩

theorem allP_step (s : ByteArray) (i : Int) (h : i < s.size) : allP s i ↔ signP (bt s i) ∧ allP s (i + 1) := by
  constructor
  · exact fun a => ⟨a i (by omega) h, fun j hj => a j (by omega)⟩
  · rintro ⟨a, b⟩ j h1 h2
    by_cases e : j = i
    · rw [e]; exact a
    · exact b j (by omega) h2

theorem wrap_next {i : Int} {n : Nat} (h0 : 0 ≤ i) (h : i < (n : Int)) (hn : n ≤ 140737488351232) : wrap64 (i + 1) = i + 1 := by
  unfold wrap64
  omega

theorem signs_eq (s : ByteArray) (hn : s.size ≤ 140737488351232) (most : Int) (d : Nat) : ∀ (k : Nat) (i : Int), 0 ≤ i → i ≤ s.size → (s.size : Int) - i = d → d + 3 ≤ k →
    ∃ r, keys_signs.l0 k s most (s.size : Int) i = some r ∧ (r = true ↔ allP s i ∧ (s.size : Int) ≤ most) := by
  induction d with
  | zero =>
    intro k i h0 h1 hd hk
    obtain ⟨k, rfl⟩ : ∃ m, k = m + 1 := ⟨k - 1, by omega⟩
    refine ⟨decide ((s.size : Int) ≤ most), ?_, ?_⟩
    · simp only [keys_signs.l0]; rw [if_neg (by omega)]
    · have : allP s i := fun j h2 h3 => by omega
      simp [this]
  | succ d ih =>
    intro k i h0 h1 hd hk
    obtain ⟨k, rfl⟩ : ∃ m, k = m + 1 := ⟨k - 1, by omega⟩
    have hlt : i < (s.size : Int) := by omega
    obtain ⟨b, hb, hs⟩ := sign_eq k (bt s i) (by omega)
    cases b with
    | true =>
      obtain ⟨r, hr, h⟩ := ih k (i + 1) (by omega) (by omega) (by omega) (by omega)
      refine ⟨r, ?_, ?_⟩
      · simp only [keys_signs.l0]; rw [if_pos hlt, if_pos h0, if_pos hlt, hb]; simp only [Option.bind_some, if_true]; rw [wrap_next h0 hlt hn]; exact hr
      · rw [h, allP_step s i hlt]
        simp only [hs.1 rfl, true_and]
    | false =>
      refine ⟨false, ?_, ?_⟩
      · simp only [keys_signs.l0]; rw [if_pos hlt, if_pos h0, if_pos hlt, hb]; simp
      · rw [allP_step s i hlt]
        have : ¬ signP (bt s i) := fun e => by simpa using hs.2 e
        simp [this]

theorem wrap_bt (s : ByteArray) (i : Int) : wrap64 (bt s i) = bt s i := by
  have := bt_range s i
  unfold wrap64
  omega

theorem ref_signs_eq (s : ByteArray) (hn : s.size ≤ 140737488351232) (d : Nat) : ∀ (k : Nat) (i : Int), 0 ≤ i → i ≤ s.size → (s.size : Int) - i = d → d + 1 ≤ k →
    ∃ r, sautoirref08_signs.l0 k s i = some r ∧ (r = true ↔ allP s i) := by
  induction d with
  | zero =>
    intro k i h0 h1 hd hk
    obtain ⟨k, rfl⟩ : ∃ m, k = m + 1 := ⟨k - 1, by omega⟩
    refine ⟨true, ?_, ?_⟩
    · simp only [sautoirref08_signs.l0]; rw [if_neg (by omega)]
    · have : allP s i := fun j h2 h3 => by omega
      simp [this]
  | succ d ih =>
    intro k i h0 h1 hd hk
    obtain ⟨k, rfl⟩ : ∃ m, k = m + 1 := ⟨k - 1, by omega⟩
    have hlt : i < (s.size : Int) := by omega
    obtain ⟨r, hr, h⟩ := ih k (i + 1) (by omega) (by omega) (by omega) (by omega)
    by_cases hs : signP (bt s i)
    · refine ⟨r, ?_, ?_⟩
      · simp only [sautoirref08_signs.l0, wrap_bt]
        rw [if_pos hlt, if_pos h0, wrap_next h0 hlt hn, hr]
        unfold signP at hs
        repeat' split
        all_goals first | rfl | omega
      · rw [h, allP_step s i hlt]
        simp only [hs, true_and]
    · refine ⟨false, ?_, ?_⟩
      · simp only [sautoirref08_signs.l0, wrap_bt]
        rw [if_pos hlt, if_pos h0]
        unfold signP at hs
        repeat' split
        all_goals first | rfl | omega
      · rw [allP_step s i hlt]
        simp [hs]

theorem toList_nil (s : ByteArray) : s.toList = [] ↔ s.size = 0 := by
  rw [ByteArray.toList_eq, ← List.length_eq_zero_iff]
  rfl

theorem awake_ok (k : Nat) : sautoirlaw08_awake.f (k + 8) = some true := by
  have e1 : (⟨#[97]⟩ : ByteArray).size = 1 := rfl
  have e2 : bt (⟨#[97]⟩ : ByteArray) 0 = 97 := by decide +kernel
  have e3 : Go.bits .xor .u32 177573 97 = 177604 := by decide +kernel
  have e4 : (⟨#[97]⟩ : ByteArray).toList = [97] := by decide +kernel
  have e5 : (⟨#[]⟩ : ByteArray).toList = [] := by decide +kernel
  have e6 : wrap64 1 = 1 := by decide +kernel
  have n : keys_Number.f (k + 8) (⟨#[97]⟩ : ByteArray) = some 177604 := by
    simp [keys_Number.f, keys_Number.l0, e1, e2, e3, e6]
  have r : keys_Right.f (k + 8) (⟨#[97]⟩ : ByteArray) = some true := by
    simp [keys_Right.f, keys_signs.f, keys_signs.l0, keys_sign.f, keys_sign.j0, e1, e2, e4, e6]
  have z : keys_Right.f (k + 8) (⟨#[]⟩ : ByteArray) = some false := by
    simp [keys_Right.f, e5]
  simp [sautoirlaw08_awake.f, n, r, z]

theorem KeysRight : sautoirlaw08_KeysRight.Pure := by
  intro a hn
  obtain ⟨s, hs, hsz⟩ : ∃ s, sautoirlaw08_short.f a = some s ∧ s.size ≤ 80 := by
    unfold sautoirlaw08_short.f
    by_cases h : (a.size : Int) > 80
    · rw [if_pos h, if_pos (by omega), if_pos (by omega)]
      exact ⟨_, rfl, by simp; omega⟩
    · rw [if_neg h]
      exact ⟨_, rfl, by omega⟩
  have hn' : s.size ≤ 140737488351232 := by omega
  refine ⟨s.size + 100, ?_⟩
  obtain ⟨r1, e1, h1⟩ := signs_eq s hn' 32 s.size (s.size + 100) 0 (by omega) (by omega) (by omega) (by omega)
  obtain ⟨r2, e2, h2⟩ := signs_eq s hn' 64 s.size (s.size + 100) 0 (by omega) (by omega) (by omega) (by omega)
  obtain ⟨r3, e3, h3⟩ := ref_signs_eq s hn' s.size (s.size + 100) 0 (by omega) (by omega) (by omega) (by omega)
  have w := awake_ok (s.size + 92)
  unfold sautoirlaw08_KeysRight.f
  rw [hs]
  simp only [Option.bind_some]
  unfold keys_Right.f keys_RightVal.f keys_signs.f sautoirref08_Right.f sautoirref08_RightVal.f sautoirref08_signs.f
  rw [e1, e2, e3, w]
  simp only [Option.bind_some]
  have z := toList_nil s
  by_cases c0 : s.size = 0
  · rw [if_pos (z.2 c0), if_neg (by omega), if_pos (by omega)]
    have : r2 = r3 := by rw [Bool.eq_iff_iff, h2, h3]; constructor; exact fun h => h.1; exact fun h => ⟨h, by omega⟩
    simp [this]
  · rw [if_neg (fun e => c0 (z.1 e)), if_pos (by omega)]
    by_cases c1 : s.size ≤ 32
    · rw [if_pos (by omega), if_pos (by omega)]
      have a1 : r1 = r3 := by rw [Bool.eq_iff_iff, h1, h3]; constructor; exact fun h => h.1; exact fun h => ⟨h, by omega⟩
      have a2 : r2 = r3 := by rw [Bool.eq_iff_iff, h2, h3]; constructor; exact fun h => h.1; exact fun h => ⟨h, by omega⟩
      simp [a1, a2]
    · rw [if_neg (by omega)]
      have a1 : r1 = false := by rw [← Bool.not_eq_true, h1]; omega
      by_cases c2 : s.size ≤ 64
      · rw [if_pos (by omega)]
        have a2 : r2 = r3 := by rw [Bool.eq_iff_iff, h2, h3]; constructor; exact fun h => h.1; exact fun h => ⟨h, by omega⟩
        simp [a1, a2]
      · rw [if_neg (by omega)]
        have a2 : r2 = false := by rw [← Bool.not_eq_true, h2]; omega
        simp [a1, a2]

end Go.Proofs.Ytflifeelgamaaaa.Pure
