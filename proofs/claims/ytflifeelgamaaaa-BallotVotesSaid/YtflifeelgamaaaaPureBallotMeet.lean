/- Two votes that win of the same masters have one in common (BallotMeet): for all votes and numbers. Conditions: none beyond the row's own. -/
import Derived.Test.YtflifeelgamaaaaPBallotMeetx1
namespace Go.Proofs.Ytflifeelgamaaaa.Pure
open Go.RowKit Go.Proofs.Ytflifeelgamaaaa.PBallotMeet Go.Proofs.YtflifeelgamaaaaW.PrintWords Go.Proofs.YtflifeelgamaaaaW.PrintLast Go.Proofs.YtflifeelgamaaaaW.PrintMore

theorem has_at (v n : Int) (h0 : 0 ≤ n) (h5 : n < 5) : ∃ b, ballot_Votes_Has.f v n = some b := by
  unfold ballot_Votes_Has.f ballot_master.f
  rw [if_pos (show n ≥ 0 by omega), show decide (n < 5) = true from decide_eq_true h5]
  simp only [Option.bind_some, if_true]
  rw [if_pos h0]
  exact ⟨_, rfl⟩

theorem awake_ok (k : Nat) : sautoirlaw07_awake.f (k + 8) = some true := by
  have e1 : ballot_Votes_With.f 0 0 = some 1 := by decide +kernel
  have e2 : ballot_Votes_With.f 1 2 = some 5 := by decide +kernel
  have h0 : ballot_Votes_Has.f 5 0 = some true := by decide +kernel
  have h1 : ballot_Votes_Has.f 5 1 = some false := by decide +kernel
  have h2 : ballot_Votes_Has.f 5 2 = some true := by decide +kernel
  have h3 : ballot_Votes_Has.f 5 3 = some false := by decide +kernel
  have h4 : ballot_Votes_Has.f 5 4 = some false := by decide +kernel
  simp [sautoirlaw07_awake.f, e1, e2, ballot_Votes_Wins.f, ballot_Votes_Len.f, ballot_Votes_among.f, ballot_Votes_among.l0, mx, mn, wrap64, h0, h1, h2, h3, h4]

theorem mxmn_range (n : Int) : mn (mx n 1) 5 = 1 ∨ mn (mx n 1) 5 = 2 ∨ mn (mx n 1) 5 = 3 ∨ mn (mx n 1) 5 = 4 ∨ mn (mx n 1) 5 = 5 := by
  unfold mn mx
  split <;> split <;> omega

theorem below_iff (n j : Int) (h : j < 5) : (j < mx n 1) ↔ (j < mn (mx n 1) 5) := by
  unfold mn
  split <;> omega

def cnt (l : List Bool) : Nat := (l.filter id).length

theorem among_at (v : Int) (b0 b1 b2 b3 b4 : Bool) (h0 : ballot_Votes_Has.f v 0 = some b0) (h1 : ballot_Votes_Has.f v 1 = some b1) (h2 : ballot_Votes_Has.f v 2 = some b2) (h3 : ballot_Votes_Has.f v 3 = some b3) (h4 : ballot_Votes_Has.f v 4 = some b4) (n : Nat) (hn : n ≤ 5) :
    ballot_Votes_among.f 20 v n = some (cnt ([b0, b1, b2, b3, b4].take n) : Int) := by
  have : n = 0 ∨ n = 1 ∨ n = 2 ∨ n = 3 ∨ n = 4 ∨ n = 5 := by omega
  rcases this with rfl | rfl | rfl | rfl | rfl | rfl <;>
    cases b0 <;> cases b1 <;> cases b2 <;> cases b3 <;> cases b4 <;>
    simp [ballot_Votes_among.f, ballot_Votes_among.l0, wrap64, h0, h1, h2, h3, h4, cnt]

theorem wins_at (v n : Int) (m : Nat) (hm : mn (mx n 1) 5 = m) (h5 : m ≤ 5) (b0 b1 b2 b3 b4 : Bool) (h0 : ballot_Votes_Has.f v 0 = some b0) (h1 : ballot_Votes_Has.f v 1 = some b1) (h2 : ballot_Votes_Has.f v 2 = some b2) (h3 : ballot_Votes_Has.f v 3 = some b3) (h4 : ballot_Votes_Has.f v 4 = some b4) :
    ballot_Votes_Wins.f 20 v n = some (decide (m < 2 * cnt ([b0, b1, b2, b3, b4].take m))) := by
  unfold ballot_Votes_Wins.f
  rw [hm, among_at v b0 b1 b2 b3 b4 h0 h1 h2 h3 h4 m h5]
  simp only [Option.bind_some, Option.some.injEq]
  have : cnt ([b0, b1, b2, b3, b4].take m) ≤ 5 := by
    unfold cnt
    refine Nat.le_trans (List.length_filter_le _ _) ?_
    simp
    omega
  rw [show wrap64 (2 * (cnt ([b0, b1, b2, b3, b4].take m) : Int)) = 2 * (cnt ([b0, b1, b2, b3, b4].take m) : Int) by unfold wrap64; omega]
  apply decide_eq_decide.mpr
  omega

/-- The pigeon hole. -/
theorem meet (m : Nat) (hm : m ≤ 5) (a0 a1 a2 a3 a4 b0 b1 b2 b3 b4 : Bool) (h : m < 2 * cnt ([a0, a1, a2, a3, a4].take m)) (h' : m < 2 * cnt ([b0, b1, b2, b3, b4].take m)) :
    (0 < m ∧ a0 = true ∧ b0 = true) ∨ (1 < m ∧ a1 = true ∧ b1 = true) ∨ (2 < m ∧ a2 = true ∧ b2 = true) ∨ (3 < m ∧ a3 = true ∧ b3 = true) ∨ (4 < m ∧ a4 = true ∧ b4 = true) := by
  have cc : ∀ (b : Bool) (l : List Bool), cnt (b :: l) = b.toNat + cnt l := by
    intro b l
    cases b <;> simp [cnt] <;> omega
  have c0 : cnt [] = 0 := rfl
  have two : ∀ a b : Bool, (a = true ∧ b = true) ∨ a.toNat + b.toNat ≤ 1 := by
    intro a b
    cases a <;> cases b <;> simp
  refine Classical.byContradiction fun hn => ?_
  have f0 : 0 < m → a0.toNat + b0.toNat ≤ 1 := fun h => (two a0 b0).resolve_left fun e => hn (.inl ⟨h, e⟩)
  have f1 : 1 < m → a1.toNat + b1.toNat ≤ 1 := fun h => (two a1 b1).resolve_left fun e => hn (.inr (.inl ⟨h, e⟩))
  have f2 : 2 < m → a2.toNat + b2.toNat ≤ 1 := fun h => (two a2 b2).resolve_left fun e => hn (.inr (.inr (.inl ⟨h, e⟩)))
  have f3 : 3 < m → a3.toNat + b3.toNat ≤ 1 := fun h => (two a3 b3).resolve_left fun e => hn (.inr (.inr (.inr (.inl ⟨h, e⟩))))
  have f4 : 4 < m → a4.toNat + b4.toNat ≤ 1 := fun h => (two a4 b4).resolve_left fun e => hn (.inr (.inr (.inr (.inr ⟨h, e⟩))))
  clear hn
  have : m = 0 ∨ m = 1 ∨ m = 2 ∨ m = 3 ∨ m = 4 ∨ m = 5 := by omega
  rcases this with rfl | rfl | rfl | rfl | rfl | rfl <;> simp only [List.take, cc, c0] at h h' <;> omega

theorem step (k : Nat) (n v u j : Int) (a b : Bool) (h0 : 0 ≤ j) (h5 : j < 5) (ha : ballot_Votes_Has.f v j = some a) (hb : ballot_Votes_Has.f u j = some b) (hne : ¬ (j < mx n 1 ∧ a = true ∧ b = true)) :
    sautoirlaw07_BallotMeet.l0 (k + 1) n v u j = sautoirlaw07_BallotMeet.l0 k n v u (j + 1) := by
  simp only [sautoirlaw07_BallotMeet.l0]
  rw [if_pos h5, ha, hb, show wrap64 (j + 1) = j + 1 by unfold wrap64; omega]
  simp only [Option.bind_some]
  by_cases c : j < mx n 1
  · rw [if_pos c]
    cases a <;> cases b <;> simp_all
  · rw [if_neg c]

theorem hit (k : Nat) (n v u j : Int) (h5 : j < 5) (ha : ballot_Votes_Has.f v j = some true) (hb : ballot_Votes_Has.f u j = some true) (hc : j < mx n 1) :
    sautoirlaw07_BallotMeet.l0 (k + 1) n v u j = sautoirlaw07_awake.f k := by
  simp only [sautoirlaw07_BallotMeet.l0]
  rw [if_pos h5, if_pos hc, ha, hb]
  simp

theorem loop (n v u : Int) (B : Int → Bool) (A : Int → Bool) (hA : ∀ j, 0 ≤ j → j < 5 → ballot_Votes_Has.f v j = some (A j)) (hB : ∀ j, 0 ≤ j → j < 5 → ballot_Votes_Has.f u j = some (B j)) (d : Nat) :
    ∀ (k : Nat) (j : Int), 0 ≤ j → 5 - j = d → d + 8 ≤ k → (∃ i, j ≤ i ∧ i < 5 ∧ i < mx n 1 ∧ A i = true ∧ B i = true) → sautoirlaw07_BallotMeet.l0 k n v u j = some true := by
  induction d with
  | zero =>
    intro k j h0 hd hk ⟨i, h1, h2, _⟩
    omega
  | succ d ih =>
    intro k j h0 hd hk ⟨i, h1, h2, h3, h4, h5⟩
    obtain ⟨k, rfl⟩ : ∃ m, k = m + 1 := ⟨k - 1, by omega⟩
    by_cases c : j < mx n 1 ∧ A j = true ∧ B j = true
    · rw [hit k n v u j (by omega) (by rw [hA j h0 (by omega), c.2.1]) (by rw [hB j h0 (by omega), c.2.2]) c.1]
      obtain ⟨q, rfl⟩ : ∃ q, k = q + 8 := ⟨k - 8, by omega⟩
      exact awake_ok q
    · rw [step k n v u j (A j) (B j) h0 (by omega) (hA j h0 (by omega)) (hB j h0 (by omega)) c]
      refine ih k (j + 1) (by omega) (by omega) (by omega) ⟨i, ?_, h2, h3, h4, h5⟩
      rcases Int.lt_or_lt_of_ne (show i ≠ j by rintro rfl; exact c ⟨h3, h4, h5⟩) with h | h <;> omega

theorem BallotMeet : sautoirlaw07_BallotMeet.Pure := by
  intro v u n _ _ _
  have ex : ∀ x : Int, ∃ X : Int → Bool, ∀ j, 0 ≤ j → j < 5 → ballot_Votes_Has.f x j = some (X j) := fun x =>
    ⟨fun j => (ballot_Votes_Has.f x j).getD false, fun j h0 h5 => by obtain ⟨b, hb⟩ := has_at x j h0 h5; simp [hb]⟩
  obtain ⟨A, hA⟩ := ex v
  obtain ⟨B, hB⟩ := ex u
  obtain ⟨m, hm, h5⟩ : ∃ m : Nat, mn (mx n 1) 5 = m ∧ m ≤ 5 := by
    rcases mxmn_range n with h | h | h | h | h
    · exact ⟨1, h, by omega⟩
    · exact ⟨2, h, by omega⟩
    · exact ⟨3, h, by omega⟩
    · exact ⟨4, h, by omega⟩
    · exact ⟨5, h, by omega⟩
  have W1 := wins_at v n m hm h5 _ _ _ _ _ (hA 0 (by omega) (by omega)) (hA 1 (by omega) (by omega)) (hA 2 (by omega) (by omega)) (hA 3 (by omega) (by omega)) (hA 4 (by omega) (by omega))
  have W2 := wins_at u n m hm h5 _ _ _ _ _ (hB 0 (by omega) (by omega)) (hB 1 (by omega) (by omega)) (hB 2 (by omega) (by omega)) (hB 3 (by omega) (by omega)) (hB 4 (by omega) (by omega))
  refine ⟨20, ?_⟩
  unfold sautoirlaw07_BallotMeet.f
  rw [W1, W2]
  simp only [Option.bind_some]
  have w19 : sautoirlaw07_awake.f 19 = some true := awake_ok 11
  by_cases c1 : m < 2 * cnt ([A 0, A 1, A 2, A 3, A 4].take m)
  · by_cases c2 : m < 2 * cnt ([B 0, B 1, B 2, B 3, B 4].take m)
    · have K := meet m h5 _ _ _ _ _ _ _ _ _ _ c1 c2
      simp only [c1, c2, decide_true, if_true, Bool.not_true]
      have hb : ∀ j : Int, j < 5 → j < m → j < mx n 1 := fun j hj h => (below_iff n j hj).2 (by rw [hm]; exact h)
      simp only [sautoirlaw07_BallotMeet.j0]
      rw [if_neg (by simp)]
      refine loop n v u B A hA hB 5 19 0 (by omega) (by omega) (by omega) ?_
      rcases K with h | h | h | h | h
      · exact ⟨0, by omega, by omega, hb 0 (by omega) (by omega), h.2.1, h.2.2⟩
      · exact ⟨1, by omega, by omega, hb 1 (by omega) (by omega), h.2.1, h.2.2⟩
      · exact ⟨2, by omega, by omega, hb 2 (by omega) (by omega), h.2.1, h.2.2⟩
      · exact ⟨3, by omega, by omega, hb 3 (by omega) (by omega), h.2.1, h.2.2⟩
      · exact ⟨4, by omega, by omega, hb 4 (by omega) (by omega), h.2.1, h.2.2⟩
    · simp only [c1, c2, decide_true, decide_false, if_true, Bool.not_false]
      simp [sautoirlaw07_BallotMeet.j0, w19]
  · simp only [c1, decide_false]
    simp [sautoirlaw07_BallotMeet.j0, w19]

end Go.Proofs.Ytflifeelgamaaaa.Pure
