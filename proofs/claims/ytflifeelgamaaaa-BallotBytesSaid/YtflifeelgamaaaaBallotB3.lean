/- Ballots as bytes: what is written is read. No program in sight. -/
import Derived.Test.YtflifeelgamaaaaBallotB2
namespace Go.Proofs.Ytflifeelgamaaaa
open Go.RowKit Kit Oct
set_option linter.unusedVariables false

theorem most_encB (n m : Nat) (r : List UInt8) (hn : n < 2 ^ 64) (hm : n ≤ m) : Rd.most ⟨enc n ++ r, false⟩ m = (n, ⟨r, false⟩) := by
  have e := num_enc r n 0 0 (by omega) (by omega)
  have hp := enc_pos n
  have e' : num 0 0 (enc n ++ r) = (n, (enc n).length) := by rw [e]; simp
  unfold Rd.most
  rw [if_neg (by simp), e']
  simp only
  rw [if_neg (by omega), List.drop_left]

theorem ballot_enc (r : Nat) (d : Int) (hr : r < 2 ^ 64) : Rd.ballot ⟨enc r ++ enc (ncode d), false⟩ = ((r, if 0 ≤ d ∧ d ≤ 4 then d else -1), ⟨[], false⟩) := by
  have h1 := most_encB r (2 ^ 64 - 1) (enc (ncode d)) hr (by omega)
  have hn := ncode_le d
  have h2 : Rd.int ⟨enc (ncode d), false⟩ 5 = (ncode d, ⟨[], false⟩) := by
    unfold Rd.int
    rw [if_neg (by omega)]
    have := most_encB (ncode d) 5 [] (by omega) hn
    rw [List.append_nil] at this
    exact this
  unfold Rd.ballot
  rw [h1]
  simp only
  rw [h2]
  simp only
  rw [if_neg (by decide)]
  congr 2
  by_cases c : 0 ≤ d ∧ d ≤ 4
  · have : (ncode d : Int) = d := by unfold ncode; rw [if_pos c]; omega
    rw [if_neg (by omega), if_pos c, this]
  · have : ncode d = 5 := by unfold ncode; rw [if_neg c]
    rw [if_pos this, if_neg c]
end Go.Proofs.Ytflifeelgamaaaa
