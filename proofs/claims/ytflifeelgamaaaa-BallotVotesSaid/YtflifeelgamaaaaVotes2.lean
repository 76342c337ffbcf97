/- Votes, function by function (2): what the printed contracts answer. -/
import Derived.Test.YtflifeelgamaaaaVotes1
namespace Go.Proofs.Ytflifeelgamaaaa
open Go.RowKit Kit Go.Proofs.YtflifeelgamaaaaW.PrintWords Go.Proofs.Ytflifeelgamaaaa.PBallotMeet
set_option linter.unusedVariables false

def withV (v : Nat) (node : Int) : Nat := if 0 ≤ node ∧ node < 5 then v ||| 2 ^ node.toNat else v
theorem master_f (n : Int) : ballot_master.f n = some (decide (0 ≤ n ∧ n < 5)) := by
  unfold ballot_master.f
  by_cases h : 0 ≤ n
  · rw [if_pos (show n ≥ 0 from h)]; simp [h]
  · rw [if_neg (show ¬ n ≥ 0 from h)]; simp [h]
theorem has_tab : ∀ v : Fin 256, ∀ k : Fin 5, ballot_Votes_Has.f ((v.val : Nat) : Int) ((k.val : Nat) : Int) = some (hb v.val k.val) := by decide +kernel
theorem with_tab : ∀ v : Fin 256, ∀ k : Fin 5, ballot_Votes_With.f ((v.val : Nat) : Int) ((k.val : Nat) : Int) = some ((v.val ||| 2 ^ k.val : Nat) : Int) := by decide +kernel
theorem or_tab : ∀ v : Fin 256, ∀ n : Fin 5, (v.val ||| 2 ^ n.val) < 256 ∧ ∀ k : Fin 5, hb (v.val ||| 2 ^ n.val) k.val = (hb v.val k.val || (k.val == n.val)) := by decide +kernel
theorem has_f (v k : Nat) (hv : v < 256) (hk : k < 5) : ballot_Votes_Has.f (v : Int) (k : Int) = some (hb v k) := has_tab ⟨v, hv⟩ ⟨k, hk⟩
theorem with_f (v : Nat) (node : Int) (hv : v < 256) : ballot_Votes_With.f (v : Int) node = some (withV v node : Int) := by
  unfold withV
  by_cases h : 0 ≤ node ∧ node < 5
  · rw [if_pos h]
    obtain ⟨k, rfl⟩ : ∃ k : Nat, node = k := Int.eq_ofNat_of_zero_le h.1
    exact with_tab ⟨v, hv⟩ ⟨k, by omega⟩
  · rw [if_neg h]
    unfold ballot_Votes_With.f
    rw [master_f, decide_eq_false h]
    rfl
theorem with_lt (v : Nat) (node : Int) (hv : v < 256) : withV v node < 256 := by
  unfold withV
  by_cases h : 0 ≤ node ∧ node < 5
  · rw [if_pos h]
    exact (or_tab ⟨v, hv⟩ ⟨node.toNat, by omega⟩).1
  · rw [if_neg h]; exact hv
theorem with_hb (v k : Nat) (node : Int) (hv : v < 256) (hk : k < 5) : hb (withV v node) k = (hb v k || ((k : Int) == node)) := by
  unfold withV
  by_cases h : 0 ≤ node ∧ node < 5
  · rw [if_pos h, (or_tab ⟨v, hv⟩ ⟨node.toNat, by omega⟩).2 ⟨k, hk⟩]
    congr 1
    rw [Bool.eq_iff_iff]
    simp
    omega
  · rw [if_neg h, show ((k : Int) == node) = false by simp; omega]
    simp
theorem amg_cnt (v n : Nat) (hn : n ≤ 5) : Pure.cnt ([hb v 0, hb v 1, hb v 2, hb v 3, hb v 4].take n) = amg v n 5 := by
  simp only [amg]
  generalize hb v 0 = b0
  generalize hb v 1 = b1
  generalize hb v 2 = b2
  generalize hb v 3 = b3
  generalize hb v 4 = b4
  rcases (show n = 0 ∨ n = 1 ∨ n = 2 ∨ n = 3 ∨ n = 4 ∨ n = 5 by omega) with rfl | rfl | rfl | rfl | rfl | rfl <;> cases b0 <;> cases b1 <;> cases b2 <;> cases b3 <;> cases b4 <;> rfl

/-- The number of masters, as the law has it. -/
def clipM (n : Int) : Nat := (Go.Proofs.YtflifeelgamaaaaW.PrintWords.mn (Go.Proofs.YtflifeelgamaaaaW.PrintWords.mx n 1) 5).toNat
theorem clipM_range (n : Int) : 1 ≤ clipM n ∧ clipM n ≤ 5 := by
  unfold clipM
  rcases Pure.mxmn_range n with h | h | h | h | h <;> rw [h] <;> simp
theorem clipM_eq (n : Int) : mn (mx n 1) 5 = clipM n := by
  unfold clipM
  rcases Pure.mxmn_range n with h | h | h | h | h <;> rw [h] <;> rfl

theorem has_any (v k : Nat) (hv : v < 256) (hk : k < 5) (w : World) : Calls Try.prog 16 #[.int .u8 v, .int .i64 k] w fun e w' => e = .returned (.bool (hb v k)) ∧ Upd NoB w w' :=
  (ballot_Votes_Has.calls v k _ w (has_f v k hv hk)).mono fun e w' ⟨he, hd⟩ => ⟨he, Upd.of_below hd.below _⟩
theorem hasno_any (v : Nat) (n : Int) (hn : ¬ (0 ≤ n ∧ n < 5)) (w : World) : Calls Try.prog 16 #[.int .u8 v, .int .i64 n] w fun e w' => e = .returned (.bool false) ∧ Upd NoB w w' := by
  refine (ballot_Votes_Has.calls v n false w ?_).mono fun e w' ⟨he, hd⟩ => ⟨he, Upd.of_below hd.below _⟩
  unfold ballot_Votes_Has.f
  rw [master_f, decide_eq_false hn]
  rfl
theorem with_any (v : Nat) (n : Int) (hv : v < 256) (w : World) : Calls Try.prog 17 #[.int .u8 v, .int .i64 n] w fun e w' => e = .returned (.int .u8 (withV v n : Int)) ∧ Upd NoB w w' :=
  (ballot_Votes_With.calls v n _ w (with_f v n hv)).mono fun e w' ⟨he, hd⟩ => ⟨he, Upd.of_below hd.below _⟩
theorem len_any (v : Nat) (hv : v < 256) (w : World) : Calls Try.prog 18 #[.int .u8 v] w fun e w' => e = .returned (.int .i64 (amg v 5 5 : Int)) ∧ Upd NoB w w' := by
  refine (ballot_Votes_Len.calls 20 v _ w ?_).mono fun e w' ⟨he, hd⟩ => ⟨he, Upd.of_below hd.below _⟩
  unfold ballot_Votes_Len.f
  have := Pure.among_at v _ _ _ _ _ (has_f v 0 hv (by omega)) (has_f v 1 hv (by omega)) (has_f v 2 hv (by omega)) (has_f v 3 hv (by omega)) (has_f v 4 hv (by omega)) 5 (by omega)
  rw [amg_cnt v 5 (by omega)] at this
  rw [show (5 : Int) = ((5 : Nat) : Int) from rfl, this]
  rfl
theorem wins_any (v : Nat) (n : Int) (hv : v < 256) (w : World) : Calls Try.prog 20 #[.int .u8 v, .int .i64 n] w fun e w' => e = .returned (.bool (decide (clipM n < 2 * amg v (clipM n) 5))) ∧ Upd NoB w w' := by
  refine (ballot_Votes_Wins.calls 20 v n _ w ?_).mono fun e w' ⟨he, hd⟩ => ⟨he, Upd.of_below hd _⟩
  have := Pure.wins_at v n (clipM n) (clipM_eq n) (clipM_range n).2 _ _ _ _ _ (has_f v 0 hv (by omega)) (has_f v 1 hv (by omega)) (has_f v 2 hv (by omega)) (has_f v 3 hv (by omega)) (has_f v 4 hv (by omega))
  rw [amg_cnt v _ (clipM_range n).2] at this
  exact this
theorem awakeVotes_any (w : World) : Calls Try.prog 21 #[] w fun e w' => e = .returned (.bool true) ∧ Upd NoB w w' :=
  (sautoirlaw07_awake.calls 8 true w (Pure.awake_ok 0)).mono fun e w' ⟨he, hd⟩ => ⟨he, Upd.of_below hd _⟩
end Go.Proofs.Ytflifeelgamaaaa
