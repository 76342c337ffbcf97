/- Entries of a log, any: which keys, values and IDs may be. -/
import Derived.Test.YtobfolkcpfaplaaEnt4
import Derived.Test.YtobfolkcpfaplaaKeysE
import Derived.Maps.OwnSet
namespace Go.Proofs.Ytobfolkcpfaplaa
open Go.RowKit Kit
set_option linter.unusedVariables false
/-- Of all below n? -/
def allB (p : Nat → Bool) : Nat → Bool
  | 0 => true
  | n + 1 => allB p n && p n
theorem allB_no {p : Nat → Bool} {k n : Nat} (h : p k = false) (hk : k < n) : allB p n = false := by
  induction n with
  | zero => omega
  | succ n ih =>
    by_cases e : k = n
    · subst e; simp [allB, h]
    · simp [allB, ih (by omega)]
theorem allB_succ {p : Nat → Bool} {k : Nat} (h : allB p k = true) (hp : p k = true) : allB p (k + 1) = true := by simp [allB, h, hp]
theorem allB_and (p q : Nat → Bool) : ∀ n, allB (fun i => p i && q i) n = (allB p n && allB q n)
  | 0 => rfl
  | n + 1 => by
    simp only [allB, allB_and p q n]
    cases allB p n <;> cases allB q n <;> cases p n <;> cases q n <;> rfl
def keyO (s : ByteArray) : Bool := decide (0 < s.size) && (sgp s s.size && decide (s.size ≤ 32))
def valO (s : ByteArray) : Bool := sgp s s.size && decide (s.size ≤ 64)
/-- May a key be at its place in a list? -/
def okK (l : List ByteArray) (i : Nat) : Bool := keyO (l.getD i ⟨#[]⟩) && !((l.take i).any fun y => decide (y = l.getD i ⟨#[]⟩))
def okV (l : List Wt) (i : Nat) : Bool := valO (l.getD i ⟨⟨#[]⟩, ⟨#[]⟩, false⟩).val && !((l.getD i ⟨⟨#[]⟩, ⟨#[]⟩, false⟩).gone && !decide ((l.getD i ⟨⟨#[]⟩, ⟨#[]⟩, false⟩).val.size = 0))
theorem okeyo_any (s : ByteArray) (w : World) (hs : s.size ≤ 9223372036854775807) : Calls Try.prog 71 #[.string s] w fun e w' => e = .returned (.bool (keyO s)) ∧ w = w' := kright_any s w hs
set_option maxHeartbeats 1000000 in
theorem refkeyo_any (s : ByteArray) (w : World) (hs : s.size ≤ maxLen) :
    Calls Try.prog 55 #[.string s] w fun e w' => e = .returned (.bool (keyO s)) ∧ w = w' := by
  have hS := Lib.hid (fun w => refsigns_any s w hs)
  have hs' : s.size ≤ 9223372036854775807 := hs
  unfold keyO
  generalize sgp s s.size = B at *
  by_cases h0 : 0 < s.size
  · have e1 : decide (0 < s.size) = true := decide_eq_true h0
    have n1 : decide ((1 : Int) ≤ (s.size : Int)) = true := decide_eq_true (by omega)
    rw [e1, Bool.true_and]
    clear h0 e1
    by_cases h : s.size ≤ 32
    · have h1 : decide (s.size ≤ 32) = true := decide_eq_true h
      have h2 : decide ((s.size : Int) ≤ 32) = true := decide_eq_true (by omega)
      rw [h1, Bool.and_true]
      clear h h1
      go_enter Try.func55, Try.ntmps55
      go_wp2_with fail
      refine (hS.out _).mono ?_
      rintro e w' ⟨rfl, rfl⟩
      go_wp2_with fail
      go_ret
      exact ⟨rfl, rfl⟩
    · have h1 : decide (s.size ≤ 32) = false := decide_eq_false h
      have h2 : decide ((s.size : Int) ≤ 32) = false := decide_eq_false (by omega)
      rw [h1, Bool.and_false]
      clear h h1
      go_enter Try.func55, Try.ntmps55
      go_wp2_with fail
      go_ret
      exact ⟨rfl, rfl⟩
  · have e1 : decide (0 < s.size) = false := decide_eq_false h0
    have n1 : decide ((1 : Int) ≤ (s.size : Int)) = false := decide_eq_false (by omega)
    rw [e1, Bool.false_and]
    clear h0 e1
    go_enter Try.func55, Try.ntmps55
    go_wp2_with fail
    go_ret
    exact ⟨rfl, rfl⟩
theorem str_nil (s : ByteArray) : (s.toList == []) = decide (s.size = 0) ∧ s.toList.isEmpty = decide (s.size = 0) := by
  have e : s.toList.length = s.size := by rw [ByteArray.toList_eq, Array.length_toList]; rfl
  cases h : s.toList with
  | nil => rw [h] at e; have : s.size = 0 := e.symm; simp [this]
  | cons a l => rw [h] at e; have : s.size ≠ 0 := by rw [← e]; simp
                simp [this]
set_option maxHeartbeats 1000000 in
theorem rightval_any (s : ByteArray) (w : World) (hs : s.size ≤ 9223372036854775807) :
    Calls Try.prog 94 #[.string s] w fun e w' => e = .returned (.bool (valO s)) ∧ w = w' := by
  have hS := Lib.hid (fun w => signs_any s 64 w hs)
  have e2 : decide (s.size ≤ 64) = decide ((s.size : Int) ≤ 64) := decide_eq_decide.2 (by omega)
  unfold valO
  rw [e2]
  clear e2
  generalize (sgp s s.size && decide ((s.size : Int) ≤ 64)) = B at *
  go_enter Try.func94, Try.ntmps94
  go_wp2_with fail
  refine (hS.out _).mono ?_
  rintro e w' ⟨rfl, rfl⟩
  go_wp2_with fail
  go_ret
  exact ⟨rfl, rfl⟩
set_option maxHeartbeats 1000000 in
theorem refrightval_any (s : ByteArray) (w : World) (hs : s.size ≤ 9223372036854775807) :
    Calls Try.prog 93 #[.string s] w fun e w' => e = .returned (.bool (valO s)) ∧ w = w' := by
  have hS := Lib.hid (fun w => refsigns_any s w hs)
  unfold valO
  generalize sgp s s.size = B at *
  by_cases h : s.size ≤ 64
  · have h1 : decide (s.size ≤ 64) = true := decide_eq_true h
    have h2 : decide ((s.size : Int) ≤ 64) = true := decide_eq_true (by omega)
    rw [h1]
    go_enter Try.func93, Try.ntmps93
    go_wp2_with fail
    refine (hS.out _).mono ?_
    rintro e w' ⟨rfl, rfl⟩
    go_wp2_with fail
    go_ret
    exact ⟨by simp, rfl⟩
  · have h1 : decide (s.size ≤ 64) = false := decide_eq_false h
    have h2 : decide ((s.size : Int) ≤ 64) = false := decide_eq_false (by omega)
    rw [h1]
    go_enter Try.func93, Try.ntmps93
    go_wp2_with fail
    go_ret
    exact ⟨by simp, rfl⟩
/-- May an ID be? -/
def idB (c q : Int) : Bool := decide (0 ≤ c) && (decide (c < 6) && decide (0 < q))
set_option maxHeartbeats 1000000 in
theorem rid_any (c q : Int) (w : World) (hq : 0 ≤ q) : Calls Try.prog 81 #[.agg #[.int .i64 c, .int .u64 q]] w fun e w' => e = .returned (.bool (idB c q)) ∧ Upd NoB w w' := by
  have HU := Lib.hid (fun o => (Upd.refl NoB w).alloc o)
  unfold idB
  by_cases h1 : 0 ≤ c
  · have e1 : decide (0 ≤ c) = true := decide_eq_true h1
    by_cases h2 : c < 6
    · have e2 : decide (c < 6) = true := decide_eq_true h2
      have e2' : decide (c ≤ 5) = true := decide_eq_true (by omega)
      by_cases h3 : 0 < q
      · have e3 : decide (0 < q) = true := decide_eq_true h3
        have e3' : (q == 0) = false := by simp; omega
        have e3'' : (q != 0) = true := by simp; omega
        rw [e1, e2, e3]
        clear h1 h2 h3 hq
        go_enter Try.func81, Try.ntmps81
        go_wp2_with fail
        go_ret
        exact ⟨rfl, HU.out _⟩
      · obtain rfl : q = 0 := by omega
        rw [e1, e2]
        clear h1 h2 h3 hq
        go_enter Try.func81, Try.ntmps81
        go_wp2_with fail
        go_ret
        exact ⟨rfl, HU.out _⟩
    · have e2 : decide (c < 6) = false := decide_eq_false h2
      have e2' : decide (c ≤ 5) = false := decide_eq_false (by omega)
      rw [e1, e2]
      clear h1 h2 hq
      go_enter Try.func81, Try.ntmps81
      go_wp2_with fail
      go_ret
      exact ⟨rfl, HU.out _⟩
  · have e1 : decide (0 ≤ c) = false := decide_eq_false h1
    rw [e1]
    clear h1 hq
    go_enter Try.func81, Try.ntmps81
    go_wp2_with fail
    go_ret
    exact ⟨rfl, HU.out _⟩
set_option maxHeartbeats 1000000 in
theorem refrid_any (c q : Int) (w : World) (hq : 0 ≤ q) : Calls Try.prog 87 #[.agg #[.int .i64 c, .int .u64 q]] w fun e w' => e = .returned (.bool (idB c q)) ∧ Upd NoB w w' := by
  have HU := Lib.hid (fun o => (Upd.refl NoB w).alloc o)
  unfold idB
  by_cases h1 : 0 ≤ c
  · have e1 : decide (0 ≤ c) = true := decide_eq_true h1
    by_cases h2 : c < 6
    · have e2 : decide (c < 6) = true := decide_eq_true h2
      have e2' : decide (c ≤ 5) = true := decide_eq_true (by omega)
      by_cases h3 : 0 < q
      · have e3 : decide (0 < q) = true := decide_eq_true h3
        have e3' : (q == 0) = false := by simp; omega
        have e3'' : (q != 0) = true := by simp; omega
        rw [e1, e2, e3]
        clear h1 h2 h3 hq
        go_enter Try.func87, Try.ntmps87
        go_wp2_with fail
        go_ret
        exact ⟨rfl, HU.out _⟩
      · obtain rfl : q = 0 := by omega
        rw [e1, e2]
        clear h1 h2 h3 hq
        go_enter Try.func87, Try.ntmps87
        go_wp2_with fail
        go_ret
        exact ⟨rfl, HU.out _⟩
    · have e2 : decide (c < 6) = false := decide_eq_false h2
      have e2' : decide (c ≤ 5) = false := decide_eq_false (by omega)
      rw [e1, e2]
      clear h1 h2 hq
      go_enter Try.func87, Try.ntmps87
      go_wp2_with fail
      go_ret
      exact ⟨rfl, HU.out _⟩
  · have e1 : decide (0 ≤ c) = false := decide_eq_false h1
    rw [e1]
    clear h1 hq
    go_enter Try.func87, Try.ntmps87
    go_wp2_with fail
    go_ret
    exact ⟨rfl, HU.out _⟩
end Go.Proofs.Ytobfolkcpfaplaa
