/- Versions, function by function (1): which may be; whether they are an object's. -/
import Derived.Test.YtcckljomjpfdaaaKeys
import Derived.Test.YtcckljomjpfdaaaMine
import Derived.Test.YtcckljomjpfdaaaSched
namespace Go.Proofs.Ytcckljomjpfdaaa
open Go.RowKit Kit
set_option linter.unusedVariables false

/-- A version: from which entry on, its number, its value, is it gone? -/
structure Ver where
  at_ : Int
  num : Nat
  val : ByteArray
  gone : Bool
def Ver.cells (x : Ver) : List Value := [.int .i64 x.at_, .int .u64 x.num, .string x.val, .bool x.gone]
def Ver.fit (x : Ver) : Prop := (Lit.int .i64 x.at_).wf = true ∧ x.num < 18446744073709551616 ∧ x.val.size ≤ 9223372036854775807
def Rep.ver : Rep Ver where
  sz := 4
  pos := by decide
  rep _ _ x cs := cs = x.cells ∧ x.fit
  len h := by rw [h.1]; rfl
  one h := by rw [h.1]; intro u hu; simp [Ver.cells] at hu; rcases hu with rfl | rfl | rfl | rfl <;> rfl
  keep h _ _ := h
theorem flat_ver : Flat Rep.ver := fun h _ _ => h

/-- May a value be, gone or not? -/
def mayB (s : ByteArray) (g : Bool) : Bool := (sgp s s.size && decide (s.size ≤ 64)) && (!g || decide (s.size = 0))
theorem str_nil (s : ByteArray) : (s.toList == []) = decide (s.size = 0) ∧ s.toList.isEmpty = decide (s.size = 0) := by
  have e : s.toList.length = s.size := by rw [ByteArray.toList_eq, Array.length_toList]; rfl
  cases h : s.toList with
  | nil => rw [h] at e; have : s.size = 0 := e.symm; simp [this]
  | cons a l => rw [h] at e; have : s.size ≠ 0 := by rw [← e]; simp
                simp [this]
set_option maxHeartbeats 1000000 in
theorem rightval_any (s : ByteArray) (w : World) (hs : s.size ≤ 9223372036854775807) :
    Calls Try.prog 56 #[.string s] w fun e w' => e = .returned (.bool (sgp s s.size && decide (s.size ≤ 64))) ∧ w = w' := by
  have hS := Lib.hid (fun w => signs_any s 64 w hs)
  have e2 : decide (s.size ≤ 64) = decide ((s.size : Int) ≤ 64) := decide_eq_decide.2 (by omega)
  rw [e2]
  clear e2
  generalize (sgp s s.size && decide ((s.size : Int) ≤ 64)) = B at *
  go_enter Try.func56, Try.ntmps56
  go_wp2_with fail
  refine (hS.out _).mono ?_
  rintro e w' ⟨rfl, rfl⟩
  go_wp2_with fail
  go_ret
  exact ⟨rfl, rfl⟩
set_option maxHeartbeats 1000000 in
theorem refrightval_any (s : ByteArray) (w : World) (hs : s.size ≤ 9223372036854775807) :
    Calls Try.prog 52 #[.string s] w fun e w' => e = .returned (.bool (sgp s s.size && decide (s.size ≤ 64))) ∧ w = w' := by
  have hS := Lib.hid (fun w => refsigns_any s w hs)
  generalize sgp s s.size = B at *
  by_cases h : s.size ≤ 64
  · have h1 : decide (s.size ≤ 64) = true := decide_eq_true h
    have h2 : decide ((s.size : Int) ≤ 64) = true := decide_eq_true (by omega)
    rw [h1]
    go_enter Try.func52, Try.ntmps52
    go_wp2_with fail
    refine (hS.out _).mono ?_
    rintro e w' ⟨rfl, rfl⟩
    go_wp2_with fail
    go_ret
    exact ⟨by simp, rfl⟩
  · have h1 : decide (s.size ≤ 64) = false := decide_eq_false h
    have h2 : decide ((s.size : Int) ≤ 64) = false := decide_eq_false (by omega)
    rw [h1]
    go_enter Try.func52, Try.ntmps52
    go_wp2_with fail
    go_ret
    exact ⟨by simp, rfl⟩
set_option maxHeartbeats 1000000 in
theorem value_any (s : ByteArray) (g : Bool) (w : World) (hs : s.size ≤ 9223372036854775807) :
    Calls Try.prog 49 #[.string s, .bool g] w fun e w' => e = .returned (.bool (mayB s g)) ∧ w = w' := by
  have hS := Lib.hid (fun w => rightval_any s w hs)
  obtain ⟨n1, n2⟩ := str_nil s
  unfold mayB
  generalize (sgp s s.size && decide (s.size ≤ 64)) = B at *
  generalize decide (s.size = 0) = Z at *
  cases B <;> cases g <;> cases Z
  all_goals
    go_enter Try.func49, Try.ntmps49
    go_wp2_with fail
    refine (hS.out _).mono ?_
    rintro e w' ⟨rfl, rfl⟩
    go_wp2_with fail
    go_ret
    exact ⟨by first | rfl | (simp [n1, n2]; done), rfl⟩
theorem mayB_gone (s : ByteArray) : mayB s true = decide (s.size = 0) := by
  unfold mayB
  by_cases h : s.size = 0
  · rw [h]; simp [sgp]
  · simp [h]
set_option maxHeartbeats 1000000 in
theorem may_any (s : ByteArray) (g : Bool) (w : World) (hs : s.size ≤ 9223372036854775807) :
    Calls Try.prog 41 #[.string s, .bool g] w fun e w' => e = .returned (.bool (mayB s g)) ∧ w = w' := by
  have hS := Lib.hid (fun w => refrightval_any s w hs)
  obtain ⟨n1, n2⟩ := str_nil s
  cases g
  · have e : mayB s false = (sgp s s.size && decide (s.size ≤ 64)) := by unfold mayB; simp
    rw [e]
    clear e
    generalize (sgp s s.size && decide (s.size ≤ 64)) = B at *
    go_enter Try.func41, Try.ntmps41
    go_wp2_with fail
    refine (hS.out _).mono ?_
    rintro e w' ⟨rfl, rfl⟩
    go_wp2_with fail
    go_ret
    exact ⟨rfl, rfl⟩
  · rw [mayB_gone]
    generalize decide (s.size = 0) = Z at *
    go_enter Try.func41, Try.ntmps41
    go_wp2_with fail
    go_ret
    exact ⟨by first | rfl | (simp [n1, n2]; done), rfl⟩
end Go.Proofs.Ytcckljomjpfdaaa
