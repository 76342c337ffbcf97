/- Rows of entries that take pieces of one another: the plain law. No program in sight. -/
import Derived.Test.YtobfolkcpfaplaaLink13
namespace Go.Proofs.Ytobfolkcpfaplaa
open Go.RowKit Kit
set_option linter.unusedVariables false
theorem Mtch.symm {a b : List Fin} (h : Mtch a b) : Mtch b a := fun i x y hx hy e => (h i y x hy hx e.symm).symm
theorem Mtch.refl (a : List Fin) : Mtch a a := fun _ _ _ _ _ _ => rfl
/-- A part of a row from its start has what the row has. -/
theorem Mtch.take {a b : List Fin} (h : Mtch a b) (m : Nat) : Mtch (a.take m) b := by
  intro i x y hx hy e
  rw [List.getElem?_take] at hx
  split at hx
  · rename_i hi
    have := h i x y hx hy e
    rw [List.take_take, Nat.min_eq_left (by omega)]
    exact this
  · cases hx
/-- One more at the end, whose epoch the other row has not at that place. -/
theorem Mtch.push {a b : List Fin} {z : Fin} (h : Mtch a b) (hz : ∀ y, b[a.length]? = some y → z.ep ≠ y.ep) : Mtch (a ++ [z]) b := by
  intro i x y hx hy e
  by_cases hi : i < a.length
  · rw [List.getElem?_append_left hi] at hx
    rw [List.take_append_of_le_length (by omega)]
    exact h i x y hx hy e
  · rw [List.getElem?_append_right (by omega)] at hx
    have hi2 : i = a.length := by
      have := (List.getElem?_eq_some_iff.1 hx).1
      simp at this
      omega
    subst hi2
    simp at hx
    subst hx
    exact absurd e (hz y hy)
theorem sameC_ep : ∀ (l q : List Fin) (i : Nat), i < sameC l q → ∃ x y, l[i]? = some x ∧ q[i]? = some y ∧ x.ep = y.ep
  | [], q, i, h => by cases q <;> simp [sameC] at h
  | _ :: _, [], i, h => by simp [sameC] at h
  | x :: l, y :: q, i, h => by
    simp only [sameC] at h
    split at h
    · rename_i he
      cases i with
      | zero => exact ⟨x, y, rfl, rfl, he⟩
      | succ i => exact sameC_ep l q i (by omega)
    · omega
/-- What a log is behind a piece of B: itself, or B from its start on. -/
theorem takeL_eq (A B : List Fin) (a : Nat) (most : Int) (ha : a ≤ B.length) (hM : Mtch A B) (hpos : ∀ (i : Nat) (x : Fin), B[i]? = some x → 0 < x.ep) :
    takeL A a (epL B a) (fromL B a most) = A ∨ ∃ m, takeL A a (epL B a) (fromL B a most) = B.take m := by
  unfold takeL
  split
  case isFalse => exact .inl rfl
  case isTrue hf =>
    split
    case isFalse => exact .inl rfl
    case isTrue hn =>
      right
      generalize hnn : sameN A a (fromL B a most) = n at *
      simp only [fitB, Bool.and_eq_true, decide_eq_true_eq, beq_iff_eq] at hf
      obtain ⟨_, hal, hep⟩ := hf
      have hal' : a ≤ A.length := by omega
      have hq : ∃ M, fromL B a most = (B.drop a).take M := by
        unfold fromL
        split
        · exact ⟨0, by simp⟩
        · exact ⟨most.toNat, by simp⟩
      obtain ⟨M, hq⟩ := hq
      rw [hq] at hn hnn ⊢
      have hpre : A.take a = B.take a := by
        cases a with
        | zero => simp
        | succ k =>
          have hkA : k < A.length := by omega
          have hkB : k < B.length := by omega
          have e1 := epL_at hkA
          have e2 := epL_at hkB
          have : ((k + 1 : Nat) : Int) = (k : Int) + 1 := by omega
          rw [this, e1, e2] at hep
          exact hM k _ _ (List.getElem?_eq_getElem hkA) (List.getElem?_eq_getElem hkB) hep
      have hall : A.take (a + n) = B.take (a + n) := by
        cases n with
        | zero => simpa using hpre
        | succ k =>
          unfold sameN at hnn
          rw [if_neg (by omega), show (a : Int).toNat = a by omega] at hnn
          obtain ⟨x, y, hx, hy, he⟩ := sameC_ep (A.drop a) ((B.drop a).take M) k (by omega)
          rw [List.getElem?_drop] at hx
          rw [List.getElem?_take] at hy
          split at hy
          · rw [List.getElem?_drop] at hy
            exact hM (a + k) x y hx hy he
          · cases hy
      refine ⟨a + M, ?_⟩
      rw [hall]
      have hnM : n ≤ M := by
        have : ((B.drop a).take M).length ≤ M := by rw [List.length_take]; omega
        omega
      rw [List.drop_take, List.drop_drop]
      have h1 : B.take (a + M) = B.take (a + n) ++ (B.drop (a + n)).take (M - n) := by
        rw [show a + M = (a + n) + (M - n) by omega, List.take_add]
      rw [h1]
end Go.Proofs.Ytobfolkcpfaplaa
