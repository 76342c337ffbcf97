/- What a log takes of a piece may be added: the premises of take_some out of the other log's. No program in sight. -/
import Derived.Test.YtobfolkcpfaplaaLinkP2
namespace Go.Proofs.Ytobfolkcpfaplaa
open Go.RowKit Kit
set_option linter.unusedVariables false
theorem epL_take {B : List Fin} {t : Nat} {x : Fin} (hx : B[t]? = some x) (hrise : ∀ (i : Nat) (x y : Fin), B[i]? = some x → B[i + 1]? = some y → x.ep ≤ y.ep) (hpos : 0 < x.ep) :
    epL (B.take t) (B.take t).length ≤ x.ep := by
  have ht := (List.getElem?_eq_some_iff.1 hx).1
  have hlen : (B.take t).length = t := by rw [List.length_take]; omega
  rw [hlen]
  cases t with
  | zero => simp [epL]; omega
  | succ s =>
    have hs : s < (B.take (s + 1)).length := by omega
    have e := epL_at hs
    rw [show ((s + 1 : Nat) : Int) = (s : Int) + 1 by omega, e, List.getElem_take]
    exact hrise s _ x (List.getElem?_eq_getElem (by omega)) hx
/-- What a piece leads to, and what stands ahead of each of its entries. -/
theorem take_prem {A B : List Fin} {a n M : Nat} (hall : A.take (a + n) = B.take (a + n)) (hrise : ∀ (i : Nat) (x y : Fin), B[i]? = some x → B[i + 1]? = some y → x.ep ≤ y.ep) (hpos : ∀ (i : Nat) (x : Fin), B[i]? = some x → 0 < x.ep ∧ 0 < x.sq) :
    (∀ (i : Nat) (x : Fin), ((B.drop a).take M)[i]? = some x → 0 < x.ep ∧ 0 < x.sq) ∧
    ∀ (k : Nat) (x : Fin), ((B.drop a).take M)[n + k]? = some x → epL (A.take (a + n) ++ (((B.drop a).take M).drop n).take k) (A.take (a + n) ++ (((B.drop a).take M).drop n).take k).length ≤ x.ep := by
  constructor
  · intro i x hx
    have := (take_get hx).2
    rw [List.getElem?_drop] at this
    exact hpos _ x this
  · intro k x hx
    obtain ⟨h1, h2⟩ := take_get hx
    rw [List.getElem?_drop] at h2
    have e : A.take (a + n) ++ (((B.drop a).take M).drop n).take k = B.take (a + n + k) := by
      rw [hall, List.drop_take, List.drop_drop, List.take_take, Nat.min_eq_left (by omega), List.take_add (i := a + n) (j := k)]
    rw [e]
    exact epL_take (by rw [show a + n + k = a + (n + k) by omega]; exact h2) hrise (hpos _ x h2).1
end Go.Proofs.Ytobfolkcpfaplaa
