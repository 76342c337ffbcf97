/- Versions (13): plain laws of one version more. -/
import Derived.Test.YtcckljomjpfdaaaObj12
namespace Go.Proofs.Ytcckljomjpfdaaa
open Go.RowKit Kit
set_option linter.unusedVariables false

theorem lastV_at (l : List Ver) (h : rightB l = true) (x : Ver) (hx : l[l.length - 1]? = some x) : lastV l = x := by
  unfold lastV
  rw [if_pos h, hx]
  rfl
theorem rightB_snoc (l : List Ver) (a : Int) (s : ByteArray) (g : Bool) (h : rightB l = true) (h1 : 1 ≤ a) (h2 : (lastV l).at_ < a) (h3 : mayB s g = true) : rightB (l ++ [⟨a, (lastV l).num + 1, s, g⟩]) = true := by
  have h' := h
  unfold rightB at h ⊢
  rw [rgp_iff] at h ⊢
  intro k hk
  rw [List.length_append] at hk
  simp only [List.length_cons, List.length_nil] at hk
  by_cases e : k = l.length
  · subst e
    have hx : (l ++ [(⟨a, (lastV l).num + 1, s, g⟩ : Ver)])[l.length]? = some ⟨a, (lastV l).num + 1, s, g⟩ := by simp
    have ho : oneB ⟨a, (lastV l).num + 1, s, g⟩ = true := by
      unfold oneB
      simp [h1, h3]
    cases hl : l.length with
    | zero => rw [hl] at hx; rw [okAt_zero _ _ hx, ho]
    | succ j =>
      have hy : l[j]? = some l[j] := List.getElem?_eq_getElem (by omega)
      have hL := lastV_at l h' l[j] (by rw [show l.length - 1 = j by omega]; exact hy)
      rw [hl] at hx
      rw [okAt_succ _ j _ l[j] hx (by rw [List.getElem?_append_left (by omega)]; exact hy), ho]
      rw [hL] at h2 ⊢
      unfold nextB
      simp [h2]
  · have hlt : k < l.length := by omega
    have hk' := h k hlt
    have e1 : l[k]? = some l[k] := List.getElem?_eq_getElem hlt
    have e2 : (l ++ [(⟨a, (lastV l).num + 1, s, g⟩ : Ver)])[k]? = some l[k] := by rw [List.getElem?_append_left hlt]; exact e1
    cases k with
    | zero => rw [okAt_zero _ _ e2]; rwa [okAt_zero _ _ e1] at hk'
    | succ j =>
      have f1 : l[j]? = some l[j] := List.getElem?_eq_getElem (by omega)
      rw [okAt_succ _ j _ l[j] e2 (by rw [List.getElem?_append_left (by omega)]; exact f1)]
      rwa [okAt_succ _ j _ l[j] e1 f1] at hk'
theorem uptoN_snoc (l : List Ver) (x : Ver) (h : rightB l = true) (h2 : (lastV l).at_ < x.at_) : uptoN (l ++ [x]) (x.at_ - 1) = l.length := by
  unfold uptoN
  rw [List.takeWhile_append_of_pos]
  · rw [List.takeWhile_cons, decide_eq_false (by omega)]
    simp
  · intro y hy
    obtain ⟨i, hi, rfl⟩ := List.getElem_of_mem hy
    have hlast : l[l.length - 1]? = some l[l.length - 1] := List.getElem?_eq_getElem (by omega)
    have hL := lastV_at l h _ hlast
    have := right_rises h (l.length - 1 - i) i l[i] l[l.length - 1] (List.getElem?_eq_getElem hi) (by rw [show i + (l.length - 1 - i) = l.length - 1 by omega]; exact hlast)
    rw [hL] at h2
    exact decide_eq_true (by omega)
theorem undo_put (l : List Ver) (a : Int) (s : ByteArray) (g : Bool) (h : rightB l = true) (h2 : (lastV l).at_ < a) : (l ++ [(⟨a, (lastV l).num + 1, s, g⟩ : Ver)]).take (uptoN (l ++ [(⟨a, (lastV l).num + 1, s, g⟩ : Ver)]) (a - 1)) = l := by
  rw [uptoN_snoc l ⟨a, (lastV l).num + 1, s, g⟩ h h2]
  simp
end Go.Proofs.Ytcckljomjpfdaaa
