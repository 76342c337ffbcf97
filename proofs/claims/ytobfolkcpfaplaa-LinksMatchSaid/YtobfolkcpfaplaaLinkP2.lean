/- Three logs that take pieces of one another: the invariant. No program in sight. -/
import Derived.Test.YtobfolkcpfaplaaLinkP
namespace Go.Proofs.Ytobfolkcpfaplaa
open Go.RowKit Kit
set_option linter.unusedVariables false
def updL (L : Nat → List Fin) (i : Nat) (l : List Fin) : Nat → List Fin := fun j => if j = i then l else L j
structure Inv (ld : Nat) (E : Int) (L : Nat → List Fin) : Prop where
  rise : ∀ (j i : Nat) (x y : Fin), (L j)[i]? = some x → (L j)[i + 1]? = some y → x.ep ≤ y.ep
  pos : ∀ (j i : Nat) (x : Fin), (L j)[i]? = some x → 0 < x.ep ∧ 0 < x.sq ∧ x.ep ≤ E
  mt : ∀ (i j : Nat), Mtch (L i) (L j)
  lead : ∀ (j i : Nat) (x : Fin), (L j)[i]? = some x → x.ep = E → (L ld).take (i + 1) = (L j).take (i + 1)
theorem Inv.start (ld : Nat) (E : Int) : Inv ld E (fun _ => []) := ⟨by simp, by simp, fun _ _ => Mtch.refl _, by simp⟩
theorem Inv.epoch {ld : Nat} {E : Int} {L : Nat → List Fin} (h : Inv ld E L) (ld' : Nat) : Inv ld' (E + 1) L :=
  ⟨h.rise, fun j i x hx => ⟨(h.pos j i x hx).1, (h.pos j i x hx).2.1, by have := (h.pos j i x hx).2.2; omega⟩, h.mt, fun j i x hx e => by have := (h.pos j i x hx).2.2; omega⟩
theorem take_get {l : List Fin} {m i : Nat} {x : Fin} (h : (l.take m)[i]? = some x) : i < m ∧ l[i]? = some x := by
  rw [List.getElem?_take] at h
  split at h
  · exact ⟨by assumption, h⟩
  · cases h
theorem Inv.pre {ld : Nat} {E : Int} {L : Nat → List Fin} (h : Inv ld E L) {i : Nat} (hi : i ≠ ld) (b m : Nat) : Inv ld E (updL L i ((L b).take m)) := by
  have key : ∀ j, ∃ c n, updL L i ((L b).take m) j = (L c).take n := by
    intro j
    by_cases e : j = i
    · exact ⟨b, m, by simp [updL, e]⟩
    · exact ⟨j, (L j).length, by simp [updL, e]⟩
  refine ⟨fun j k x y hx hy => ?_, fun j k x hx => ?_, fun j k => ?_, fun j k x hx e => ?_⟩
  · obtain ⟨c, n, e⟩ := key j
    rw [e] at hx hy
    exact h.rise c k x y (take_get hx).2 (take_get hy).2
  · obtain ⟨c, n, e⟩ := key j
    rw [e] at hx
    exact h.pos c k x (take_get hx).2
  · obtain ⟨c, n, e⟩ := key j
    obtain ⟨c', n', e'⟩ := key k
    rw [e, e']
    exact ((((h.mt c c').take n).symm).take n').symm
  · have hl : updL L i ((L b).take m) ld = L ld := by simp [updL, Ne.symm hi]
    rw [hl]
    obtain ⟨c, n, e'⟩ := key j
    rw [e'] at hx ⊢
    obtain ⟨h1, h2⟩ := take_get hx
    rw [List.take_take, Nat.min_eq_left (by omega)]
    exact h.lead c k x h2 e
theorem Inv.add {ld : Nat} {E : Int} {L : Nat → List Fin} (h : Inv ld E L) (hE : 0 < E) (sq : Int) (hs : 0 < sq) : Inv ld E (updL L ld (L ld ++ [⟨E, sq⟩])) := by
  have hl : updL L ld (L ld ++ [⟨E, sq⟩]) ld = L ld ++ [⟨E, sq⟩] := by simp [updL]
  have ho : ∀ j, j ≠ ld → updL L ld (L ld ++ [⟨E, sq⟩]) j = L j := fun j e => by simp [updL, e]
  have hno : ∀ j (y : Fin), (L j)[(L ld).length]? = some y → (⟨E, sq⟩ : Fin).ep ≠ y.ep := by
    intro j y hy e
    have h1 := h.lead j _ y hy e.symm
    have h2 := congrArg List.length h1
    have h3 := (List.getElem?_eq_some_iff.1 hy).1
    rw [List.length_take, List.length_take] at h2
    omega
  have hget : ∀ (i : Nat) (x : Fin), (L ld ++ [(⟨E, sq⟩ : Fin)])[i]? = some x → (L ld)[i]? = some x ∨ (i = (L ld).length ∧ x = ⟨E, sq⟩) := by
    intro i x hx
    by_cases hi : i < (L ld).length
    · rw [List.getElem?_append_left hi] at hx
      exact .inl hx
    · have h3 := (List.getElem?_eq_some_iff.1 hx).1
      rw [List.length_append, List.length_singleton] at h3
      obtain rfl : i = (L ld).length := by omega
      rw [List.getElem?_append_right (Nat.le_refl _)] at hx
      simp at hx
      exact .inr ⟨rfl, hx.symm⟩
  have hM : ∀ j, Mtch (L ld ++ [⟨E, sq⟩]) (L j) := fun j => (h.mt ld j).push (fun y hy => hno j y hy)
  refine ⟨fun j i x y hx hy => ?_, fun j i x hx => ?_, fun i j => ?_, fun j i x hx e => ?_⟩
  · by_cases ej : j = ld
    · subst ej
      rw [hl] at hx hy
      have hlt : i < (L j).length := by
        have h3 := (List.getElem?_eq_some_iff.1 hy).1
        rw [List.length_append, List.length_singleton] at h3
        omega
      rw [List.getElem?_append_left hlt] at hx
      rcases hget _ _ hy with g | ⟨_, rfl⟩
      · exact h.rise j i x y hx g
      · exact (h.pos j i x hx).2.2
    · rw [ho j ej] at hx hy
      exact h.rise j i x y hx hy
  · by_cases ej : j = ld
    · subst ej
      rw [hl] at hx
      rcases hget _ _ hx with g | ⟨_, rfl⟩
      · exact h.pos j i x g
      · exact ⟨hE, hs, Int.le_refl _⟩
    · rw [ho j ej] at hx
      exact h.pos j i x hx
  · by_cases ei : i = ld
    · subst ei
      rw [hl]
      by_cases ej : j = i
      · subst ej
        rw [hl]
        exact Mtch.refl _
      · rw [ho j ej]
        exact hM j
    · rw [ho i ei]
      by_cases ej : j = ld
      · subst ej
        rw [hl]
        exact (hM i).symm
      · rw [ho j ej]
        exact h.mt i j
  · rw [hl]
    by_cases ej : j = ld
    · subst ej
      rw [hl]
    · rw [ho j ej] at hx ⊢
      have h1 := h.lead j i x hx e
      have hlt : i < (L ld).length := by
        have h2 := congrArg List.length h1
        have h3 := (List.getElem?_eq_some_iff.1 hx).1
        rw [List.length_take, List.length_take] at h2
        omega
      rw [List.take_append_of_le_length (by omega)]
      exact h1
end Go.Proofs.Ytobfolkcpfaplaa
