/- Three logs in one world. -/
import Derived.Test.YtobfolkcpfaplaaLinkP3
namespace Go.Proofs.Ytobfolkcpfaplaa
open Go.RowKit Kit
set_option linter.unusedVariables false
/-- Logs at the blocks P 0, P 1, P 2, apart; what they own was made since w0. -/
structure T3 (w0 w : World) (P : Nat → Nat) (V : Nat → Value) (L : Nat → List Fin) : Prop where
  cell : ∀ i, i < 3 → w.heap[P i]? = some (.cells #[V i] 114 (0, 0))
  own : ∀ i, i < 3 → OSl Rep.fin 65 w (fun b => (V i).ownBlock = some b) (V i) (L i)
  newV : ∀ i b, i < 3 → (V i).ownBlock = some b → w0.heap.size ≤ b ∧ b < w.heap.size
  ne : ∀ i j, i < 3 → j < 3 → i ≠ j → P i ≠ P j
  neV : ∀ i j b, i < 3 → j < 3 → (V i).ownBlock = some b → b ≠ P j
  neVV : ∀ i j b, i < 3 → j < 3 → i ≠ j → (V i).ownBlock = some b → (V j).ownBlock ≠ some b
  size : w0.heap.size ≤ w.heap.size
/-- What is kept while the log i is at work. -/
def keepL (P : Nat → Nat) (V : Nat → Value) (i : Nat) (ys : List Nat) : List Nat :=
  [P 0, P 1, P 2] ++ (List.range 3).filterMap (fun j => if j = i then none else (V j).ownBlock) ++ ys
theorem mem_keepL {P : Nat → Nat} {V : Nat → Value} {i : Nat} {ys : List Nat} {b : Nat} : b ∈ keepL P V i ys ↔ (∃ j, j < 3 ∧ b = P j) ∨ (∃ j, j < 3 ∧ j ≠ i ∧ (V j).ownBlock = some b) ∨ b ∈ ys := by
  unfold keepL
  simp only [List.mem_append, List.mem_filterMap, List.mem_range, List.mem_cons, List.not_mem_nil, or_false]
  constructor
  · rintro ((h | ⟨j, hj, h⟩) | h)
    · rcases h with h | h | h
      · exact .inl ⟨0, by omega, h⟩
      · exact .inl ⟨1, by omega, h⟩
      · exact .inl ⟨2, by omega, h⟩
    · by_cases e : j = i
      · simp [e] at h
      · exact .inr (.inl ⟨j, hj, e, by simpa [e] using h⟩)
    · exact .inr (.inr h)
  · rintro (⟨j, hj, rfl⟩ | ⟨j, hj, e, h⟩ | h)
    · left; left
      rcases (show j = 0 ∨ j = 1 ∨ j = 2 by omega) with rfl | rfl | rfl <;> simp
    · exact .inl (.inr ⟨j, hj, by simpa [e] using h⟩)
    · exact .inr h
theorem T3.log {w0 w : World} {P : Nat → Nat} {V : Nat → Value} {L : Nat → List Fin} (h : T3 w0 w P V L) (i : Nat) (hi : i < 3) (ys : List Nat) (hy : ∀ b, (V i).ownBlock = some b → b ∉ ys) : Ll w0 w (keepL P V i ys) (P i) (L i) := by
  refine ⟨V i, h.cell i hi, (h.own i hi).mono (fun b hb => ⟨(h.newV i b hi hb).1, (h.newV i b hi hb).2, fun hm => ?_⟩)⟩
  rcases mem_keepL.1 hm with ⟨j, hj, e⟩ | ⟨j, hj, e, hb'⟩ | e
  · exact h.neV i j b hi hj hb e
  · exact h.neVV i j b hi hj (Ne.symm e) hb hb'
  · exact hy b hb e
theorem T3.upd {w0 w w' : World} {P : Nat → Nat} {V : Nat → Value} {L : Nat → List Fin} (h : T3 w0 w P V L) (u : Upd NoB w w') : T3 w0 w' P V L :=
  ⟨fun i hi => u.heap (h.cell i hi) (fun h => h), fun i hi => (h.own i hi).upd u (fun _ _ h => h), fun i b hi hb => ⟨(h.newV i b hi hb).1, Nat.lt_of_lt_of_le (h.newV i b hi hb).2 u.size⟩, h.ne, h.neV, h.neVV, Nat.le_trans h.size u.size⟩
theorem OSl.self {w : World} {S : Nat → Prop} {v : Value} {l : List Fin} {e : TypeId} (h : OSl Rep.fin e w S v l) : OSl Rep.fin e w (fun b => v.ownBlock = some b) v l := by
  obtain ⟨cs, h1, h2, h3⟩ := h
  exact ⟨cs, h1, fun k hk => hk, Rows.flat flat_fin h3 _ _⟩
/-- One log has been at work. -/
theorem T3.step {w0 w w' : World} {P : Nat → Nat} {V : Nat → Value} {L : Nat → List Fin} (h : T3 w0 w P V L) (i : Nat) (hi : i < 3) (ys : List Nat) {l' : List Fin} (hl : Ll w0 w' (keepL P V i ys) (P i) l') (u : Upd (fun b => b = P i ∨ New w0 w (keepL P V i ys) b) w w') :
    ∃ V', T3 w0 w' P V' (updL L i l') := by
  obtain ⟨v', k1, k2⟩ := hl
  have hn := fun b (hb : v'.ownBlock = some b) => k2.new_own b hb
  have e1 : ∀ j, j ≠ i → (fun j => if j = i then v' else V j) j = V j := fun j e => by simp [e]
  have e2 : (fun j => if j = i then v' else V j) i = v' := by simp
  refine ⟨fun j => if j = i then v' else V j, ?_, ?_, ?_, h.ne, ?_, ?_, Nat.le_trans h.size u.size⟩
  · intro j hj
    by_cases e : j = i
    · subst e; simpa using k1
    · simp only [e, if_false]
      exact u.heap (h.cell j hj) (fun f => f.elim (fun f => h.ne j i hj hi e f) (fun f => f.2.2 (mem_keepL.2 (.inl ⟨j, hj, rfl⟩))))
  · intro j hj
    by_cases e : j = i
    · subst e; simpa [updL] using OSl.self k2
    · simp only [e, if_false, updL]
      exact (h.own j hj).upd u (fun b hb f => f.elim (fun f => h.neV j i b hj hi hb f) (fun f => f.2.2 (mem_keepL.2 (.inr (.inl ⟨j, hj, e, hb⟩)))))
  · intro j b hj hb
    by_cases e : j = i
    · subst e
      simp only [if_true] at hb
      exact ⟨(hn b hb).1, (hn b hb).2.1⟩
    · simp only [e, if_false] at hb
      exact ⟨(h.newV j b hj hb).1, Nat.lt_of_lt_of_le (h.newV j b hj hb).2 u.size⟩
  · intro j k b hj hk hb
    by_cases e : j = i
    · subst e
      simp only [if_true] at hb
      intro f
      exact (hn b hb).2.2 (mem_keepL.2 (.inl ⟨k, hk, f⟩))
    · simp only [e, if_false] at hb
      exact h.neV j k b hj hk hb
  · intro j k b hj hk hjk hb
    by_cases e : j = i
    · subst e
      simp only [if_true] at hb
      simp only [Ne.symm hjk, if_false]
      intro f
      exact (hn b hb).2.2 (mem_keepL.2 (.inr (.inl ⟨k, hk, Ne.symm hjk, f⟩)))
    · simp only [e, if_false] at hb
      by_cases e' : k = i
      · subst e'
        simp only [if_true]
        intro f
        exact (hn b f).2.2 (mem_keepL.2 (.inr (.inl ⟨j, hj, e, hb⟩)))
      · simp only [e', if_false]
        exact h.neVV j k b hj hk hjk hb
end Go.Proofs.Ytobfolkcpfaplaa
