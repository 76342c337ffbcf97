/- Slices that lie in arguments' elements and fields: an empty one may have any address. No program in sight. -/
import Derived.Test.YtobfolkcpfaplaaOpen
import Derived.Test.YtobfolkcpfaplaaMine
namespace Go.Proofs.Ytobfolkcpfaplaa.Kit
open Go.RowKit Go.WideShapes Go.ChangeShapes
set_option linter.unusedVariables false

/-- A slice that is read; one without room may have any address. -/
def RSlW {α : Type} (r : Rep α) (w : World) (S : Nat → Prop) (v : Value) (l : List α) : Prop := (l = [] ∧ ∃ A, v = .slice A 0 0) ∨ RSl r w S v l
section
variable {α : Type} {r : Rep α} {w w' : World} {S S' : Nat → Prop} {v : Value} {l : List α}
theorem RSlW.keep (h : RSlW r w S v l) (k : ∀ b, S b → b < w.heap.size → S' b ∧ w'.heap[b]? = w.heap[b]?) (k' : ∀ b, S b → S' b) : RSlW r w' S' v l := h.imp id (fun h => h.keep k k')
theorem RSlW.upd {F : Nat → Prop} (h : RSlW r w S v l) (u : Upd F w w') (hs : Sep S F) : RSlW r w' S v l := h.imp id (fun h => h.upd u hs)
theorem RSlW.shape (h : RSlW r w S v l) : ∃ A c, v = .slice A l.length c ∧ l.length ≤ c ∧ c ≤ maxLen := by
  rcases h with ⟨rfl, A, rfl⟩ | ⟨A, c, cs, rfl, h1, h2, _⟩
  · exact ⟨A, 0, rfl, Nat.le_refl _, by decide⟩
  · exact ⟨A, c, rfl, h1, h2⟩
theorem RSlW.cellN {A : Option Addr} {n c : Nat} (h : RSlW r w S (.slice A n c) l) (i : Nat) (hi : i < l.length) :
    ∃ g o cs, A = some ⟨g, o, none⟩ ∧ r.rep w S (l[i]'hi) cs ∧ (∀ j u, cs[j]? = some u → w.cell? ⟨g, o + i * r.sz + j, none⟩ = some u) ∧ S g := by
  rcases h with ⟨rfl, _⟩ | h
  · simp at hi
  · exact h.cellN i hi
theorem RSlW.cell1 (hsz : r.sz = 1) {A : Option Addr} {n c : Nat} (h : RSlW r w S (.slice A n c) l) (i : Nat) (hi : i < l.length) :
    ∃ g o u, A = some ⟨g, o, none⟩ ∧ r.rep w S (l[i]'hi) [u] ∧ w.cell? ⟨g, o + i, none⟩ = some u ∧ S g := by
  rcases h with ⟨rfl, _⟩ | h
  · simp at hi
  · exact h.cell1 hsz i hi
end
section
variable {H : Type} {enc : TypeId × Value → H} {P : Program} {W : World}
theorem cell_spot {a : Addr} {v : Value} (h : W.cell? a = some v) : a.spot = none ∧ a.block < W.heap.size := by
  refine ⟨?_, World.block_lt_of_cell? W a h⟩
  unfold World.cell? at h
  split at h
  · split at h
    · cases h
    · rename_i hs
      simpa using hs
  · cases h
/-- A slice in an element, or in a field, as a list. -/
theorem open_rslw {α : Type} (r : Rep α) {T e : TypeId} (ht : P.underlying T = some (.slice e)) (hcs : P.cellsOf e = r.sz)
    (hel : ∀ n cs x, DataW.trod enc P W 0 (fun _ => true) true n e cs = some x → ∃ y, r.rep W (Old W) y cs)
    {m : Nat} {cs0 : List Value} {x : DataW H × List MemPlace} (hf : DataW.trod enc P W 0 (fun _ => true) true m T cs0 = some x) : ∃ v l, cs0 = [v] ∧ RSlW r W (Old W) v l := by
  rcases DataW.trod_slice ht hf with ⟨e1, _⟩ | ⟨a, len, cap, elems, rest, n, _, e1, _, _, hl, hm, hlen, hsl, hrest, _⟩
  · exact ⟨_, [], e1, .inr (RSl.nil W _)⟩
  · refine ⟨.slice (some a) len cap, ?_⟩
    by_cases hc : cap = 0
    · subst hc
      obtain rfl : len = 0 := by omega
      exact ⟨[], e1, .inl ⟨rfl, _, rfl⟩⟩
    · have hpos := r.pos
      have hsp : a.spot = none ∧ a.block < W.heap.size := by
        have key : ∀ (i : Nat) (y : Option (DataW H × List MemPlace)), i = 0 → (W.cells? 0 (a.add (i * P.cellsOf e)) (P.cellsOf e)).bind (DataW.trod enc P W 0 (fun _ => true) true n e) = y → y.isSome = true → a.spot = none ∧ a.block < W.heap.size := by
          rintro i y rfl h hy
          obtain ⟨z, hz⟩ := Option.isSome_iff_exists.1 hy
          rw [hz, Option.bind_eq_some_iff] at h
          obtain ⟨c, hc, _⟩ := h
          obtain ⟨hcl, hcc⟩ := cells_of hc
          have h0 : 0 < c.length := by rw [hcl, hcs]; exact hpos
          have := hcc 0 c[0] (List.getElem?_eq_getElem h0)
          simp only [Nat.zero_mul, Addr.add] at this
          exact cell_spot this
        by_cases h0 : 0 < len
        · exact key 0 _ rfl (hsl 0 h0) (by rw [List.getElem?_eq_getElem (by omega)]; rfl)
        · obtain ⟨hr1, hr2⟩ := hrest rfl
          have := hr2 0 (by omega)
          exact key (len + 0) _ (by omega) this (by rw [List.getElem?_eq_getElem (by omega)]; rfl)
      obtain ⟨g, o, sp⟩ := a
      obtain ⟨hsp, hg⟩ := hsp
      simp only at hsp hg
      subst hsp
      have key : ∀ m, m ≤ len → ∃ (l : List α) (cs : List Value), l.length = m ∧ Rows r W (Old W) l cs ∧ ∀ j u, cs[j]? = some u → W.cell? ⟨g, o + j, none⟩ = some u := by
        intro m
        induction m with
        | zero => exact fun _ => ⟨[], [], rfl, rfl, fun j u hu => by simp at hu⟩
        | succ m ih =>
          intro hm'
          obtain ⟨l, cs, hl1, hr1, hc1⟩ := ih (by omega)
          have hx := hsl m (by omega)
          rw [List.getElem?_eq_getElem (show m < elems.length by omega), Option.bind_eq_some_iff] at hx
          obtain ⟨c, hc, hy⟩ := hx
          obtain ⟨y, hy⟩ := hel _ _ _ hy
          obtain ⟨hcl, hcc⟩ := cells_of hc
          refine ⟨l ++ [y], cs ++ c, by simp [hl1], hr1.append (Rows.single hy), fun j u hu => ?_⟩
          rw [List.getElem?_append] at hu
          split at hu
          · exact hc1 j u hu
          · rename_i hj
            have h3 := hcc _ u hu
            have hlen2 := Rows.len hr1
            rw [Addr.add_lit] at h3
            rw [show ((⟨g, o, none⟩ : Addr).add (m * P.cellsOf e)) = ⟨g, o + m * P.cellsOf e, none⟩ from Addr.add_lit .., Addr.add_lit] at *
            rw [hlen2, hl1, ← hcs] at h3 hj
            rw [← h3]
            congr 2
            omega
      obtain ⟨l, cs, hl1, hr1, hc1⟩ := key len (Nat.le_refl _)
      refine ⟨l, e1, .inr ⟨some ⟨g, o, none⟩, cap, cs, by rw [hl1], by omega, hm, hr1, (fun h => nomatch h), fun a ha => ?_⟩⟩
      obtain rfl := Option.some.inj ha
      exact ⟨rfl, hg, hc1⟩
end
end Go.Proofs.Ytobfolkcpfaplaa.Kit
