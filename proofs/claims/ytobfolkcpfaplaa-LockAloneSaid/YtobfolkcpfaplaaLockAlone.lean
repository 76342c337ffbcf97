/- Nobody holds a key that somebody else holds to write (LockAlone): the law's walk. -/
import Derived.Test.YtobfolkcpfaplaaLockBack
namespace Go.Proofs.Ytobfolkcpfaplaa
open Go.RowKit Kit
set_option linter.unusedVariables false

theorem alone_rows {l : List Span} {last : Int} (h : Good l last) {x y : Rwl} (hx : x ∈ rowsL l) (hy : y ∈ rowsL l) (h1 : x.till = 0) (h2 : y.till = 0) (h3 : x.key = y.key) (h4 : x.key.size ≠ 0) (h5 : x.wr = true) : x.cl = y.cl ∧ x.sq = y.sq := by
  obtain ⟨s, hs, hxs⟩ := List.mem_flatMap.1 hx
  obtain ⟨t, ht, hyt⟩ := List.mem_flatMap.1 hy
  have ex : (x.cl = s.cl ∧ x.sq = s.sq) ∧ x.till = s.till ∧ x.key ∈ s.wr := by
    unfold rowsS at hxs
    simp only [List.cons_append, List.mem_cons, List.mem_append, List.mem_map] at hxs
    rcases hxs with rfl | ⟨k, hk, rfl⟩ | ⟨k, hk, rfl⟩
    · cases h5
    · cases h5
    · exact ⟨⟨rfl, rfl⟩, rfl, hk⟩
  have ey : (y.cl = t.cl ∧ y.sq = t.sq) ∧ y.till = t.till ∧ (y.key ∈ t.wr ∨ y.key ∈ t.rd) := by
    unfold rowsS at hyt
    simp only [List.cons_append, List.mem_cons, List.mem_append, List.mem_map] at hyt
    rcases hyt with rfl | ⟨k, hk, rfl⟩ | ⟨k, hk, rfl⟩
    · rw [h3] at h4
      exact absurd rfl h4
    · exact ⟨⟨rfl, rfl⟩, rfl, .inr hk⟩
    · exact ⟨⟨rfl, rfl⟩, rfl, .inl hk⟩
  obtain ⟨⟨e1, e2⟩, e3, e4⟩ := ex
  obtain ⟨⟨g1, g2⟩, g3, g4⟩ := ey
  obtain ⟨i, hi, es⟩ := List.getElem_of_mem hs
  obtain ⟨j, hj, et⟩ := List.getElem_of_mem ht
  have his : l[i]? = some s := by rw [List.getElem?_eq_getElem hi, es]
  have hjt : l[j]? = some t := by rw [List.getElem?_eq_getElem hj, et]
  by_cases hij : i = j
  · subst hij
    rw [his] at hjt
    cases hjt
    exact ⟨e1.trans g1.symm, e2.trans g2.symm⟩
  · have := h.alone i j s t hij his hjt (e3 ▸ h1) (g3 ▸ h2) x.key e4
    rw [h3] at this
    rcases g4 with g | g
    · exact absurd g this.1
    · exact absurd g this.2
theorem take_fail {l : List Span} {last c q a : Int} {rd wr : List ByteArray} (h : (takeL l last c q a rd wr).1 ≠ 0) : (takeL l last c q a rd wr).2 = (l, last) := by
  unfold takeL at h ⊢
  repeat' split
  all_goals first | rfl | skip
  rename_i h1 h2 h3 h4 h5 h6
  rw [if_neg h1, if_neg h2, if_neg h3, if_neg h4, if_neg h5, if_neg h6] at h
  exact absurd rfl h
theorem take_ok {l : List Span} {last c q a : Int} {rd wr : List ByteArray} (h : (takeL l last c q a rd wr).1 = 0) : (takeL l last c q a rd wr).2 = (l ++ [⟨c, q, rd, wr, a, 0⟩], a) ∧ last < a := by
  unfold takeL at h ⊢
  split at h
  · cases h
  split at h
  · cases h
  split at h
  · cases h
  split at h
  · cases h
  split at h
  · cases h
  split at h
  · cases h
  rename_i h1 h2 h3 h4 h5 h6
  rw [if_neg h1, if_neg h2, if_neg h3, if_neg h4, if_neg h5, if_neg h6]
  exact ⟨rfl, by omega⟩
theorem free_fail {l : List Span} {last c q a : Int} (h : (freeL l last c q a).1 ≠ 0) : (freeL l last c q a).2 = (l, last) := by
  unfold freeL at h ⊢
  split
  · rfl
  split
  · rfl
  · rename_i h1 o k hk
    rw [if_neg h1, hk] at h
    exact absurd rfl h
theorem free_ok {l : List Span} {last lr c q a : Int} (hg : Good l last) (hlr : lr ≤ last) (h : (freeL l last c q a).1 = 0) : rfree (rowsL l) lr c q a = (0, rowsL (freeL l last c q a).2.1, (freeL l last c q a).2.2) ∧ last < a ∧ (freeL l last c q a).2.2 = a := by
  have hr := free_rows hg c q a
  have hk : ¬ a ≤ last ∧ holdsB l c q = true ∧ (freeL l last c q a).2.2 = a := by
    unfold freeL at h ⊢
    split at h
    · cases h
    rename_i ha
    rw [if_neg ha]
    split at h
    · cases h
    · rename_i o k hk
      exact ⟨ha, holds_some hk, rfl⟩
  obtain ⟨ha, hh, hl⟩ := hk
  unfold rfree at hr ⊢
  rw [held_rows, hh, if_neg ha, if_neg (by simp), h] at hr
  rw [held_rows, hh, if_neg (by omega), if_neg (by simp)]
  exact ⟨hr, by omega, hl⟩
section
variable {w0 w w1 : World} {xs : List Nat} {p q : Nat} {l : List Span} {last lr : Int} {L : List Rwl} {St Sr : Nat → Prop} {v vr v1 : Value} {y : Rwl}
/-- A row is put behind the document's, by hand. -/
theorem Two.push (h : Two w0 w xs p q l last L lr St Sr v vr) (ho : OSl Rep.rwl 39 w1 (grow Sr w w1) v1 (L ++ [y])) (hu : Upd (fun b => vr.ownBlock = some b) w w1) :
    Tw w0 (w1.setCell ⟨q, 0, none⟩ v1) xs p q l last (L ++ [y]) lr ∧ Upd (fun b => w0.heap.size ≤ b ∧ b ∉ xs) w (w1.setCell ⟨q, 0, none⟩ v1) := by
  obtain ⟨cs0, _, hset, _⟩ := id h.oq
  have hnq : ¬ vr.ownBlock = some q := fun e => h.rq (hset q e)
  have hq1 := hu.heap h.hq hnq
  have us : Upd (fun b => b = q) w1 (w1.setCell ⟨q, 0, none⟩ v1) := (Upd.refl (fun b => b = q) w1).setCell (p := ⟨q, 0, none⟩) (fun _ => rfl) _
  have hz := hu.size
  refine h.right (L' := L ++ [y]) (lr' := lr) ⟨v1, by simpa using heap_put hq1 0 v1, ?_⟩ ?_
  · refine (ho.upd us (fun b hb e => ?_)).mono (fun b hb => ⟨?_, Nat.lt_of_lt_of_le hb.2 us.size, fun hm => ?_⟩)
    · have hqlt := lt_of_heap h.hq
      rcases hb.1 with hb | hb
      · exact h.rq ((show b = q from e) ▸ hb)
      · rw [show b = q from e] at hb; omega
    · rcases hb.1 with hb | hb
      · exact (h.sr b hb).1
      · have := h.u.size; omega
    · obtain ⟨m1, m2⟩ := mem_outs.1 hm
      rcases hb.1 with hb | hb
      · exact m2 hb
      · omega
  · refine (hu.mono (fun b _ e => .inr ?_)).then us (fun i hi e => .inl e)
    exact new_of h.sr b (hset b e)
end
theorem row_cells {W : World} {q : Nat} {T : TypeId} {v : Value} {lr : Int} (h : W.heap[q]? = some (.cells #[v, .int .i64 lr] T (0, 0))) : W.cell? ⟨q, 0, none⟩ = some v ∧ W.frozen? ⟨q, 0, none⟩ = false := by
  simp [World.cell?, World.frozen?, h]
end Go.Proofs.Ytobfolkcpfaplaa
