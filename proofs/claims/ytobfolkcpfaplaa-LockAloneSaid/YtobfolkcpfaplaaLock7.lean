/- Who holds what, function by function (7): one is not held any more; what a table that is not there answers; the chapter's example. -/
import Derived.Test.YtobfolkcpfaplaaLock6
namespace Go.Proofs.Ytobfolkcpfaplaa
open Go.RowKit Kit
set_option linter.unusedVariables false

namespace Kit
section
variable {α : Type} {r : Rep α} {e : TypeId} {w : World} {S : Nat → Prop} {v : Value} {l : List α}
theorem Rows.setN {y : α} (j : Nat) (u : Value) : ∀ {l : List α} {cs : List Value} (i : Nat) (hi : i < l.length), Rows r w S l cs → (∀ c, r.rep w S (l[i]'hi) c → j < c.length ∧ r.rep w S y (c.set j u)) → Rows r w S (l.set i y) (cs.set (i * r.sz + j) u)
  | [], _, _, hi, _, _ => by simp at hi
  | x :: xs, _, 0, hi, ⟨c, rest, e, hc, hr⟩, h => by
    obtain ⟨h1, h2⟩ := h c hc
    refine ⟨c.set j u, rest, ?_, h2, hr⟩
    rw [e, Nat.zero_mul, Nat.zero_add, List.set_append_left _ _ h1]
  | x :: xs, _, i + 1, hi, ⟨c, rest, e, hc, hr⟩, h => by
    refine ⟨c, rest.set (i * r.sz + j) u, ?_, hc, Rows.setN j u i (by simpa using hi) hr h⟩
    have hl := r.len hc
    rw [e, List.set_append_right _ _ (by rw [hl, Nat.add_mul]; omega), hl]
    congr 2
    rw [Nat.add_mul]
    omega
theorem OSl.shape (h : OSl r e w S v l) (h0 : 0 < l.length) : ∃ g cap, v = .slice (some ⟨g, 0, none⟩) l.length cap ∧ l.length ≤ cap ∧ cap ≤ maxLen ∧ S g ∧ g < w.heap.size ∧ ∀ j, w.frozen? ⟨g, j, none⟩ = false := by
  obtain ⟨cs, h1, h2, h3⟩ := h
  rcases h1.2 with ⟨_, hn⟩ | ⟨g, cap, cur, rfl, hb, hg, hcap, hm, hsz, ht⟩
  · omega
  · exact ⟨g, cap, rfl, hcap, hm, h2 g rfl, lt_of_heap hg, fun j => by simp [World.frozen?, hg]⟩
/-- A cell of an element is turned. -/
theorem OSl.setN {g cap : Nat} (h : OSl r e w S (.slice (some ⟨g, 0, none⟩) l.length cap) l) (i : Nat) (hi : i < l.length) (j : Nat) {y : α} {u : Value}
    (hy : ∀ w' S' c, r.rep w' S' (l[i]'hi) c → j < c.length ∧ r.rep w' S' y (c.set j u)) : OSl r e (w.setCell ⟨g, i * r.sz + j, none⟩ u) S (.slice (some ⟨g, 0, none⟩) l.length cap) (l.set i y) := by
  obtain ⟨cs, h1, h2, h3⟩ := h
  have hst := h1.stored (i * r.sz + j) u
  refine ⟨cs.set (i * r.sz + j) u, by rw [List.length_set]; exact hst.1, h2, ?_⟩
  refine Rows.keep (Rows.setN j u i hi h3 (fun c hc => hy _ _ c hc)) (fun b hb hl => ⟨hb, ?_⟩) (fun _ hb => hb)
  exact Below.heap_setCell w ⟨g, i * r.sz + j, none⟩ u b (fun e => hb.2 (by rw [e]; rfl))
end
end Kit

/-- What Free answers; the spans behind it, the last number. -/
def freeL (l : List Span) (last cl sq a : Int) : Int × List Span × Int :=
  if a ≤ last then (1, l, last)
  else match l.findIdx? (fun s => s.held cl sq) with
    | none => (6, l, last)
    | some k => (0, l.modify k (fun s => { s with till := a }), a)
set_option maxHeartbeats 8000000 in
set_option maxRecDepth 100000 in
theorem free_any (w0 : World) (xs : List Nat) (p : Nat) (l : List Span) (last cl sq a : Int) (w : World) (h : Lk w0 w xs p l last)
    (hp : p ∈ xs) (hxs : ∀ x ∈ xs, x < w.heap.size) (h0 : w0.heap.size ≤ w.heap.size) (hl : l.length ≤ 1000) :
    Calls Try.prog 14 #[.pointer (some ⟨p, 0, none⟩), .agg #[.int .i64 cl, .int .u64 sq], .int .i64 a] w fun e w' => e = .returned (.int .i64 (freeL l last cl sq a).1) ∧ Lk w0 w' xs p (freeL l last cl sq a).2.1 (freeL l last cl sq a).2.2 ∧ Upd (fun b => b = p ∨ New w0 w xs b) w w' := by
  have HK := Lib.hid (fun x (hx : Upd NoB w x) => h.keep hx (fun h => h) (fun _ h => h.elim))
  obtain ⟨v, h1, h2⟩ := id h
  have hua : Upd NoB w (w.alloc (.cells #[.int .i64 cl, .int .u64 sq] 31)) := (Upd.refl _ _).alloc _
  have hcell := Lib.hid (fun x (hx : Upd NoB w x) => show x.cell? ⟨p, 0, none⟩ = some v ∧ x.cell? ⟨p, 1, none⟩ = some (.int .i64 last) from two_cells (hx.heap h1 (fun h => h)))
  have hf := find_any w0 xs p l last cl sq _ (HK.out _ hua)
  have HO := Lib.hid (fun x (hx : Upd NoB w x) => h2.new_keep hx (fun _ h => h.elim))
  have hown := Lib.hid (fun k (hk : v.ownBlock = some k) => h2.new_own k hk)
  have HUa := Lib.hid hua
  have H1 := Lib.hid h1
  have hplt := lt_of_heap h1
  unfold freeL
  by_cases ha : a ≤ last
  · rw [if_pos ha]
    have had : decide (a ≤ last) = true := decide_eq_true ha
    obtain ⟨A, c, _, rfl, _⟩ := h2.read
    clear ha h h1 h2 hua
    have hf := Lib.hid hf
    generalize fidx (fun s => s.held cl sq) l = I at *
    go_enter Try.func14, Try.ntmps14
    go_wp2_with fail
    refine hf.out.mono ?_
    rintro e w1 ⟨rfl, hu⟩
    have HU1 := Lib.hid (HUa.out.trans hu)
    obtain ⟨p0, p1⟩ := hcell.out w1 HU1.out
    clear hu
    go_wp2_with fail
    go_ret
    exact ⟨rfl, HK.out _ HU1.out, HU1.out.mono (fun _ _ h => h.elim)⟩
  · rw [if_neg ha]
    have had : decide (a ≤ last) = false := decide_eq_false ha
    clear ha
    cases hI : l.findIdx? (fun s => s.held cl sq) with
    | none =>
      unfold fidx at hf
      rw [hI] at hf
      have hf := Lib.hid (show Calls Try.prog 54 #[.pointer (some ⟨p, 0, none⟩), .agg #[.int .i64 cl, .int .u64 sq]] (w.alloc (.cells #[.int .i64 cl, .int .u64 sq] 31)) fun e w' => e = .returned (.int .i64 (-1)) ∧ Upd NoB (w.alloc (.cells #[.int .i64 cl, .int .u64 sq] 31)) w' from hf)
      obtain ⟨A, c, _, rfl, _⟩ := h2.read
      clear h h1 h2 hua hI
      go_enter Try.func14, Try.ntmps14
      go_wp2_with fail
      refine hf.out.mono ?_
      rintro e w1 ⟨rfl, hu⟩
      have HU1 := Lib.hid (HUa.out.trans hu)
      obtain ⟨p0, p1⟩ := hcell.out w1 HU1.out
      clear hu
      go_wp2_with fail
      go_ret
      exact ⟨rfl, HK.out _ HU1.out, HU1.out.mono (fun _ _ h => h.elim)⟩
    | some k =>
      unfold fidx at hf
      rw [hI] at hf
      have hf := Lib.hid (show Calls Try.prog 54 #[.pointer (some ⟨p, 0, none⟩), .agg #[.int .i64 cl, .int .u64 sq]] (w.alloc (.cells #[.int .i64 cl, .int .u64 sq] 31)) fun e w' => e = .returned (.int .i64 (k : Int)) ∧ Upd NoB (w.alloc (.cells #[.int .i64 cl, .int .u64 sq] 31)) w' from hf)
      have hk : k < l.length := (List.findIdx?_eq_some_iff_getElem.1 hI).1
      obtain ⟨g, cap, rfl, q1, q2, q3, q4, q5⟩ := h2.shape (by omega)
      have q2' : cap ≤ 9223372036854775807 := q2
      have hgp : g ≠ p := fun e => q3.2.2 (e ▸ hp)
      have hk0 : (0 : Int) ≤ (k : Int) := by omega
      have hk1 : (k : Int) < (l.length : Int) := by omega
      have hcA := Lib.hid (fun x (hx : Upd NoB w x) => by
        obtain ⟨g', o', rcs, e1, hrep, hc, _⟩ := (HO.out x hx).read.cellN k hk
        cases e1
        obtain ⟨va, vb, rfl, _⟩ := hrep
        have h5 := hc 5 _ rfl
        rw [Nat.zero_add] at h5
        exact show x.cell? ⟨g, k * 6 + 5, none⟩ = some (.int .i64 l[k].till) from h5)
      have hfz := Lib.hid (fun x (hx : Upd NoB w x) => by
        obtain ⟨g', cap', e1, _, _, _, _, hz⟩ := (HO.out x hx).shape (by omega)
        cases e1
        exact show x.frozen? ⟨g, k * 6 + 5, none⟩ = false from hz _)
      have hS := Lib.hid (fun x (hx : Upd NoB w x) => OSl.setN (HO.out x hx) k hk 5 (y := { l[k] with till := a }) (u := .int .i64 a) (fun w' S' c hc => by
        obtain ⟨va, vb, rfl, h3, h4⟩ := hc
        exact ⟨by simp [spanC], va, vb, rfl, h3, h4⟩))
      have hmod : l.modify k (fun s => { s with till := a }) = l.set k { l[k] with till := a } := by
        refine List.ext_getElem? fun i => ?_
        rw [List.getElem?_modify, List.getElem?_set]
        by_cases e : k = i
        · subst e
          simp [hk]
        · simp [e]
      have hML := Lib.hid hmod
      have hq3 := Lib.hid q3
      clear h h1 h2 hua hI hmod
      generalize hX2 : ({ l[k] with till := a } : Span) = X2 at *
      generalize l[k].till = tt at *
      clear hX2
      go_enter Try.func14, Try.ntmps14
      go_wp2_with fail
      refine hf.out.mono ?_
      rintro e w1 ⟨rfl, hu⟩
      have HU1 := Lib.hid (HUa.out.trans hu)
      obtain ⟨p0, p1⟩ := hcell.out w1 HU1.out
      have kA := hcA.out w1 HU1.out
      have kz := hfz.out w1 HU1.out
      have hg1 := HU1.out.heap H1.out (fun h => h)
      obtain ⟨w2, hw2⟩ : ∃ w2, w1.setCell ⟨g, k * 6 + 5, none⟩ (.int .i64 a) = w2 := ⟨_, rfl⟩
      have U2 : Upd (fun b => b = g) w1 w2 := by rw [← hw2]; exact (Upd.refl (fun b => b = g) w1).setCell (p := ⟨g, k * 6 + 5, none⟩) (fun _ => rfl) _
      have G2 := U2.heap hg1 (fun e => hgp e.symm)
      have HS2 := Lib.hid (show OSl Rep.span 106 w2 (New w0 w1 xs) (.slice (some ⟨g, 0, none⟩) l.length cap) (l.set k X2) by rw [← hw2]; exact hS.out w1 HU1.out)
      obtain ⟨m0, m1⟩ := two_cells G2
      have m2 : w2.frozen? ⟨p, 1, none⟩ = false := by simp [World.frozen?, G2]
      have G3 := Lib.hid (heap_put G2 1 (.int .i64 a))
      have U3 := Lib.hid ((Upd.refl (fun b => b = p) w2).setCell (p := ⟨p, 1, none⟩) (fun _ => rfl) (.int .i64 a))
      have HU2 := Lib.hid U2
      clear hu hg1 U2 G2
      go_wp2_with fail
      go_ret
      refine ⟨rfl, ⟨_, by simpa using G3.out, ?_⟩, ?_⟩
      · rw [hML.out]
        have hz : w1.heap.size ≤ w2.heap.size := HU2.out.size
        have := HS2.out.mono (S' := New w0 w2 xs) (fun b hb => ⟨hb.1, Nat.lt_of_lt_of_le hb.2.1 hz, hb.2.2⟩)
        exact this.new_keep U3.out (fun b hb => .inl (by rw [show b = p from hb]; exact hp))
      · refine ((HU1.out.mono (fun _ _ h => h.elim)).then HU2.out (fun i hi e => ?_)).then U3.out (fun i hi e => .inl e)
        rw [show i = g from e]
        exact .inr hq3.out
end Go.Proofs.Ytobfolkcpfaplaa
