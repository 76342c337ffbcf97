/- What a call has made, and owns, so far; elements that are read. No program in sight. -/
import Derived.Test.YtobfolkcpfaplaaKit
namespace Go.Proofs.Ytobfolkcpfaplaa.Kit
open Go.RowKit
set_option linter.unusedVariables false
section
variable {α : Type} {r : Rep α} {e : TypeId} {w wr w2 : World} {v v1 : Value} {l l' : List α}
/-- Elements that reach no memory. -/
def Flat (r : Rep α) : Prop := ∀ {w : World} {S : Nat → Prop} {x : α} {cs : List Value}, r.rep w S x cs → ∀ w' S', r.rep w' S' x cs
theorem Rows.flat (hf : Flat r) : ∀ {w : World} {S : Nat → Prop} {l : List α} {cs : List Value}, Rows r w S l cs → ∀ w' S', Rows r w' S' l cs
  | _, _, [], _, h, _, _ => h
  | _, _, x :: xs, _, ⟨c, rest, e, hc, hr⟩, w', S' => ⟨c, rest, e, hf hc w' S', Rows.flat hf hr w' S'⟩
theorem flat_byte : Flat Rep.byte := fun h _ _ => h
theorem flat_str : Flat Rep.str := fun h _ _ => h
theorem flat_int (k : IntKind) : Flat (Rep.int k) := fun h _ _ => h
/-- A slice that was made since w; nothing that was there has turned. -/
def Mine (r : Rep α) (e : TypeId) (w wr : World) (v : Value) (l : List α) : Prop := OSl r e wr (grow NoB w wr) v l ∧ Upd NoB w wr
theorem Mine.app (h : Mine r e w wr v l) (ho : OSl r e w2 (grow (grow NoB w wr) wr w2) v1 l') (hu : Upd (fun b => v.ownBlock = some b) wr w2) : Mine r e w w2 v1 l' := by
  obtain ⟨h1, h2⟩ := h
  refine ⟨ho.mono (grow_new h2.size), h2.then hu fun i hi hown => ?_⟩
  obtain ⟨_, _, hset, _⟩ := h1
  have := (hset i hown).1.resolve_left (fun h => h)
  omega
theorem Mine.nil (w : World) (h : Upd NoB w wr) : Mine r e w wr (.slice none 0 0) ([] : List α) := ⟨OSl.nil e wr _, h⟩
theorem Mine.upd (h : Mine r e w wr v l) (hu : Upd NoB wr w2) : Mine r e w w2 v l :=
  ⟨(h.1.upd hu (fun _ _ h => h)).mono (fun b hb => ⟨hb.1, Nat.lt_of_lt_of_le hb.2 hu.size⟩), h.2.trans hu⟩
theorem Mine.own_ge (h : Mine r e w wr v l) (b : Nat) (hb : v.ownBlock = some b) : w.heap.size ≤ b := by
  obtain ⟨⟨_, _, hset, _⟩, _⟩ := h
  exact (hset b hb).1.resolve_left (fun h => h)
/-- A cell that was there stands, whatever turns of what is owned. -/
theorem Mine.cell_old (h : Mine r e w wr v l) {x : World} (hx : Upd (fun b => v.ownBlock = some b) wr x) {p : Addr} {u : Value} (hc : w.cell? p = some u) : x.cell? p = some u :=
  hx.cell (h.2.cell hc (fun h => h)) (fun hb => by have := h.own_ge _ hb; have := World.block_lt_of_cell? w p hc; omega)
theorem Mine.bd (h : Mine r e w wr v l) : Bd (grow NoB w wr) wr := Bd.grow NoB w wr
/-- The cells of the element at a place. -/
theorem RSl.cellN {S : Nat → Prop} {A : Option Addr} {n c : Nat} (h : RSl r w S (.slice A n c) l) (i : Nat) (hi : i < l.length) :
    ∃ g o cs, A = some ⟨g, o, none⟩ ∧ r.rep w S (l[i]'hi) cs ∧ (∀ j u, cs[j]? = some u → w.cell? ⟨g, o + i * r.sz + j, none⟩ = some u) ∧ S g := by
  obtain ⟨A', c', cs, e, h1, h2, h3, h4, h5⟩ := h
  cases e
  cases A with
  | none => have := h4 rfl; omega
  | some a =>
    obtain ⟨q1, q2, q3⟩ := h5 a rfl
    obtain ⟨g, o, sp⟩ := a
    simp only at q1
    subst q1
    obtain ⟨cc, hc1, hc2⟩ := Rows.at_ i (l[i]'hi) h3 (List.getElem?_eq_getElem hi)
    refine ⟨g, o, cc, rfl, hc1, fun j u hu => ?_, q2⟩
    have := q3 _ u (hc2 j u hu)
    rw [← Nat.add_assoc] at this
    exact this
theorem Rows.set1 (hsz : r.sz = 1) {S : Nat → Prop} {y : α} {u : Value} (hy : r.rep w S y [u]) : ∀ {l : List α} {cs : List Value} (i : Nat), Rows r w S l cs → Rows r w S (l.set i y) (cs.set i u)
  | [], _, _, h => by rw [show _ = [] from h]; simp [Rows]
  | x :: xs, _, 0, ⟨c, rest, e, hc, hr⟩ => by
    have hl := r.len hc
    rw [hsz] at hl
    match c, hl with
    | [c0], _ => exact ⟨[u], rest, by rw [e]; rfl, hy, hr⟩
  | x :: xs, _, i + 1, ⟨c, rest, e, hc, hr⟩ => by
    have hl := r.len hc
    rw [hsz] at hl
    match c, hl with
    | [c0], _ => exact ⟨[c0], rest.set i u, by rw [e]; rfl, hc, Rows.set1 hsz hy i hr⟩
theorem Mine.shape (h : Mine r e w wr v l) (h0 : 0 < l.length) : ∃ g cap, v = .slice (some ⟨g, 0, none⟩) l.length cap ∧ l.length ≤ cap ∧ cap ≤ maxLen ∧ w.heap.size ≤ g ∧ g < wr.heap.size ∧ ∀ j, wr.frozen? ⟨g, j, none⟩ = false := by
  obtain ⟨⟨cs, h1, h2, h3⟩, _⟩ := h
  rcases h1.2 with ⟨_, hn⟩ | ⟨g, cap, cur, rfl, hb, hg, hcap, hm, hsz, ht⟩
  · omega
  · exact ⟨g, cap, rfl, hcap, hm, (h2 g rfl).1.resolve_left (fun h => h), lt_of_heap hg, fun j => by simp [World.frozen?, hg]⟩
theorem Mine.store (hf : Flat r) (hsz : r.sz = 1) {g cap : Nat} (h : Mine r e w wr (.slice (some ⟨g, 0, none⟩) l.length cap) l) (i : Nat) {y : α} {u : Value} (hy : r.rep wr NoB y [u]) :
    Mine r e w (wr.setCell ⟨g, i, none⟩ u) (.slice (some ⟨g, 0, none⟩) l.length cap) (l.set i y) := by
  obtain ⟨⟨cs, h1, h2, h3⟩, hu⟩ := h
  have hst := h1.stored i u
  refine ⟨⟨cs.set i u, by rw [List.length_set]; exact hst.1, fun k hk => ?_, ?_⟩, hu.setCell (p := ⟨g, i, none⟩) (fun hlt => ?_) u⟩
  · exact ⟨(h2 k hk).1, Nat.lt_of_lt_of_le (h2 k hk).2 hst.2.size⟩
  · exact Rows.set1 hsz (hf hy _ _) i (Rows.flat hf h3 _ _)
  · have := (h2 g rfl).1.resolve_left (fun h => h)
    exact absurd hlt (by simp only; omega)
/-- The element at a place of a slice whose elements are one cell wide. -/
theorem RSl.cell1 {S : Nat → Prop} (hsz : r.sz = 1) {A : Option Addr} {n c : Nat} (h : RSl r w S (.slice A n c) l) (i : Nat) (hi : i < l.length) :
    ∃ g o u, A = some ⟨g, o, none⟩ ∧ r.rep w S (l[i]'hi) [u] ∧ w.cell? ⟨g, o + i, none⟩ = some u ∧ S g := by
  obtain ⟨A', c', cs, e, h1, h2, h3, h4, h5⟩ := h
  cases e
  cases A with
  | none => have := h4 rfl; omega
  | some a =>
    obtain ⟨q1, q2, q3⟩ := h5 a rfl
    obtain ⟨g, o, sp⟩ := a
    simp only at q1
    subst q1
    obtain ⟨cc, hc1, hc2⟩ := Rows.at_ i (l[i]'hi) h3 (List.getElem?_eq_getElem hi)
    have hl := r.len hc1
    rw [hsz] at hl
    match cc, hl with
    | [u], _ =>
      refine ⟨g, o, u, rfl, hc1, ?_, q2⟩
      have := hc2 0 u rfl
      rw [hsz, Nat.mul_one, Nat.add_zero] at this
      exact q3 i u this
end
section
variable {α : Type} {r : Rep α} {P : Program} {ops : Array Oper} {rest : List Oper} {o : Oper} {a : Act} {Q : Exit → Act → World → Prop}
/-- append(v, y): behind the box of y; what has turned since the box was made. -/
theorem app_one' {W : World} (hgd : o.guard = none) (s x : Operand) (t e : TypeId) (z : Value) (bytes : Nat)
    (ho : o.op = .call { callee := .builtin .append, args := #[s, x], argTypes := #[t, t] })
    (ht : P.underlying t = some (.slice e)) (hinfo : (P.info? e).map (fun i => (i.zero, i.size, i.bytes)) = some (some z, r.sz, bytes)) (hz : z.cells.size = r.sz) (hb0 : 0 < bytes)
    {S T : Nat → Prop} {v : Value} {l : List α} {y : α} {cs : Array Value} (hs : a.eval s = v) (hx : a.eval x = .slice (some ⟨W.heap.size, 0, none⟩) 1 1)
    (HO : OSl r e W S v l) (HB : Bd S W) (Hy : r.rep W T y cs.toList) (hT : ∀ b, T b → S b ∧ v.ownBlock ≠ some b) (hl : (l.length + 1) * bytes ≤ 140737488355328)
    (h : ∀ v1 w1, OSl r e w1 (grow S W w1) v1 (l ++ [y]) → Upd (fun b => v.ownBlock = some b) W w1 → Upd (fun b => v.ownBlock = some b) (W.alloc (.cells cs e)) w1 → wpList P ops Q rest (a.put o.dst v1) w1) :
    wpList P ops Q (o :: rest) a (W.alloc (.cells cs e)) := by
  obtain ⟨i0, hi, hzz⟩ := Option.map_eq_some_iff.1 hinfo
  simp only [Prod.mk.injEq] at hzz
  obtain ⟨hz0, hz1, hz2⟩ := hzz
  have hlen : l.length + 1 ≤ 140737488355328 := Nat.le_trans (Nat.le_mul_of_pos_right _ hb0) hl
  have u0 : Upd (fun b => v.ownBlock = some b) W (W.alloc (.cells cs e)) := (Upd.refl _ W).alloc _
  have HO' : OSl r e (W.alloc (.cells cs e)) S v l := HO.keep (fun b hb hl => ⟨hb, Below.heap_alloc W _ b hl⟩) (fun _ hb => hb)
  have Hy' : r.rep (W.alloc (.cells cs e)) T y cs.toList := r.keep Hy (fun b hb hl => ⟨hb, Below.heap_alloc W _ b hl⟩) (fun _ hb => hb)
  have HB' : Bd S (W.alloc (.cells cs e)) := HB.upd u0
  obtain ⟨c0, hown0, _⟩ := id HO'
  refine wpList_append_own_at (W.alloc (.cells cs e)) hgd s x t ho 0 e i0 z r.sz bytes ht hi hz0 hz1 hz2 hz r.pos v l.length c0 hs hown0 ⟨W.heap.size, 0, none⟩ 1 1 cs.toList hx (by rw [r.len Hy]; omega)
    (World.news_of_block (cs := cs) (t := e) (fr := (0, 0)) (heap_alloc_new W _)) (r.one Hy) (by simp only [maxLen]; omega) hl (Nat.zero_le _) ?_
  intro v1 w1 hown hg _ hat
  have key : ∀ cs', (W.alloc (.cells cs e)).ownsRow 0 e r.sz v l.length cs' → w1.ownsRow 0 e r.sz v1 (l.length + 1) (cs' ++ cs.toList) := by
    intro cs' hc'
    obtain rfl : cs' = c0 := by
      rcases hown0.2 with ⟨rfl, hn⟩ | ⟨g, cap, cur, rfl, _, hgg, _, _, _, htake⟩
      · have a1 := hown0.1
        have a2 := hc'.1
        rw [hn, Nat.zero_mul] at a1 a2
        rw [List.eq_nil_of_length_eq_zero a1, List.eq_nil_of_length_eq_zero a2]
      · rcases hc'.2 with ⟨e', _⟩ | ⟨g', cap', cur', e', _, hgg', _, _, _, htake'⟩
        · cases e'
        · cases e'
          rw [hgg] at hgg'
          cases hgg'
          rw [← htake, ← htake']
    exact hown
  have fin := OSl.appended (r := r) (l' := [y]) (by simp) HO' HB' (Rows.single Hy') hT key hg hat
  have gr : ∀ b, grow S (W.alloc (.cells cs e)) w1 b → grow S W w1 b := fun b hb => ⟨hb.1.imp id (fun h5 => Nat.le_trans u0.size h5), hb.2⟩
  exact h v1 w1 (fin.mono gr) (u0.then (Upd.of_grown hg (fun k hk => hk)) (fun _ _ h => h)) (Upd.of_grown hg (fun k hk => hk))

end
end Go.Proofs.Ytobfolkcpfaplaa.Kit
