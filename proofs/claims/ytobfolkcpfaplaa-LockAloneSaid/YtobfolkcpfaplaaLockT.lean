/- Who holds what: the program's table and the document's, side by side in memory. -/
import Derived.Test.YtobfolkcpfaplaaLockP
namespace Go.Proofs.Ytobfolkcpfaplaa
open Go.RowKit Kit
set_option linter.unusedVariables false

open Classical in
/-- All blocks of w that are not in S. -/
noncomputable def outs (S : Nat → Prop) (w : World) : List Nat := (List.range w.heap.size).filter fun b => decide (¬ S b)
theorem mem_outs {S : Nat → Prop} {w : World} {b : Nat} : b ∈ outs S w ↔ b < w.heap.size ∧ ¬ S b := by
  unfold outs
  simp
/-- The program's table at p, the document's at q. -/
structure Two (w0 w : World) (xs : List Nat) (p q : Nat) (l : List Span) (last : Int) (L : List Rwl) (lr : Int) (St Sr : Nat → Prop) (v vr : Value) : Prop where
  hp : w.heap[p]? = some (.cells #[v, .int .i64 last] 102 (0, 0))
  hq : w.heap[q]? = some (.cells #[vr, .int .i64 lr] 28 (0, 0))
  op : OSl Rep.span 106 w St v l
  oq : OSl Rep.rwl 39 w Sr vr L
  sep : Sep St Sr
  tp : ¬ St p
  tq : ¬ St q
  rp : ¬ Sr p
  rq : ¬ Sr q
  ne : p ≠ q
  st : ∀ b, St b → w0.heap.size ≤ b ∧ b < w.heap.size
  sr : ∀ b, Sr b → w0.heap.size ≤ b ∧ b < w.heap.size
  bp : w0.heap.size ≤ p
  bq : w0.heap.size ≤ q
  u : Upd NoB w0 w
  bx : ∀ b ∈ xs, b < w.heap.size ∧ ¬ St b ∧ ¬ Sr b ∧ b ≠ p ∧ b ≠ q
def Tw (w0 w : World) (xs : List Nat) (p q : Nat) (l : List Span) (last : Int) (L : List Rwl) (lr : Int) : Prop := ∃ St Sr v vr, Two w0 w xs p q l last L lr St Sr v vr
section
variable {w0 w w' : World} {xs : List Nat} {p q : Nat} {l : List Span} {last lr : Int} {L : List Rwl}
theorem Tw.keep (h : Tw w0 w xs p q l last L lr) (u : Upd NoB w w') : Tw w0 w' xs p q l last L lr := by
  obtain ⟨St, Sr, v, vr, h⟩ := h
  exact ⟨St, Sr, v, vr, u.heap h.hp (fun h => h), u.heap h.hq (fun h => h), h.op.upd u (fun _ _ h => h), h.oq.upd u (fun _ _ h => h), h.sep, h.tp, h.tq, h.rp, h.rq, h.ne,
    fun b hb => ⟨(h.st b hb).1, Nat.lt_of_lt_of_le (h.st b hb).2 u.size⟩, fun b hb => ⟨(h.sr b hb).1, Nat.lt_of_lt_of_le (h.sr b hb).2 u.size⟩, h.bp, h.bq, h.u.trans u, fun b hb => ⟨Nat.lt_of_lt_of_le (h.bx b hb).1 u.size, (h.bx b hb).2⟩⟩
theorem Tw.upd (h : Tw w0 w xs p q l last L lr) : Upd NoB w0 w := by
  obtain ⟨_, _, _, _, h⟩ := h
  exact h.u
theorem new_of {S : Nat → Prop} (hs : ∀ b, S b → w0.heap.size ≤ b ∧ b < w.heap.size) : ∀ b, S b → New w0 w (outs S w) b := fun b hb => ⟨(hs b hb).1, (hs b hb).2, fun hm => (mem_outs.1 hm).2 hb⟩
theorem of_new {S : Nat → Prop} {b : Nat} (h : New w0 w (outs S w) b) : S b := by
  by_cases hs : S b
  · exact hs
  · exact absurd (mem_outs.2 ⟨h.2.1, hs⟩) h.2.2
theorem of_new' {S : Nat → Prop} {b : Nat} (h : New w0 w' (outs S w) b) (hl : b < w.heap.size) : S b := by
  by_cases hs : S b
  · exact hs
  · exact absurd (mem_outs.2 ⟨hl, hs⟩) h.2.2
theorem Tw.lk (h : Tw w0 w xs p q l last L lr) : ∃ ys, Lk w0 w ys p l last := by
  obtain ⟨St, Sr, v, vr, h⟩ := h
  exact ⟨outs St w, v, h.hp, h.op.mono (new_of h.st)⟩
theorem Tw.rt (h : Tw w0 w xs p q l last L lr) : ∃ ys, RTb w0 w ys q L lr := by
  obtain ⟨St, Sr, v, vr, h⟩ := h
  exact ⟨outs Sr w, vr, h.hq, h.oq.mono (new_of h.sr)⟩
/-- A step of the program's table. -/
theorem Two.left {St Sr : Nat → Prop} {v vr : Value} (h : Two w0 w xs p q l last L lr St Sr v vr) {l' : List Span} {last' : Int} (hk : Lk w0 w' (outs St w) p l' last') (hu : Upd (fun b => b = p ∨ New w0 w (outs St w) b) w w') : Tw w0 w' xs p q l' last' L lr ∧ Upd (fun b => w0.heap.size ≤ b ∧ b ∉ xs) w w' := by
  obtain ⟨v', h1, h2⟩ := hk
  have hz := hu.size
  have sepF : Sep Sr (fun b => b = p ∨ New w0 w (outs St w) b) := fun b hb hf => by
    rcases hf with e | e
    · exact h.rp (e ▸ hb)
    · exact h.sep b (of_new e) hb
  refine ⟨⟨New w0 w' (outs St w), Sr, v', vr, h1, hu.heap h.hq (fun hf => ?_), h2, h.oq.upd hu sepF, fun b hb hr => ?_, fun hb => ?_, fun hb => ?_, h.rp, h.rq, h.ne, fun b hb => ⟨hb.1, hb.2.1⟩,
    fun b hb => ⟨(h.sr b hb).1, Nat.lt_of_lt_of_le (h.sr b hb).2 hz⟩, h.bp, h.bq, h.u.then hu (fun i hi e => ?_), fun b hb => ?_⟩, hu.mono (fun b _ hf => ⟨?_, fun hm => ?_⟩)⟩
  · rcases hf with e | e
    · exact h.ne e.symm
    · exact h.tq (of_new e)
  · exact h.sep b (of_new' hb (h.sr b hr).2) hr
  · exact h.tp (of_new' hb (lt_of_heap h.hp))
  · exact h.tq (of_new' hb (lt_of_heap h.hq))
  · rcases e with e | e
    · have := h.bp; omega
    · have := e.1; omega
  · obtain ⟨x1, x2, x3, x4, x5⟩ := h.bx b hb
    exact ⟨Nat.lt_of_lt_of_le x1 hz, fun hn => x2 (of_new' hn x1), x3, x4, x5⟩
  · rcases hf with e | e
    · rw [e]; exact h.bp
    · exact e.1
  · obtain ⟨x1, x2, x3, x4, x5⟩ := h.bx b hm
    rcases hf with e | e
    · exact x4 e
    · exact x2 (of_new e)
/-- A step of the document's table. -/
theorem Two.right {St Sr : Nat → Prop} {v vr : Value} (h : Two w0 w xs p q l last L lr St Sr v vr) {L' : List Rwl} {lr' : Int} (hk : RTb w0 w' (outs Sr w) q L' lr') (hu : Upd (fun b => b = q ∨ New w0 w (outs Sr w) b) w w') : Tw w0 w' xs p q l last L' lr' ∧ Upd (fun b => w0.heap.size ≤ b ∧ b ∉ xs) w w' := by
  obtain ⟨v', h1, h2⟩ := hk
  have hz := hu.size
  have sepF : Sep St (fun b => b = q ∨ New w0 w (outs Sr w) b) := fun b hb hf => by
    rcases hf with e | e
    · exact h.tq (e ▸ hb)
    · exact h.sep b hb (of_new e)
  refine ⟨⟨St, New w0 w' (outs Sr w), v, v', hu.heap h.hp (fun hf => ?_), h1, h.op.upd hu sepF, h2, fun b hb hr => ?_, h.tp, h.tq, fun hb => ?_, fun hb => ?_, h.ne,
    fun b hb => ⟨(h.st b hb).1, Nat.lt_of_lt_of_le (h.st b hb).2 hz⟩, fun b hb => ⟨hb.1, hb.2.1⟩, h.bp, h.bq, h.u.then hu (fun i hi e => ?_), fun b hb => ?_⟩, hu.mono (fun b _ hf => ⟨?_, fun hm => ?_⟩)⟩
  · rcases hf with e | e
    · exact h.ne e
    · exact h.rp (of_new e)
  · exact h.sep b hb (of_new' hr (h.st b hb).2)
  · exact h.rp (of_new' hb (lt_of_heap h.hp))
  · exact h.rq (of_new' hb (lt_of_heap h.hq))
  · rcases e with e | e
    · have := h.bq; omega
    · have := e.1; omega
  · obtain ⟨x1, x2, x3, x4, x5⟩ := h.bx b hb
    exact ⟨Nat.lt_of_lt_of_le x1 hz, x2, fun hn => x3 (of_new' hn x1), x4, x5⟩
  · rcases hf with e | e
    · rw [e]; exact h.bq
    · exact e.1
  · obtain ⟨x1, x2, x3, x4, x5⟩ := h.bx b hm
    rcases hf with e | e
    · exact x5 e
    · exact x3 (of_new e)
theorem two_take {S T : Nat → Prop} (cl sq a : Int) (vr vw : Value) (rl wl : List ByteArray) (h : Tw w0 w xs p q l last L lr) (hr : RSl Rep.str w S vr rl) (hw : RSl Rep.str w T vw wl) (hl : l.length ≤ 1000) (hrl : rl.length ≤ 1000) (hwl : wl.length ≤ 1000) :
    Calls Try.prog 12 #[.pointer (some ⟨p, 0, none⟩), .agg #[.int .i64 cl, .int .u64 sq], .int .i64 a, vr, vw] w fun e w' => e = .returned (.int .i64 (takeL l last cl sq a rl wl).1) ∧ Tw w0 w' xs p q (takeL l last cl sq a rl wl).2.1 (takeL l last cl sq a rl wl).2.2 L lr ∧ Upd (fun b => w0.heap.size ≤ b ∧ b ∉ xs) w w' := by
  obtain ⟨St, Sr, v, vr', h⟩ := h
  refine (take_any w0 (outs St w) p l last cl sq a vr vw rl wl w ⟨v, h.hp, h.op.mono (new_of h.st)⟩ hr hw (mem_outs.2 ⟨lt_of_heap h.hp, h.tp⟩) (fun x hx => (mem_outs.1 hx).1) h.u.size hl hrl hwl).mono ?_
  rintro e w' ⟨rfl, hk, hu⟩
  exact ⟨rfl, (h.left hk hu).1, (h.left hk hu).2⟩
theorem two_free (cl sq a : Int) (h : Tw w0 w xs p q l last L lr) (hl : l.length ≤ 1000) :
    Calls Try.prog 14 #[.pointer (some ⟨p, 0, none⟩), .agg #[.int .i64 cl, .int .u64 sq], .int .i64 a] w fun e w' => e = .returned (.int .i64 (freeL l last cl sq a).1) ∧ Tw w0 w' xs p q (freeL l last cl sq a).2.1 (freeL l last cl sq a).2.2 L lr ∧ Upd (fun b => w0.heap.size ≤ b ∧ b ∉ xs) w w' := by
  obtain ⟨St, Sr, v, vr', h⟩ := h
  refine (free_any w0 (outs St w) p l last cl sq a w ⟨v, h.hp, h.op.mono (new_of h.st)⟩ (mem_outs.2 ⟨lt_of_heap h.hp, h.tp⟩) (fun x hx => (mem_outs.1 hx).1) h.u.size hl).mono ?_
  rintro e w' ⟨rfl, hk, hu⟩
  exact ⟨rfl, (h.left hk hu).1, (h.left hk hu).2⟩
theorem two_rtake {S T : Nat → Prop} (cl sq a : Int) (vr vw : Value) (rl wl : List ByteArray) (h : Tw w0 w xs p q l last L lr) (hr : RSl Rep.str w S vr rl) (hw : RSl Rep.str w T vw wl) (hl : L.length ≤ 10000) (hrl : rl.length ≤ 1000) (hwl : wl.length ≤ 1000) :
    Calls Try.prog 19 #[.pointer (some ⟨q, 0, none⟩), .agg #[.int .i64 cl, .int .u64 sq], .int .i64 a, vr, vw] w fun e w' => e = .returned (.int .i64 (rtake L lr cl sq a rl wl).1) ∧ Tw w0 w' xs p q l last (rtake L lr cl sq a rl wl).2.1 (rtake L lr cl sq a rl wl).2.2 ∧ Upd (fun b => w0.heap.size ≤ b ∧ b ∉ xs) w w' := by
  obtain ⟨St, Sr, v, vr', h⟩ := h
  refine (rtake_any w0 (outs Sr w) q L lr cl sq a vr vw rl wl w ⟨vr', h.hq, h.oq.mono (new_of h.sr)⟩ hr hw (mem_outs.2 ⟨lt_of_heap h.hq, h.rq⟩) (fun x hx => (mem_outs.1 hx).1) h.u.size hl hrl hwl).mono ?_
  rintro e w' ⟨rfl, hk, hu⟩
  exact ⟨rfl, (h.right hk hu).1, (h.right hk hu).2⟩
theorem two_rfree (cl sq a : Int) (h : Tw w0 w xs p q l last L lr) (hl : L.length ≤ 10000) :
    Calls Try.prog 15 #[.pointer (some ⟨q, 0, none⟩), .agg #[.int .i64 cl, .int .u64 sq], .int .i64 a] w fun e w' => e = .returned (.int .i64 (rfree L lr cl sq a).1) ∧ Tw w0 w' xs p q l last (rfree L lr cl sq a).2.1 (rfree L lr cl sq a).2.2 ∧ Upd (fun b => w0.heap.size ≤ b ∧ b ∉ xs) w w' := by
  obtain ⟨St, Sr, v, vr', h⟩ := h
  refine (rfree_any w0 (outs Sr w) q L lr cl sq a w ⟨vr', h.hq, h.oq.mono (new_of h.sr)⟩ (mem_outs.2 ⟨lt_of_heap h.hq, h.rq⟩) (fun x hx => (mem_outs.1 hx).1) h.u.size hl).mono ?_
  rintro e w' ⟨rfl, hk, hu⟩
  exact ⟨rfl, (h.right hk hu).1, (h.right hk hu).2⟩
/-- A new block is told apart. -/
theorem Tw.add (h : Tw w0 w xs p q l last L lr) (o : Obj) : Tw w0 (w.alloc o) (w.heap.size :: xs) p q l last L lr := by
  obtain ⟨St, Sr, v, vr, h⟩ := h
  have u := (Upd.refl NoB w).alloc o
  refine ⟨St, Sr, v, vr, u.heap h.hp (fun h => h), u.heap h.hq (fun h => h), h.op.upd u (fun _ _ h => h), h.oq.upd u (fun _ _ h => h), h.sep, h.tp, h.tq, h.rp, h.rq, h.ne,
    fun b hb => ⟨(h.st b hb).1, Nat.lt_of_lt_of_le (h.st b hb).2 u.size⟩, fun b hb => ⟨(h.sr b hb).1, Nat.lt_of_lt_of_le (h.sr b hb).2 u.size⟩, h.bp, h.bq, h.u.trans u, fun b hb => ?_⟩
  rcases List.mem_cons.1 hb with rfl | hb
  · exact ⟨by simp, fun hs => Nat.lt_irrefl _ (h.st _ hs).2, fun hs => Nat.lt_irrefl _ (h.sr _ hs).2, fun e => by have := lt_of_heap h.hp; omega, fun e => by have := lt_of_heap h.hq; omega⟩
  · exact ⟨Nat.lt_of_lt_of_le (h.bx b hb).1 u.size, (h.bx b hb).2⟩
theorem Tw.sub {ys : List Nat} (h : Tw w0 w xs p q l last L lr) (hs : ∀ b ∈ ys, b ∈ xs) : Tw w0 w ys p q l last L lr := by
  obtain ⟨St, Sr, v, vr, h⟩ := h
  exact ⟨St, Sr, v, vr, h.hp, h.hq, h.op, h.oq, h.sep, h.tp, h.tq, h.rp, h.rq, h.ne, h.st, h.sr, h.bp, h.bq, h.u, fun b hb => h.bx b (hs b hb)⟩
theorem Tw.lt (h : Tw w0 w xs p q l last L lr) : p < w.heap.size ∧ q < w.heap.size := by
  obtain ⟨St, Sr, v, vr, h⟩ := h
  exact ⟨lt_of_heap h.hp, lt_of_heap h.hq⟩
/-- Two tables that are new. -/
theorem tw_new {w1 : World} (hp : w0.heap.size ≤ p) (h : Lk w0 w1 [p] p [] 0) (hu : Upd NoB w0 w1) : Tw w0 (w1.alloc (.cells #[.slice none 0 0, .int .i64 0] 28)) [] p w1.heap.size [] 0 [] 0 := by
  obtain ⟨v, h1, h2⟩ := h
  have u := (Upd.refl NoB w1).alloc (.cells #[.slice none 0 0, .int .i64 0] 28)
  have hlt := lt_of_heap h1
  exact ⟨New w0 w1 [p], NoB, v, .slice none 0 0, u.heap h1 (fun h => h), heap_alloc_new _ _, h2.upd u (fun _ _ h => h), OSl.nil _ _ _, fun _ _ h => h, fun h => h.2.2 (by simp), fun h => Nat.lt_irrefl _ h.2.1, fun h => h, fun h => h, by omega,
    fun b hb => ⟨hb.1, Nat.lt_of_lt_of_le hb.2.1 u.size⟩, fun b hb => hb.elim, hp, hu.size, hu.trans u, fun b hb => absurd hb List.not_mem_nil⟩
end
end Go.Proofs.Ytobfolkcpfaplaa
