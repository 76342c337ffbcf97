/- Words of this prover's own on memory: which blocks may have turned (Upd), what a row of cells tells (Rep, Rows), slices that are read (RSl) and slices that are owned (OSl). No program in sight. -/
import Derived.WalkKit
import Derived.WalkSpells
import Derived.Maps.AppendAt
import Derived.Deep.AppendLies
import Derived.Deep.Draws
import Derived.Laws.AppendOwnNone
import Derived.Lib.AppendStr
import Derived.Laws.BytesArg
namespace Go.Proofs.Ytobfolkcpfaplaa.Kit
open Go.RowKit
set_option linter.unusedVariables false

/-! ### 1. Sets of blocks; what has turned -/
def NoB : Nat → Prop := fun _ => False
/-- S, and what was made between w and w'. -/
def grow (S : Nat → Prop) (w w' : World) : Nat → Prop := fun b => (S b ∨ w.heap.size ≤ b) ∧ b < w'.heap.size
/-- All of S is there. -/
def Bd (S : Nat → Prop) (w : World) : Prop := ∀ b, S b → b < w.heap.size
def Sep (S T : Nat → Prop) : Prop := ∀ b, S b → T b → False

/-- Blocks that are not in F are as they were. -/
structure Upd (F : Nat → Prop) (w w' : World) : Prop where
  os : w'.os = w.os
  tape : w'.tape = w.tape
  output : w'.output = w.output
  size : w.heap.size ≤ w'.heap.size
  block : ∀ k, k < w.heap.size → ¬ F k → w'.heap[k]? = w.heap[k]?

theorem Upd.refl (F : Nat → Prop) (w : World) : Upd F w w := ⟨rfl, rfl, rfl, Nat.le_refl _, fun _ _ _ => rfl⟩
theorem Upd.trans {F : Nat → Prop} {a b c : World} (h : Upd F a b) (k : Upd F b c) : Upd F a c :=
  ⟨k.os.trans h.os, k.tape.trans h.tape, k.output.trans h.output, Nat.le_trans h.size k.size, fun i hi hf => (k.block i (Nat.lt_of_lt_of_le hi h.size) hf).trans (h.block i hi hf)⟩
/-- A second step, whose own set counts only where it was there ahead of the first one. -/
theorem Upd.then {F G : Nat → Prop} {a b c : World} (h : Upd F a b) (k : Upd G b c) (hg : ∀ i, i < a.heap.size → G i → F i) : Upd F a c :=
  ⟨k.os.trans h.os, k.tape.trans h.tape, k.output.trans h.output, Nat.le_trans h.size k.size, fun i hi hf => (k.block i (Nat.lt_of_lt_of_le hi h.size) (fun g => hf (hg i hi g))).trans (h.block i hi hf)⟩
theorem Upd.mono {F G : Nat → Prop} {a b : World} (h : Upd F a b) (hg : ∀ i, i < a.heap.size → F i → G i) : Upd G a b :=
  ⟨h.os, h.tape, h.output, h.size, fun i hi hf => h.block i hi (fun f => hf (hg i hi f))⟩
theorem Upd.drew {F : Nat → Prop} {a w : World} (h : Upd F a w) : Upd F a w.drew := ⟨h.os, h.tape, h.output, h.size, h.block⟩
theorem Upd.drewN {F : Nat → Prop} {a w : World} (h : Upd F a w) (n : Nat) : Upd F a (w.drewN n) := ⟨h.os, h.tape, h.output, h.size, h.block⟩
theorem Upd.alloc {F : Nat → Prop} {a w : World} (h : Upd F a w) (o : Obj) : Upd F a (w.alloc o) :=
  ⟨h.os, h.tape, h.output, Nat.le_trans h.size (by simp), fun k hk hf => (Below.heap_alloc w o k (Nat.lt_of_lt_of_le hk h.size)).trans (h.block k hk hf)⟩
theorem Upd.setCell {F : Nat → Prop} {a w : World} (h : Upd F a w) {p : Addr} (hp : p.block < a.heap.size → F p.block) (u : Value) : Upd F a (w.setCell p u) :=
  ⟨h.os, h.tape, h.output, Nat.le_trans h.size (by simp [World.setCell]), fun k hk hf => (Below.heap_setCell w p u k (fun e => hf (e ▸ hp (e ▸ hk)))).trans (h.block k hk hf)⟩
theorem Upd.below {F : Nat → Prop} {w w' : World} (h : Upd F w w') (hf : ∀ b, b < w.heap.size → ¬ F b) : Below w.heap.size w w' := ⟨h.os, h.tape, h.output, h.size, fun k hk => h.block k hk (hf k hk)⟩
theorem Upd.of_below {w w' : World} (h : Below w.heap.size w w') (F : Nat → Prop) : Upd F w w' := ⟨h.os, h.tape, h.output, h.size, fun k hk _ => h.block k hk⟩
theorem Upd.of_grown {w w' : World} {row : Option Nat} (h : w.grownBy w' row) {F : Nat → Prop} (hr : ∀ k, row = some k → F k) : Upd F w w' :=
  ⟨h.os, h.tape, h.output, h.size, fun k hk hf => h.block k hk (fun e => hf (hr k e.symm))⟩
theorem Upd.cell {F : Nat → Prop} {w w' : World} (h : Upd F w w') {a : Addr} {v : Value} (hc : w.cell? a = some v) (hf : ¬ F a.block) : w'.cell? a = some v :=
  (World.cell?_of_block (h.block a.block (World.block_lt_of_cell? w a hc) hf)).trans hc
theorem lt_of_heap {w : World} {b : Nat} {o : Obj} (h : w.heap[b]? = some o) : b < w.heap.size := (Array.getElem?_eq_some_iff.1 h).1
theorem Upd.heap {F : Nat → Prop} {w w' : World} (h : Upd F w w') {b : Nat} {o : Obj} (hc : w.heap[b]? = some o) (hf : ¬ F b) : w'.heap[b]? = some o :=
  (h.block b (lt_of_heap hc) hf).trans hc

theorem grow_new {w w1 w2 : World} (h : w.heap.size ≤ w1.heap.size) : ∀ b, grow (grow NoB w w1) w1 w2 b → grow NoB w w2 b := fun b hb => by
  refine ⟨.inr ?_, hb.2⟩
  rcases hb.1 with h1 | h1
  · exact h1.1.resolve_left (fun h => h)
  · omega
theorem grow_ge {w w1 : World} : ∀ b, grow NoB w w1 b → w.heap.size ≤ b := fun b hb => hb.1.resolve_left (fun h => h)
theorem Sep.grow {S T : Nat → Prop} {w w' : World} (h : Sep S T) (ht : Bd T w) : Sep (grow S w w') T := fun b hs htb => by
  rcases hs.1 with h1 | h1
  · exact h b h1 htb
  · have := ht b htb
    omega
theorem Sep.symm {S T : Nat → Prop} (h : Sep S T) : Sep T S := fun b a c => h b c a
theorem sep_one {S : Nat → Prop} {p : Nat} (h : ¬ S p) : Sep S (fun b => b = p) := fun b hb e => h (by rw [← show b = p from e]; exact hb)
theorem Bd.grow (S : Nat → Prop) (w w' : World) : Bd (grow S w w') w' := fun _ h => h.2
theorem Bd.upd {F S : Nat → Prop} {w w' : World} (h : Bd S w) (u : Upd F w w') : Bd S w' := fun b hb => Nat.lt_of_lt_of_le (h b hb) u.size

/-! ### 2. What cells tell -/
/-- A value of Lean's type α as `sz` cells; all memory that it reaches lies in blocks of a set. -/
structure Rep (α : Type) where
  sz : Nat
  pos : 0 < sz
  rep : World → (Nat → Prop) → α → List Value → Prop
  len : ∀ {w S x cs}, rep w S x cs → cs.length = sz
  one : ∀ {w S x cs}, rep w S x cs → ∀ u ∈ cs, u.oneCell' = true
  keep : ∀ {w w' S S' x cs}, rep w S x cs → (∀ b, S b → b < w.heap.size → S' b ∧ w'.heap[b]? = w.heap[b]?) → (∀ b, S b → S' b) → rep w' S' x cs

def Rep.int (k : IntKind) : Rep Int where
  sz := 1
  pos := by decide
  rep _ _ x cs := cs = [.int k x] ∧ (Lit.int k x).wf = true
  len h := by rw [h.1]; rfl
  one h := by rw [h.1]; intro u hu; simp at hu; subst hu; rfl
  keep h _ _ := h
def Rep.bool : Rep Bool where
  sz := 1
  pos := by decide
  rep _ _ x cs := cs = [.bool x]
  len h := by rw [h]; rfl
  one h := by rw [h]; intro u hu; simp at hu; subst hu; rfl
  keep h _ _ := h
def Rep.byte : Rep UInt8 where
  sz := 1
  pos := by decide
  rep _ _ x cs := cs = [.int .u8 (x.toNat : Int)]
  len h := by rw [h]; rfl
  one h := by rw [h]; intro u hu; simp at hu; subst hu; rfl
  keep h _ _ := h
def Rep.str : Rep ByteArray where
  sz := 1
  pos := by decide
  rep _ _ x cs := cs = [.string x] ∧ x.size ≤ maxLen
  len h := by rw [h.1]; rfl
  one h := by rw [h.1]; intro u hu; simp at hu; subst hu; rfl
  keep h _ _ := h

section
variable {α : Type} (r : Rep α)
/-- The cells of a list's elements, one behind the other. -/
def Rows (w : World) (S : Nat → Prop) : List α → List Value → Prop
  | [], cs => cs = []
  | x :: xs, cs => ∃ c rest, cs = c ++ rest ∧ r.rep w S x c ∧ Rows w S xs rest

variable {r}
theorem Rows.len {w : World} {S : Nat → Prop} : ∀ {l : List α} {cs : List Value}, Rows r w S l cs → cs.length = l.length * r.sz
  | [], cs, h => by rw [show cs = [] from h]; simp
  | x :: xs, cs, ⟨c, rest, e, hc, hr⟩ => by rw [e, List.length_append, r.len hc, Rows.len hr, List.length_cons, Nat.add_mul]; omega
theorem Rows.one {w : World} {S : Nat → Prop} : ∀ {l : List α} {cs : List Value}, Rows r w S l cs → ∀ u ∈ cs, u.oneCell' = true
  | [], cs, h => by rw [h]; simp
  | x :: xs, cs, ⟨c, rest, e, hc, hr⟩ => by
    intro u hu
    rw [e, List.mem_append] at hu
    exact hu.elim (r.one hc u) (Rows.one hr u)
theorem Rows.keep {w w' : World} {S S' : Nat → Prop} : ∀ {l : List α} {cs : List Value}, Rows r w S l cs → (∀ b, S b → b < w.heap.size → S' b ∧ w'.heap[b]? = w.heap[b]?) → (∀ b, S b → S' b) → Rows r w' S' l cs
  | [], cs, h, _, _ => h
  | x :: xs, cs, ⟨c, rest, e, hc, hr⟩, k, k' => ⟨c, rest, e, r.keep hc k k', Rows.keep hr k k'⟩
theorem Rows.append {w : World} {S : Nat → Prop} : ∀ {l l' : List α} {cs cs' : List Value}, Rows r w S l cs → Rows r w S l' cs' → Rows r w S (l ++ l') (cs ++ cs')
  | [], l', cs, cs', h, h' => by rw [h]; exact h'
  | x :: xs, l', cs, cs', ⟨c, rest, e, hc, hr⟩, h' => ⟨c, rest ++ cs', by rw [e, List.append_assoc], hc, Rows.append hr h'⟩
theorem Rows.single {w : World} {S : Nat → Prop} {x : α} {cs : List Value} (h : r.rep w S x cs) : Rows r w S [x] cs := ⟨cs, [], by simp, h, rfl⟩
/-- The element at a place, and where its cells stand. -/
theorem Rows.at_ {w : World} {S : Nat → Prop} : ∀ {l : List α} {cs : List Value} (i : Nat) (x : α), Rows r w S l cs → l[i]? = some x →
    ∃ c, r.rep w S x c ∧ ∀ j u, c[j]? = some u → cs[i * r.sz + j]? = some u
  | [], _, i, x, _, h => by simp at h
  | y :: ys, cs, 0, x, ⟨c, rest, e, hc, hr⟩, h => by
    simp only [List.getElem?_cons_zero, Option.some.injEq] at h
    subst h
    refine ⟨c, hc, fun j u hu => ?_⟩
    rw [e, Nat.zero_mul, Nat.zero_add, List.getElem?_append_left (List.getElem?_eq_some_iff.1 hu).1]
    exact hu
  | y :: ys, cs, i + 1, x, ⟨c, rest, e, hc, hr⟩, h => by
    simp only [List.getElem?_cons_succ] at h
    obtain ⟨c', h1, h2⟩ := Rows.at_ i x hr h
    refine ⟨c', h1, fun j u hu => ?_⟩
    have hl := r.len hc
    rw [e, List.getElem?_append_right (by rw [hl, Nat.add_mul]; omega), hl, show (i + 1) * r.sz + j - r.sz = i * r.sz + j by rw [Nat.add_mul]; omega]
    exact h2 j u hu
theorem Rows.take {w : World} {S : Nat → Prop} : ∀ {l : List α} {cs : List Value} (n : Nat), Rows r w S l cs → Rows r w S (l.take n) (cs.take (n * r.sz))
  | [], cs, n, h => by rw [show cs = [] from h]; simp [Rows]
  | y :: ys, cs, 0, _ => by simp [Rows]
  | y :: ys, cs, n + 1, ⟨c, rest, e, hc, hr⟩ => by
    refine ⟨c, rest.take (n * r.sz), ?_, hc, Rows.take n hr⟩
    rw [e, ← r.len hc, Nat.add_mul, List.take_append, List.take_of_length_le (by omega)]
    congr 1
    congr 1
    omega
theorem Rows.drop {w : World} {S : Nat → Prop} : ∀ {l : List α} {cs : List Value} (n : Nat), Rows r w S l cs → Rows r w S (l.drop n) (cs.drop (n * r.sz))
  | [], cs, n, h => by rw [show cs = [] from h]; simp [Rows]
  | y :: ys, cs, 0, h => by simpa using h
  | y :: ys, cs, n + 1, ⟨c, rest, e, hc, hr⟩ => by
    have := Rows.drop n hr
    rw [e, List.drop_succ_cons, ← r.len hc, Nat.add_mul, List.drop_append, List.drop_eq_nil_of_le (as := c) (by omega), List.nil_append]
    rw [show n * c.length + 1 * c.length - c.length = n * c.length by omega, r.len hc]
    exact this

variable (r)
/-- A slice that is read: nil, empty and other slices alike. -/
def RSl (w : World) (S : Nat → Prop) (v : Value) (l : List α) : Prop :=
  ∃ A c cs, v = .slice A l.length c ∧ l.length ≤ c ∧ c ≤ maxLen ∧ Rows r w S l cs ∧ (A = none → c = 0) ∧
    ∀ a, A = some a → a.spot = none ∧ S a.block ∧ ∀ j u, cs[j]? = some u → w.cell? ⟨a.block, a.off + j, none⟩ = some u
/-- A slice that is owned: nil, or the head of a block whose spare room is nobody else's; what its elements reach lies elsewhere. -/
def OSl (e : TypeId) (w : World) (S : Nat → Prop) (v : Value) (l : List α) : Prop :=
  ∃ cs, w.ownsRow 0 e r.sz v l.length cs ∧ (∀ k, v.ownBlock = some k → S k) ∧ Rows r w (fun b => S b ∧ v.ownBlock ≠ some b) l cs
variable {r}

theorem RSl.keep {w w' : World} {S S' : Nat → Prop} {v : Value} {l : List α} (h : RSl r w S v l) (k : ∀ b, S b → b < w.heap.size → S' b ∧ w'.heap[b]? = w.heap[b]?) (k' : ∀ b, S b → S' b) : RSl r w' S' v l := by
  obtain ⟨A, c, cs, e, h1, h2, h3, h4, h5⟩ := h
  refine ⟨A, c, cs, e, h1, h2, h3.keep k k', h4, fun a ha => ?_⟩
  obtain ⟨g1, g2, g3⟩ := h5 a ha
  refine ⟨g1, k' _ g2, fun j u hu => ?_⟩
  have hc := g3 j u hu
  exact (World.cell?_of_block (w := w) (a := ⟨a.block, a.off + j, none⟩) (k a.block g2 (World.block_lt_of_cell? w ⟨a.block, a.off + j, none⟩ hc)).2).trans hc
theorem RSl.upd {w w' : World} {F S : Nat → Prop} {v : Value} {l : List α} (h : RSl r w S v l) (u : Upd F w w') (hs : Sep S F) : RSl r w' S v l :=
  h.keep (fun b hb hl => ⟨hb, u.block b hl (hs b hb)⟩) (fun _ hb => hb)
theorem RSl.mono {w : World} {S S' : Nat → Prop} {v : Value} {l : List α} (h : RSl r w S v l) (k : ∀ b, S b → S' b) : RSl r w S' v l := h.keep (fun b hb _ => ⟨k b hb, rfl⟩) k
theorem RSl.length_le {w : World} {S : Nat → Prop} {v : Value} {l : List α} (h : RSl r w S v l) : l.length ≤ maxLen := by
  obtain ⟨A, c, cs, e, h1, h2, _⟩ := h
  omega
theorem RSl.nil (w : World) (S : Nat → Prop) : RSl r w S (.slice none 0 0) ([] : List α) := ⟨none, 0, [], rfl, by simp, by simp, rfl, fun _ => rfl, fun a h => by cases h⟩

/-- The first k elements, whatever capacity is told. -/
theorem RSl.pre {w : World} {S : Nat → Prop} {g o n c c' : Nat} {l : List α} (h : RSl r w S (.slice (some ⟨g, o, none⟩) n c) l) (k : Nat) (hk : k ≤ l.length) (hc : k ≤ c') (hc' : c' ≤ c) : RSl r w S (.slice (some ⟨g, o, none⟩) k c') (l.take k) := by
  obtain ⟨A, c1, cs, e, h1, h2, h3, h4, h5⟩ := h
  cases e
  obtain ⟨q1, q2, q3⟩ := h5 _ rfl
  have e1 : (l.take k).length = k := by simp; omega
  refine ⟨some ⟨g, o, none⟩, c', cs.take (k * r.sz), by rw [e1], by omega, by omega, h3.take k, (fun h => nomatch h), fun a ha => ?_⟩
  obtain rfl := Option.some.inj ha
  refine ⟨rfl, q2, fun j u hu => q3 j u ?_⟩
  rw [List.getElem?_take] at hu
  split at hu
  · exact hu
  · cases hu
/-- The elements behind the first k. -/
theorem RSl.post {w : World} {S : Nat → Prop} {g o n c : Nat} {l : List α} (h : RSl r w S (.slice (some ⟨g, o, none⟩) n c) l) (k : Nat) (hk : k ≤ l.length) : RSl r w S (.slice (if c = k then some ⟨g, o, none⟩ else some ⟨g, o + k * r.sz, none⟩) (l.length - k) (c - k)) (l.drop k) := by
  obtain ⟨A, c1, cs, e, h1, h2, h3, h4, h5⟩ := h
  cases e
  obtain ⟨q1, q2, q3⟩ := h5 _ rfl
  have e2 : (l.drop k).length = l.length - k := by simp
  refine ⟨_, c - k, cs.drop (k * r.sz), by rw [e2], by omega, by omega, h3.drop k, ?_, ?_⟩
  · split <;> (intro h; cases h)
  · split
    · intro a ha
      obtain rfl := Option.some.inj ha
      refine ⟨rfl, q2, fun j u hu => ?_⟩
      have := (List.getElem?_eq_some_iff.1 hu).1
      rw [List.length_drop, Rows.len h3, ← Nat.sub_mul, show l.length - k = 0 by omega, Nat.zero_mul] at this
      omega
    · intro a ha
      obtain rfl := Option.some.inj ha
      refine ⟨rfl, q2, fun j u hu => ?_⟩
      rw [List.getElem?_drop] at hu
      have := q3 _ u hu
      rw [Nat.add_assoc]
      exact this

theorem OSl.keep {e : TypeId} {w w' : World} {S S' : Nat → Prop} {v : Value} {l : List α} (h : OSl r e w S v l) (k : ∀ b, S b → b < w.heap.size → S' b ∧ w'.heap[b]? = w.heap[b]?) (k' : ∀ b, S b → S' b) : OSl r e w' S' v l := by
  obtain ⟨cs, h1, h2, h3⟩ := h
  refine ⟨cs, ⟨h1.1, ?_⟩, fun b hb => k' b (h2 b hb), h3.keep (fun b hb hl => ⟨⟨k' b hb.1, hb.2⟩, (k b hb.1 hl).2⟩) (fun b hb => ⟨k' b hb.1, hb.2⟩)⟩
  rcases h1.2 with hn | ⟨g, cap, cur, rfl, hb, hg, rest⟩
  · exact .inl hn
  · exact .inr ⟨g, cap, cur, rfl, hb, (k g (h2 g rfl) (lt_of_heap hg)).2.trans hg, rest⟩
theorem OSl.upd {e : TypeId} {w w' : World} {F S : Nat → Prop} {v : Value} {l : List α} (h : OSl r e w S v l) (u : Upd F w w') (hs : Sep S F) : OSl r e w' S v l :=
  h.keep (fun b hb hl => ⟨hb, u.block b hl (hs b hb)⟩) (fun _ hb => hb)
theorem OSl.mono {e : TypeId} {w : World} {S S' : Nat → Prop} {v : Value} {l : List α} (h : OSl r e w S v l) (k : ∀ b, S b → S' b) : OSl r e w S' v l := h.keep (fun b hb _ => ⟨k b hb, rfl⟩) k
theorem OSl.nil (e : TypeId) (w : World) (S : Nat → Prop) : OSl r e w S (.slice none 0 0) ([] : List α) :=
  ⟨[], World.ownsRow_nil w 0 e r.sz, fun k h => by simp [Value.ownBlock] at h, rfl⟩
/-- A new row of no elements. -/
theorem OSl.made {e : TypeId} {w : World} {S : Nat → Prop} (cur : Array Value) (cap : Nat) (hs : cur.size = cap * r.sz) (hm : cap ≤ maxLen) (hS : S w.heap.size) :
    OSl r e (w.alloc (.cells cur e)) S (.slice (some ⟨w.heap.size, 0, none⟩) 0 cap) ([] : List α) :=
  ⟨[], World.ownsRow_made w cur cap (Nat.zero_le _) hm hs, fun k h => by simp [Value.ownBlock] at h; rw [← h]; exact hS, rfl⟩
/-- A literal: a new row of just these elements. -/
theorem OSl.lit {e : TypeId} {w : World} {S T : Nat → Prop} {l : List α} (cs : Array Value) (n : Nat) (hn : l.length = n) (hm : n ≤ maxLen) (hr : Rows r w T l cs.toList) (hT : ∀ b, T b → S b) (hB : Bd T w) (hS : S w.heap.size) :
    OSl r e (w.alloc (.cells cs e)) S (.slice (some ⟨w.heap.size, 0, none⟩) n n) l := by
  subst hn
  have hl := Rows.len hr
  refine ⟨cs.toList, ⟨hl, .inr ⟨w.heap.size, l.length, cs, rfl, Nat.zero_le _, heap_alloc_new _ _, Nat.le_refl _, hm, by simpa using hl, ?_⟩⟩, fun k h => ?_, ?_⟩
  · rw [List.take_of_length_le (by omega)]
  · simp [Value.ownBlock] at h
    rw [← h]; exact hS
  · refine hr.keep (fun b hb hl => ⟨⟨hT b hb, ?_⟩, Below.heap_alloc w _ b hl⟩) (fun b hb => ⟨hT b hb, ?_⟩)
    · simp [Value.ownBlock]; omega
    · have := hB b hb
      simp [Value.ownBlock]; omega
/-- What is owned can be read. -/
theorem OSl.read {e : TypeId} {w : World} {S : Nat → Prop} {v : Value} {l : List α} (h : OSl r e w S v l) : RSl r w S v l := by
  obtain ⟨cs, h1, h2, h3⟩ := h
  have h3' : Rows r w S l cs := h3.keep (fun b hb _ => ⟨hb.1, rfl⟩) (fun b hb => hb.1)
  rcases h1.2 with ⟨rfl, hn⟩ | ⟨g, cap, cur, rfl, hb, hg, hcap, hm, hsz, ht⟩
  · obtain rfl : l = [] := List.eq_nil_of_length_eq_zero hn
    exact RSl.nil w S
  · refine ⟨_, cap, cs, rfl, hcap, hm, h3', (fun h => nomatch h), fun a ha => ?_⟩
    obtain rfl : ⟨g, 0, none⟩ = a := Option.some.inj ha
    refine ⟨rfl, h2 g rfl, fun j u hu => ?_⟩
    have := h1.cells (g := g) rfl j u hu
    rw [Addr.add_lit] at this
    exact this
end

/-! ### 3. append -/
section
variable {α : Type} {r : Rep α} {P : Program} {ops : Array Oper} {rest : List Oper} {o : Oper} {a : Act} {Q : Exit → Act → World → Prop}

/-- What an append leaves of a row that is owned. -/
theorem OSl.appended {e : TypeId} {W w1 : World} {S T : Nat → Prop} {v v1 : Value} {l l' : List α} {cs' : List Value} {n : Nat} (hn : n = (l ++ l').length)
    (HO : OSl r e W S v l) (HB : Bd S W) (Hy : Rows r W T l' cs') (hT : ∀ b, T b → S b ∧ v.ownBlock ≠ some b)
    (hown : ∀ cs, W.ownsRow 0 e r.sz v l.length cs → w1.ownsRow 0 e r.sz v1 n (cs ++ cs')) (hg : W.grownBy w1 v.ownBlock) (hat : v1.ownBlock = v.ownBlock ∨ v1.ownBlock = some W.heap.size) :
    OSl r e w1 (grow S W w1) v1 (l ++ l') := by
  obtain ⟨cs, h1, h2, h3⟩ := HO
  subst hn
  have hlt := h1.lt
  refine ⟨cs ++ cs', hown cs h1, fun k hk => ?_, ?_⟩
  · have hk' := (hown cs h1).lt k hk
    refine ⟨?_, hk'.2⟩
    rcases hat with hat | hat
    · exact .inl (h2 k (by rw [← hat]; exact hk))
    · rw [hat] at hk
      obtain rfl := Option.some.inj hk
      exact .inr (Nat.le_refl _)
  · have key : ∀ b, (S b ∧ v.ownBlock ≠ some b) → b < W.heap.size → (grow S W w1 b ∧ v1.ownBlock ≠ some b) ∧ w1.heap[b]? = W.heap[b]? := by
      intro b hb hl
      refine ⟨⟨⟨.inl hb.1, Nat.lt_of_lt_of_le hl hg.size⟩, ?_⟩, hg.block b hl (fun e => hb.2 e.symm)⟩
      rcases hat with hat | hat
      · rw [hat]; exact hb.2
      · rw [hat]; intro e; have := Option.some.inj e; omega
    have key' : ∀ b, (S b ∧ v.ownBlock ≠ some b) → (grow S W w1 b ∧ v1.ownBlock ≠ some b) := fun b hb => (key b hb (HB b hb.1)).1
    exact (h3.keep key key').append (Hy.keep (fun b hb hl => key b (hT b hb) hl) (fun b hb => key' b (hT b hb)))

/-- append(v, y): behind the box of y. -/
theorem app_one {W : World} (hgd : o.guard = none) (s x : Operand) (t e : TypeId) (z : Value) (bytes : Nat)
    (ho : o.op = .call { callee := .builtin .append, args := #[s, x], argTypes := #[t, t] })
    (ht : P.underlying t = some (.slice e)) (hinfo : (P.info? e).map (fun i => (i.zero, i.size, i.bytes)) = some (some z, r.sz, bytes)) (hz : z.cells.size = r.sz) (hb0 : 0 < bytes)
    {S T : Nat → Prop} {v : Value} {l : List α} {y : α} {cs : Array Value} (hs : a.eval s = v) (hx : a.eval x = .slice (some ⟨W.heap.size, 0, none⟩) 1 1)
    (HO : OSl r e W S v l) (HB : Bd S W) (Hy : r.rep W T y cs.toList) (hT : ∀ b, T b → S b ∧ v.ownBlock ≠ some b) (hl : (l.length + 1) * bytes ≤ 140737488355328)
    (h : ∀ v1 w1, OSl r e w1 (grow S W w1) v1 (l ++ [y]) → Upd (fun b => v.ownBlock = some b) W w1 → wpList P ops Q rest (a.put o.dst v1) w1) :
    wpList P ops Q (o :: rest) a (W.alloc (.cells cs e)) := by
  obtain ⟨i0, hi, hzz⟩ := Option.map_eq_some_iff.1 hinfo
  simp only [Prod.mk.injEq] at hzz
  obtain ⟨hz0, hz1, hz2⟩ := hzz
  have hlen : l.length + 1 ≤ 140737488355328 := Nat.le_trans (Nat.le_mul_of_pos_right _ hb0) hl
  have u0 : Upd (fun b => v.ownBlock = some b) W (W.alloc (.cells cs e)) := (Upd.refl _ W).alloc _
  have HO' : OSl r e (W.alloc (.cells cs e)) S v l := HO.keep (fun b hb hl => ⟨hb, Below.heap_alloc W _ b hl⟩) (fun _ hb => hb)
  have Hy' : r.rep (W.alloc (.cells cs e)) T y cs.toList := r.keep Hy (fun b hb hl => ⟨hb, Below.heap_alloc W _ b hl⟩) (fun _ hb => hb)
  have HB' : Bd S (W.alloc (.cells cs e)) := HB.upd u0
  obtain ⟨c0, hown0, _⟩ := id HO'
  refine wpList_append_own_at (W.alloc (.cells cs e)) hgd s x t ho 0 e i0 z r.sz bytes ht hi hz0 hz1 hz2 hz r.pos v l.length c0 hs hown0 ⟨W.heap.size, 0, none⟩ 1 1 cs.toList hx (by rw [r.len Hy]; omega)
    (World.news_of_block (cs := cs) (t := e) (fr := (0, 0)) (heap_alloc_new W _)) (r.one Hy) (by simp only [maxLen]; omega) hl (Nat.zero_le _) ?_
  intro v1 w1 hown hg _ hat
  have key : ∀ cs', (W.alloc (.cells cs e)).ownsRow 0 e r.sz v l.length cs' → w1.ownsRow 0 e r.sz v1 (l.length + 1) (cs' ++ cs.toList) := by
    intro cs' hc'
    obtain rfl : cs' = c0 := by
      rcases hown0.2 with ⟨rfl, hn⟩ | ⟨g, cap, cur, rfl, _, hgg, _, _, _, htake⟩
      · have a1 := hown0.1
        have a2 := hc'.1
        rw [hn, Nat.zero_mul] at a1 a2
        rw [List.eq_nil_of_length_eq_zero a1, List.eq_nil_of_length_eq_zero a2]
      · rcases hc'.2 with ⟨e', _⟩ | ⟨g', cap', cur', e', _, hgg', _, _, _, htake'⟩
        · cases e'
        · cases e'
          rw [hgg] at hgg'
          cases hgg'
          rw [← htake, ← htake']
    exact hown
  have fin := OSl.appended (r := r) (l' := [y]) (by simp) HO' HB' (Rows.single Hy') hT key hg hat
  have gr : ∀ b, grow S (W.alloc (.cells cs e)) w1 b → grow S W w1 b := fun b hb => ⟨hb.1.imp id (fun h5 => Nat.le_trans u0.size h5), hb.2⟩
  exact h v1 w1 (fin.mono gr) (u0.then (Upd.of_grown hg (fun k hk => hk)) (fun _ _ h => h))

/-- append(v, ys...): ys a slice that is read. -/
theorem app_all {W : World} (hgd : o.guard = none) (s x : Operand) (t e : TypeId) (z : Value) (bytes : Nat)
    (ho : o.op = .call { callee := .builtin .append, args := #[s, x], argTypes := #[t, t] })
    (ht : P.underlying t = some (.slice e)) (hinfo : (P.info? e).map (fun i => (i.zero, i.size, i.bytes)) = some (some z, r.sz, bytes)) (hz : z.cells.size = r.sz) (hb0 : 0 < bytes)
    {S T : Nat → Prop} {v vy : Value} {l l' : List α} (hs : a.eval s = v) (hx : a.eval x = vy)
    (HO : OSl r e W S v l) (HB : Bd S W) (Hy : RSl r W T vy l') (hT0 : ∀ cs, Rows r W T l' cs → Rows r W (fun b => S b ∧ v.ownBlock ≠ some b) l' cs)
    (hl : (l.length + l'.length) * bytes ≤ 140737488355328)
    (h : ∀ v1 w1, OSl r e w1 (grow S W w1) v1 (l ++ l') → Upd (fun b => v.ownBlock = some b) W w1 → wpList P ops Q rest (a.put o.dst v1) w1) :
    wpList P ops Q (o :: rest) a W := by
  obtain ⟨i0, hi, hzz⟩ := Option.map_eq_some_iff.1 hinfo
  simp only [Prod.mk.injEq] at hzz
  obtain ⟨hz0, hz1, hz2⟩ := hzz
  have hlen : l.length + l'.length ≤ 140737488355328 := Nat.le_trans (Nat.le_mul_of_pos_right _ hb0) hl
  obtain ⟨A, c, cy, rfl, y1, y2, y3, y4, y5⟩ := Hy
  obtain ⟨c0, hown0, h00⟩ := id HO
  cases A with
  | none =>
    obtain rfl := y4 rfl
    obtain rfl : l' = [] := List.eq_nil_of_length_eq_zero (by omega)
    refine wpList_append_own_none hgd s x t ho 0 e i0 r.sz ht hi v l.length c0 hs hown0 hx ?_
    refine h v W ?_ (Upd.refl _ _)
    rw [List.append_nil]
    exact HO.mono (fun b hb => ⟨.inl hb, HB b hb⟩)
  | some ad =>
    obtain ⟨q1, q2, q3⟩ := y5 ad rfl
    obtain ⟨g, off, sp⟩ := ad
    simp only at q1
    subst q1
    refine wpList_append_own_at W hgd s x t ho 0 e i0 z r.sz bytes ht hi hz0 hz1 hz2 hz r.pos v l.length c0 hs hown0 ⟨g, off, none⟩ l'.length c cy hx (Rows.len y3)
      (fun j u hu => by rw [Addr.add_lit]; exact q3 j u hu) (Rows.one y3) (by simp only [maxLen]; omega) hl (Nat.zero_le _) ?_
    intro v1 w1 hown hg _ hat
    have key : ∀ cs', W.ownsRow 0 e r.sz v l.length cs' → w1.ownsRow 0 e r.sz v1 (l.length + l'.length) (cs' ++ cy) := by
      intro cs' hc'
      obtain rfl : cs' = c0 := by
        rcases hown0.2 with ⟨rfl, hn⟩ | ⟨g, cap, cur, rfl, _, hgg, _, _, _, htake⟩
        · have a1 := hown0.1
          have a2 := hc'.1
          rw [hn, Nat.zero_mul] at a1 a2
          rw [List.eq_nil_of_length_eq_zero a1, List.eq_nil_of_length_eq_zero a2]
        · rcases hc'.2 with ⟨e', _⟩ | ⟨g', cap', cur', e', _, hgg', _, _, _, htake'⟩
          · cases e'
          · cases e'
            rw [hgg] at hgg'
            cases hgg'
            rw [← htake, ← htake']
      exact hown
    have fin := OSl.appended (r := r) (l' := l') (by simp) HO HB (hT0 cy y3) (fun _ h => h) key hg hat
    exact h v1 w1 fin (Upd.of_grown hg (fun k hk => hk))
end

/-! ### 4. append of a string's bytes -/
theorem Rows_bytes (w : World) (S : Nat → Prop) : ∀ l : List UInt8, Rows Rep.byte w S l (l.map fun b => .int .u8 (b.toNat : Int))
  | [] => rfl
  | b :: l => ⟨[.int .u8 (b.toNat : Int)], _, rfl, rfl, Rows_bytes w S l⟩
theorem rows_bytes_eq {w : World} {S : Nat → Prop} : ∀ {l : List UInt8} {cs : List Value}, Rows Rep.byte w S l cs → cs = l.map fun b => .int .u8 (b.toNat : Int)
  | [], cs, h => h
  | b :: l, cs, ⟨c, rest, e, hc, hr⟩ => by rw [e, show c = _ from hc, rows_bytes_eq hr]; rfl

section
variable {P : Program} {ops : Array Oper} {rest : List Oper} {o : Oper} {a : Act} {Q : Exit → Act → World → Prop}
theorem app_str {W : World} (hgd : o.guard = none) (s x : Operand) (t u e : TypeId)
    (ho : o.op = .call { callee := .builtin .append, args := #[s, x], argTypes := #[t, u] })
    (ht : P.underlying t = some (.slice e)) (hu : P.underlying u = some .string) (hinfo : (P.info? e).map (fun i => (i.zero, i.size, i.bytes)) = some (some (.int .u8 0), 1, 1))
    {S : Nat → Prop} {v : Value} {l : List UInt8} {y : ByteArray} (hs : a.eval s = v) (hx : a.eval x = .string y)
    (HO : OSl Rep.byte e W S v l) (HB : Bd S W) (hl : l.length + y.size ≤ 140737488355328)
    (h : ∀ v1 w1, OSl Rep.byte e w1 (grow S W w1) v1 (l ++ y.data.toList) → Upd (fun b => v.ownBlock = some b) W w1 → wpList P ops Q rest (a.put o.dst v1) w1) :
    wpList P ops Q (o :: rest) a W := by
  obtain ⟨i0, hi, hzz⟩ := Option.map_eq_some_iff.1 hinfo
  simp only [Prod.mk.injEq] at hzz
  obtain ⟨hz0, hz1, hz2⟩ := hzz
  have hm : maxLen = 9223372036854775807 := rfl
  refine wpList_plain hgd fun K hK => ?_
  obtain ⟨c0, hown0, h00, h01⟩ := id HO
  have hown0' : W.ownsRow 0 e 1 v l.length c0 := hown0
  obtain ⟨v1, w1, hr, hown, hg, _⟩ := Lib.run_append_own_string (P := P) W 0 t u o.type e i0 ht hu hi hz0 hz1 hz2 v l.length c0 hown0' y (by omega) hl (Nat.zero_le _)
  have hat : v1.ownBlock = v.ownBlock ∨ v1.ownBlock = some W.heap.size ∨ v1.ownBlock = none := by
    rcases hown0'.2 with ⟨rfl, hn⟩ | ⟨g, cap, cur, rfl, hb, hgg, hnc, hcm, hcs, htake⟩
    · by_cases hy0 : y.size = 0
      · have hf := Lib.run_firstCells_string (P := P) W 1 y
        rw [hy0] at hf
        have hr2 : (Builtin.append_ #[t, u] o.type #[.slice none 0 0, .string y]).run P W = .ok (.slice none 0 0) W := by
          simp [Builtin.append_, run_underlying ht, run_underlying hu, sizeOf, typeInfo, hi, hz1, Builtin.lenOf, hy0, hf]
        rw [hr2] at hr
        cases hr
        exact .inl rfl
      · have hr2 := run_append_nil_string (P := P) W t u o.type e i0 (.int .u8 0) ht hu hi hz0 y (by omega) (by omega) (by rw [hz2]; omega)
        rw [hr2] at hr
        cases hr
        exact .inr (.inl rfl)
    · by_cases hroom : l.length + y.size ≤ cap
      · have hcs' : cur.size = cap := by simpa using hcs
        have hr2 := Lib.run_append_room_string (P := P) W t u o.type e i0 ht hu hi hz1 g l.length cap cur hgg y hroom (by omega)
        rw [hr2] at hr
        cases hr
        exact .inl rfl
      · have holds : ∀ j u, c0[j]? = some u → W.cell? ((⟨g, 0, none⟩ : Addr).add j) = some u := hown0'.cells (g := g) rfl
        have hr2 := Lib.run_append_grow_string (P := P) W t u o.type e i0 (.int .u8 0) ht hu hi hz0 ⟨g, 0, none⟩ l.length cap c0 (by rw [hz1]; exact hown0'.1) holds y (by omega) (by omega) (by rw [hz2]; exact growslice_fits (by omega) (by omega))
        rw [hr2] at hr
        cases hr
        exact .inr (.inl rfl)
  unfold Oper.wp execOp
  simp only [ho, resolve, invoke, builtin, Sem.run_bind, Sem.run_pure, Result.andThen_ok, List.map_toArray, List.map_cons, List.map_nil, hs, hx, hr]
  refine hK _ _ (h v1 w1 ?_ (Upd.of_grown hg (fun k hk => hk)))
  refine ⟨c0 ++ Lib.strCells y, by rw [List.length_append]; exact hown, fun k hk => ?_, (rows_bytes_eq h01 ▸ (Rows_bytes _ _ l)).append ?_⟩
  · refine ⟨?_, (hown.lt k hk).2⟩
    rcases hat with hat | hat | hat
    · exact .inl (h00 k (by rw [← hat]; exact hk))
    · rw [hat] at hk
      obtain rfl := Option.some.inj hk
      exact .inr (Nat.le_refl _)
    · rw [hat] at hk
      cases hk
  · exact Rows_bytes _ _ _
end

/-! ### 5. string(b) -/
def strOf (l : List UInt8) : ByteArray := ⟨l.toArray⟩
theorem strOf_data (l : List UInt8) : (strOf l).data.toList = l := rfl
theorem strOf_size (l : List UInt8) : (strOf l).size = l.length := rfl
theorem strOf_inj {a b : List UInt8} (h : strOf a = strOf b) : a = b := by
  have := congrArg (fun x : ByteArray => x.data.toList) h
  simpa [strOf_data] using this
theorem strOf_self (s : ByteArray) : strOf s.data.toList = s := rfl
theorem conv_str {P : Program} {w : World} {S : Nat → Prop} {v : Value} {l : List UInt8} (h : RSl Rep.byte w S v l) {src e dst : TypeId} (hs : P.underlying src = some (.slice e)) (he : P.underlying e = some (.int .u8)) (hd : P.underlying dst = some .string) :
    (convert src dst v).run P w = .ok (.string (strOf l)) w := by
  obtain ⟨A, c, cs, rfl, h1, h2, h3, h4, h5⟩ := h
  cases A with
  | none =>
    obtain rfl : c = 0 := h4 rfl
    obtain rfl : l = [] := List.eq_nil_of_length_eq_zero (by omega)
    exact run_convert_bytes_nil w src e hs he 0 0 dst hd
  | some a =>
    obtain ⟨q1, q2, q3⟩ := h5 a rfl
    obtain ⟨g, o, sp⟩ := a
    simp only at q1
    subst q1
    have e1 : strOf l = strOfNums (l.map fun b => (b.toNat : Int)) := by
      simp [strOf, strOfNums, Function.comp_def]
    rw [e1]
    refine run_convert_bytes_arg w src e hs he g o l.length c (l.map fun b => (b.toNat : Int)) (by simp) (fun i hi => ?_) dst hd
    refine q3 i _ ?_
    rw [rows_bytes_eq h3]
    simp [List.getElem?_eq_getElem hi, List.getD_eq_getElem?_getD]

end Go.Proofs.Ytobfolkcpfaplaa.Kit
