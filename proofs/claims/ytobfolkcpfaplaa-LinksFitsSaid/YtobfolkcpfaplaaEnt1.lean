/- Entries of a log, any: what their cells tell. -/
import Derived.Test.YtobfolkcpfaplaaLink7
import Derived.Test.YtobfolkcpfaplaaOpen2
namespace Go.Proofs.Ytobfolkcpfaplaa
open Go.RowKit Kit
set_option linter.unusedVariables false

/-- A key that must have a version; what a key gets; an entry. -/
structure Rd where
  key : ByteArray
  num : Int
structure Wt where
  key : ByteArray
  val : ByteArray
  gone : Bool
structure Ent where
  ep : Int
  kd : Int
  tc : Int
  tq : Int
  pl : Bool
  rd : List Rd
  wr : List Wt
  ec : Int
  eq : Int
  cd : Int
def Rep.rd : Rep Rd where
  sz := 2
  pos := by decide
  rep _ _ x cs := cs = [.string x.key, .int .u64 x.num] ∧ x.key.size ≤ maxLen
  len h := by rw [h.1]; rfl
  one h := by rw [h.1]; intro u hu; simp at hu; rcases hu with rfl | rfl <;> rfl
  keep h _ _ := h
def Rep.wt : Rep Wt where
  sz := 3
  pos := by decide
  rep _ _ x cs := cs = [.string x.key, .string x.val, .bool x.gone] ∧ x.key.size ≤ maxLen ∧ x.val.size ≤ maxLen
  len h := by rw [h.1]; rfl
  one h := by rw [h.1]; intro u hu; simp at hu; rcases hu with rfl | rfl | rfl <;> rfl
  keep h _ _ := h
theorem flat_rd : Flat Rep.rd := fun h _ _ => h
theorem flat_wt : Flat Rep.wt := fun h _ _ => h
def entC (x : Ent) (va vb : Value) : List Value := [.int .u64 x.ep, .int .i64 x.kd, .int .i64 x.tc, .int .u64 x.tq, .bool x.pl, va, vb, .int .i64 x.ec, .int .u64 x.eq, .int .i64 x.cd]
def Rep.ent : Rep Ent where
  sz := 10
  pos := by decide
  rep w S x cs := ∃ va vb, cs = entC x va vb ∧ RSl Rep.rd w S va x.rd ∧ RSl Rep.wt w S vb x.wr
  len h := by obtain ⟨_, _, h, _⟩ := h; rw [h]; rfl
  one h := by
    obtain ⟨va, vb, h, ⟨A, c, _, rfl, _⟩, ⟨B, d, _, rfl, _⟩⟩ := h
    rw [h]
    intro u hu
    simp only [entC, List.mem_cons, List.not_mem_nil, or_false] at hu
    rcases hu with rfl | rfl | rfl | rfl | rfl | rfl | rfl | rfl | rfl | rfl <;> rfl
  keep h k k' := by obtain ⟨va, vb, h, h1, h2⟩ := h; exact ⟨va, vb, h, h1.keep k k', h2.keep k k'⟩
section
variable {w w' : World} {S S' : Nat → Prop} {x : Ent}
theorem ent_agg {cs : Array Value} (h : Rep.ent.rep w S x cs.toList) :
    ∃ A B c d, cs = #[.int .u64 x.ep, .int .i64 x.kd, .int .i64 x.tc, .int .u64 x.tq, .bool x.pl, .slice A x.rd.length c, .slice B x.wr.length d, .int .i64 x.ec, .int .u64 x.eq, .int .i64 x.cd] ∧ RSl Rep.rd w S (.slice A x.rd.length c) x.rd ∧ RSl Rep.wt w S (.slice B x.wr.length d) x.wr := by
  obtain ⟨va, vb, e, h1, h2⟩ := h
  have g1 := h1
  have g2 := h2
  obtain ⟨A, c, _, rfl, _⟩ := h1
  obtain ⟨B, d, _, rfl, _⟩ := h2
  exact ⟨A, B, c, d, Array.toList_inj.1 e, g1, g2⟩
theorem ent_list {cs : List Value} (h : Rep.ent.rep w S x cs) :
    ∃ A B c d, cs = [.int .u64 x.ep, .int .i64 x.kd, .int .i64 x.tc, .int .u64 x.tq, .bool x.pl, .slice A x.rd.length c, .slice B x.wr.length d, .int .i64 x.ec, .int .u64 x.eq, .int .i64 x.cd] ∧ RSl Rep.rd w S (.slice A x.rd.length c) x.rd ∧ RSl Rep.wt w S (.slice B x.wr.length d) x.wr := by
  obtain ⟨A, B, c, d, h1, h2⟩ := ent_agg (cs := cs.toArray) (by simpa using h)
  exact ⟨A, B, c, d, by simpa using congrArg Array.toList h1, h2⟩
theorem Rep.ent_upd {F : Nat → Prop} {cs : List Value} (h : Rep.ent.rep w S x cs) (u : Upd F w w') (hs : Sep S F) : Rep.ent.rep w' S x cs :=
  Rep.ent.keep h (fun b hb hl => ⟨hb, u.block b hl (hs b hb)⟩) (fun _ h => h)
theorem Rep.ent_mono {cs : List Value} (h : Rep.ent.rep w S x cs) (k : ∀ b, S b → S' b) : Rep.ent.rep w S' x cs :=
  Rep.ent.keep h (fun b hb _ => ⟨k b hb, rfl⟩) k
end
/-- What a call has made, seen later. -/
theorem grow_late {w w1 w2 : World} (h : w1.heap.size ≤ w2.heap.size) : ∀ b, grow NoB w w1 b → grow NoB w w2 b := fun b hb => ⟨hb.1, Nat.lt_of_lt_of_le hb.2 h⟩
theorem grow_early {w w1 w2 : World} (h : w.heap.size ≤ w1.heap.size) : ∀ b, grow NoB w1 w2 b → grow NoB w w2 b := fun b hb => ⟨.inr (Nat.le_trans h (hb.1.resolve_left (fun h => h))), hb.2⟩

/-! ### A transaction under way -/
/-- The box of what came, the result's cells, the object's. -/
structure TxA (w wr : World) (b0 o : Array Value) (Tb To : TypeId) : Prop where
  box : wr.heap[w.heap.size]? = some (.cells b0 Tb (0, 0))
  res : wr.heap[w.heap.size + 1]? = some (.cells #[.int .i64 0, .int .u64 0, .bool false, .slice none 0 0, .slice none 0 0] To (0, 0))
  obj : wr.heap[w.heap.size + 2]? = some (.cells o To (0, 0))
  upd : Upd NoB w wr
theorem TxA.start (w : World) (b0 o : Array Value) (Tb To : TypeId) : TxA w (((w.alloc (.cells b0 Tb)).alloc (.cells #[.int .i64 0, .int .u64 0, .bool false, .slice none 0 0, .slice none 0 0] To)).alloc (.cells o To)) b0 o Tb To := by
  obtain ⟨y, hy⟩ : ∃ y, w.alloc (.cells b0 Tb) = y := ⟨_, rfl⟩
  have s1 : y.heap.size = w.heap.size + 1 := by rw [← hy]; simp
  have u0 : Upd NoB w y := by rw [← hy]; exact (Upd.refl _ _).alloc _
  have k0 : y.heap[w.heap.size]? = some (.cells b0 Tb (0, 0)) := by rw [← hy]; exact heap_alloc_new _ _
  rw [hy]
  obtain ⟨z, hz⟩ : ∃ z, y.alloc (.cells #[.int .i64 0, .int .u64 0, .bool false, .slice none 0 0, .slice none 0 0] To) = z := ⟨_, rfl⟩
  have s2 : z.heap.size = w.heap.size + 2 := by rw [← hz]; simp [s1]
  have u1 : Upd NoB y z := by rw [← hz]; exact (Upd.refl _ _).alloc _
  have k1 : z.heap[w.heap.size + 1]? = some (.cells #[.int .i64 0, .int .u64 0, .bool false, .slice none 0 0, .slice none 0 0] To (0, 0)) := by rw [← hz, ← s1]; exact heap_alloc_new _ _
  rw [hz]
  have u2 : Upd NoB z (z.alloc (.cells o To)) := (Upd.refl NoB z).alloc _
  exact ⟨(u1.trans u2).heap k0 (fun h => h), u2.heap k1 (fun h => h), by rw [← s2]; exact heap_alloc_new _ _, (u0.trans u1).trans u2⟩
theorem TxA.keep {w wr x : World} {b0 o : Array Value} {Tb To : TypeId} (h : TxA w wr b0 o Tb To) (u : Upd NoB wr x) : TxA w x b0 o Tb To :=
  ⟨u.heap h.box (fun h => h), u.heap h.res (fun h => h), u.heap h.obj (fun h => h), h.upd.trans u⟩
section
variable {α : Type} {r : Rep α} {e : TypeId} {w wa w2 : World} {b0 o : Array Value} {Tb To : TypeId} {v v1 : Value} {l l' : List α} {xs : List Nat}
/-- A field has grown: ahead of the store. -/
theorem TxA.grew (h : TxA w wa b0 o Tb To) (hx : w.heap.size ∈ xs ∧ w.heap.size + 1 ∈ xs ∧ w.heap.size + 2 ∈ xs) (ho : OSl r e wa (New w wa xs) v l) (u : Upd (fun b => v.ownBlock = some b) wa w2) : TxA w w2 b0 o Tb To :=
  ⟨u.heap h.box (fun e => (ho.new_own _ e).2.2 hx.1), u.heap h.res (fun e => (ho.new_own _ e).2.2 hx.2.1), u.heap h.obj (fun e => (ho.new_own _ e).2.2 hx.2.2), h.upd.then u (fun i hi e => by have := (ho.new_own i e).1; omega)⟩
theorem heap_put2 {w : World} {p : Nat} {cs : Array Value} {T : TypeId} {fr : Nat × Nat} (h : w.heap[p]? = some (.cells cs T fr)) (i : Nat) (u : Value) : (w.setCell ⟨p, i, none⟩ u).heap[p]? = some (.cells (cs.setIfInBounds i u) T fr) := by
  simp only [World.setCell, Array.getElem?_modify, if_true, h]
  rfl
theorem TxA.put (h : TxA w w2 b0 o Tb To) (i : Nat) (u : Value) : TxA w (w2.setCell ⟨w.heap.size + 2, i, none⟩ u) b0 (o.setIfInBounds i u) Tb To := by
  have u3 : Upd (fun b => b = w.heap.size + 2) w2 (w2.setCell ⟨w.heap.size + 2, i, none⟩ u) := (Upd.refl (fun b => b = w.heap.size + 2) w2).setCell (p := ⟨w.heap.size + 2, i, none⟩) (fun _ => rfl) u
  exact ⟨u3.heap h.box (fun e => by omega), u3.heap h.res (fun e => by omega), heap_put2 h.obj i u, h.upd.then u3 (fun i hi e => by omega)⟩
theorem OSl.put2 (h : OSl r e w2 (New w w2 xs) v l) (hx : w.heap.size + 2 ∈ xs) (i : Nat) (u : Value) : OSl r e (w2.setCell ⟨w.heap.size + 2, i, none⟩ u) (New w (w2.setCell ⟨w.heap.size + 2, i, none⟩ u) xs) v l :=
  h.new_keep ((Upd.refl (fun b => b = w.heap.size + 2) w2).setCell (p := ⟨w.heap.size + 2, i, none⟩) (fun _ => rfl) u) (fun b hb => .inl (by rw [show b = _ from hb]; exact hx))
end
theorem five_frozen {x : World} {b : Nat} {T : TypeId} {c0 c1 c2 c3 c4 : Value} (h : x.heap[b]? = some (.cells #[c0, c1, c2, c3, c4] T (0, 0))) : ∀ i, x.frozen? ⟨b, i, none⟩ = false := fun i => by simp [World.frozen?, h]
theorem five_cells2 {x : World} {b : Nat} {T : TypeId} {fr : Nat × Nat} {c0 c1 c2 c3 c4 : Value} (h : x.heap[b]? = some (.cells #[c0, c1, c2, c3, c4] T fr)) :
    x.cell? ⟨b, 0, none⟩ = some c0 ∧ x.cell? ⟨b, 1, none⟩ = some c1 ∧ x.cell? ⟨b, 2, none⟩ = some c2 ∧ x.cell? ⟨b, 3, none⟩ = some c3 ∧ x.cell? ⟨b, 4, none⟩ = some c4 := by
  simp [World.cell?, h]
end Go.Proofs.Ytobfolkcpfaplaa
