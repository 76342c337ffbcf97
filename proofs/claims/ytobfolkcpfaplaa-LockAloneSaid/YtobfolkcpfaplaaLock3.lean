/- Who holds what, function by function (3): a table; does somebody hold something; is a key busy. -/
import Derived.Test.YtobfolkcpfaplaaLock2
namespace Go.Proofs.Ytobfolkcpfaplaa
open Go.RowKit Kit
set_option linter.unusedVariables false

/-- At block p lies a table. -/
def Lk (w0 w : World) (xs : List Nat) (p : Nat) (l : List Span) (last : Int) : Prop :=
  ∃ v, w.heap[p]? = some (.cells #[v, .int .i64 last] 102 (0, 0)) ∧ OSl Rep.span 106 w (New w0 w xs) v l
theorem Lk.keep {w0 w w' : World} {xs : List Nat} {p : Nat} {l : List Span} {last : Int} {F : Nat → Prop} (h : Lk w0 w xs p l last) (u : Upd F w w') (hp : ¬ F p) (hf : ∀ b, F b → b ∈ xs ∨ b < w0.heap.size) : Lk w0 w' xs p l last := by
  obtain ⟨v, h1, h2⟩ := h
  exact ⟨v, u.heap h1 hp, h2.new_keep u hf⟩
theorem Lk.lt {w0 w : World} {xs : List Nat} {p : Nat} {l : List Span} {last : Int} (h : Lk w0 w xs p l last) : p < w.heap.size := by
  obtain ⟨v, h1, _⟩ := h
  exact lt_of_heap h1
theorem two_cells {x : World} {b : Nat} {T : TypeId} {fr : Nat × Nat} {c0 c1 : Value} (h : x.heap[b]? = some (.cells #[c0, c1] T fr)) :
    x.cell? ⟨b, 0, none⟩ = some c0 ∧ x.cell? ⟨b, 1, none⟩ = some c1 := by
  simp [World.cell?, h]
theorem one_cell {x : World} {b : Nat} {T : TypeId} {fr : Nat × Nat} {c0 : Value} (h : x.heap[b]? = some (.cells #[c0] T fr)) : x.cell? ⟨b, 0, none⟩ = some c0 := by
  simp [World.cell?, h]

set_option maxHeartbeats 2000000 in
set_option maxRecDepth 100000 in
theorem find_any (w0 : World) (xs : List Nat) (p : Nat) (l : List Span) (last cl sq : Int) (w : World) (h : Lk w0 w xs p l last) :
    Calls Try.prog 54 #[.pointer (some ⟨p, 0, none⟩), .agg #[.int .i64 cl, .int .u64 sq]] w fun e w' => e = .returned (.int .i64 (fidx (fun s => s.held cl sq) l)) ∧ Upd NoB w w' := by
  obtain ⟨v, h1, h2⟩ := h
  obtain ⟨hc0, hc1⟩ := two_cells h1
  have hp := lt_of_heap h1
  obtain ⟨wa, hwa⟩ : ∃ wa, w.alloc (.cells #[.int .i64 cl, .int .u64 sq] 31) = wa := ⟨_, rfl⟩
  have hua : Upd NoB w wa := by rw [← hwa]; exact (Upd.refl _ _).alloc _
  have hB : wa.heap[w.heap.size]? = some (.cells #[.int .i64 cl, .int .u64 sq] 31 (0, 0)) := by rw [← hwa]; exact heap_alloc_new _ _
  obtain ⟨b0, b1⟩ := two_cells hB
  have hi := Lib.hid (idx_find w.heap.size v l (fun s => s.held cl sq) wa (h2.read.upd hua (fun _ _ h => h)) (fun x va vb w1 ha hb hu => by
    obtain ⟨A, c, _, rfl, _⟩ := ha
    obtain ⟨B, d, _, rfl, _⟩ := hb
    exact find1_any x A B _ _ c d w.heap.size cl sq w1 (hu.cell b0 (fun h => h)) (hu.cell b1 (fun h => h))))
  have HU := Lib.hid hua
  have k0 := hua.cell hc0 (fun h => h)
  obtain ⟨A, c, _, rfl, _⟩ := h2.read
  clear h2 hua hB b0 b1 h1 hc1
  generalize fidx (fun s => s.held cl sq) l = I at *
  go_enter Try.func54, Try.ntmps54
  go_wp2_with fail
  refine hi.out.mono ?_
  rintro e w2 ⟨rfl, hu⟩
  have HU2 := Lib.hid (HU.out.trans hu)
  clear hu
  go_wp2_with fail
  go_ret
  exact ⟨rfl, HU2.out⟩
set_option maxHeartbeats 1000000 in
theorem find_nil (cl sq : Int) (w : World) :
    Calls Try.prog 54 #[.pointer none, .agg #[.int .i64 cl, .int .u64 sq]] w fun e w' => e = .returned (.int .i64 (-1)) ∧ Upd NoB w w' := by
  have HU := Lib.hid ((Upd.refl NoB w).alloc (.cells #[.int .i64 cl, .int .u64 sq] 31))
  go_enter Try.func54, Try.ntmps54
  go_wp2_with fail
  go_ret
  exact ⟨rfl, HU.out⟩
def holdsB (l : List Span) (cl sq : Int) : Bool := l.any fun s => s.held cl sq
set_option maxHeartbeats 1000000 in
theorem holds_any (w0 : World) (xs : List Nat) (p : Nat) (l : List Span) (last cl sq : Int) (w : World) (h : Lk w0 w xs p l last) :
    Calls Try.prog 20 #[.pointer (some ⟨p, 0, none⟩), .agg #[.int .i64 cl, .int .u64 sq]] w fun e w' => e = .returned (.bool (holdsB l cl sq)) ∧ Upd NoB w w' := by
  have hi := fun w1 (hu : Upd NoB w w1) => find_any w0 xs p l last cl sq w1 (h.keep hu (fun h => h) (fun _ h => h.elim))
  have he : decide ((0 : Int) ≤ fidx (fun s => s.held cl sq) l) = holdsB l cl sq := fidx_any _ _
  generalize holdsB l cl sq = B at *
  generalize fidx (fun s => s.held cl sq) l = I at *
  subst he
  clear h
  have hua : Upd NoB w (w.alloc (.cells #[.int .i64 cl, .int .u64 sq] 31)) := (Upd.refl NoB w).alloc _
  have HI := Lib.hid (hi _ hua)
  have HU := Lib.hid hua
  clear hua hi
  go_enter Try.func20, Try.ntmps20
  go_wp2_with fail
  refine HI.out.mono ?_
  rintro e w2 ⟨rfl, hu⟩
  have HU2 := Lib.hid (HU.out.trans hu)
  clear hu
  go_wp2_with fail
  go_ret
  exact ⟨rfl, HU2.out⟩
set_option maxHeartbeats 1000000 in
theorem holds_nil (cl sq : Int) (w : World) :
    Calls Try.prog 20 #[.pointer none, .agg #[.int .i64 cl, .int .u64 sq]] w fun e w' => e = .returned (.bool false) ∧ Upd NoB w w' := by
  have hi := fun w1 (hu : Upd NoB w w1) => find_nil cl sq w1
  have hua : Upd NoB w (w.alloc (.cells #[.int .i64 cl, .int .u64 sq] 31)) := (Upd.refl NoB w).alloc _
  have HI := Lib.hid (hi _ hua)
  have HU := Lib.hid hua
  clear hua hi
  go_enter Try.func20, Try.ntmps20
  go_wp2_with fail
  refine HI.out.mono ?_
  rintro e w2 ⟨rfl, hu⟩
  have HU2 := Lib.hid (HU.out.trans hu)
  clear hu
  go_wp2_with fail
  go_ret
  exact ⟨rfl, HU2.out⟩

set_option maxHeartbeats 2000000 in
set_option maxRecDepth 100000 in
theorem bsy1_any {S T : Nat → Prop} (x : Span) (va vb : Value) (p q : Nat) (key : ByteArray) (b : Bool) (w : World) (ha : RSl Rep.str w S va x.rd) (hb : RSl Rep.str w T vb x.wr) (h0 : w.cell? ⟨p, 0, none⟩ = some (.string key)) (h1 : w.cell? ⟨q, 0, none⟩ = some (.bool b)) :
    Calls Try.prog 57 #[.agg #[.int .i64 x.cl, .int .u64 x.sq, va, vb, .int .i64 x.at_, .int .i64 x.till], .pointer (some ⟨p, 0, none⟩), .pointer (some ⟨q, 0, none⟩)] w fun e w' => e = .returned (.bool (x.busy key b)) ∧ Upd NoB w w' := by
  have hp : p < w.heap.size := World.block_lt_of_cell? w _ h0
  have hq : q < w.heap.size := World.block_lt_of_cell? w _ h1
  obtain ⟨wa, hwa⟩ : ∃ wa, w.alloc (.cells #[.int .i64 x.cl, .int .u64 x.sq, va, vb, .int .i64 x.at_, .int .i64 x.till] 106) = wa := ⟨_, rfl⟩
  have hua : Upd NoB w wa := by rw [← hwa]; exact (Upd.refl _ _).alloc _
  have hB : wa.heap[w.heap.size]? = some (.cells #[.int .i64 x.cl, .int .u64 x.sq, va, vb, .int .i64 x.at_, .int .i64 x.till] 106 (0, 0)) := by rw [← hwa]; exact heap_alloc_new _ _
  have hcell := Lib.hid (fun x' (hx : Upd NoB wa x') => show x'.cell? ⟨p, 0, none⟩ = some (.string key) ∧ x'.cell? ⟨q, 0, none⟩ = some (.bool b) ∧ x'.cell? ⟨w.heap.size, 2, none⟩ = some va ∧ x'.cell? ⟨w.heap.size, 3, none⟩ = some vb ∧ x'.cell? ⟨w.heap.size, 5, none⟩ = some (.int .i64 x.till) from
    ⟨hx.cell (hua.cell h0 (fun h => h)) (fun h => h), hx.cell (hua.cell h1 (fun h => h)) (fun h => h), by have := hx.heap hB (fun h => h); simp [World.cell?, this], by have := hx.heap hB (fun h => h); simp [World.cell?, this], by have := hx.heap hB (fun h => h); simp [World.cell?, this]⟩)
  have hwc := Lib.hid (fun w1 (hu : Upd NoB w w1) => contains_any vb x.wr key w1 (hb.upd hu (fun _ _ h => h)))
  have hrc := Lib.hid (fun w1 (hu : Upd NoB w w1) => contains_any va x.rd key w1 (ha.upd hu (fun _ _ h => h)))
  have HU := Lib.hid hua
  obtain ⟨A, c, _, rfl, _⟩ := ha
  obtain ⟨B, d, _, rfl, _⟩ := hb
  unfold Span.busy
  generalize (x.wr.any fun y => decide (y = key)) = W at *
  generalize (x.rd.any fun y => decide (y = key)) = R at *
  have k := hcell.out wa (Upd.refl _ _)
  obtain ⟨k0, k1, k2, k3, k4⟩ := k
  clear hB hua h0 h1
  by_cases e : x.till = 0
  · rw [decide_eq_true e, Bool.true_and]
    rw [e] at k4
    generalize x.till = T at *
    clear e
    cases W
    all_goals cases b
    all_goals
      go_enter Try.func57, Try.ntmps57
      go_wp2_with fail
      refine (hwc.out _ HU.out).mono ?_
      rintro e w2 ⟨rfl, hu⟩
      have k := hcell.out _ hu
      obtain ⟨j0, j1, j2, j3, j4⟩ := k
      have HU2 := Lib.hid (HU.out.trans hu)
      clear hu
      go_wp2_with fail
      first
      | (refine (hrc.out _ HU2.out).mono ?_
         rintro e w3 ⟨rfl, hu⟩
         have HU3 := Lib.hid (HU2.out.trans hu)
         clear hu
         go_wp2_with fail
         go_ret
         exact ⟨by first | rfl | simp, HU3.out⟩)
      | (go_ret
         exact ⟨by first | rfl | simp, HU2.out⟩)
  · have et : (x.till == 0) = false := by simpa using e
    rw [decide_eq_false e, Bool.false_and]
    clear e
    go_enter Try.func57, Try.ntmps57
    go_wp2_with fail
    go_ret
    exact ⟨by rfl, HU.out⟩
end Go.Proofs.Ytobfolkcpfaplaa
