/- The document's table of slots (1): rows; the last one of a client; what an ID is. -/
import Derived.Test.YtmcpcladjfddmaaSess6
import Derived.Test.YtmcpcladjfddmaaHeld
import Derived.Test.YtmcpcladjfddmaaSched2
namespace Go.Proofs.Ytmcpcladjfddmaa
open Go.RowKit Kit
set_option linter.unusedVariables false

abbrev Srw := Int × Slot
def srwC (x : Srw) : List Value := [.int .i64 x.1, .int .u64 x.2.seq, .bool x.2.opn, .int .i64 x.2.at_, .int .i64 x.2.code, .int .u64 x.2.num]
def Rep.srw : Rep Srw where
  sz := 6
  pos := by decide
  rep _ _ x cs := cs = srwC x
  len h := by rw [h]; rfl
  one h := by
    rw [h]
    intro u hu
    simp only [srwC, List.mem_cons, List.not_mem_nil, or_false] at hu
    rcases hu with rfl | rfl | rfl | rfl | rfl | rfl <;> rfl
  keep h _ _ := h
theorem flat_srw : Flat Rep.srw := fun h _ _ => h
theorem iSrw : (Try.prog.info? 79).map (fun i => (i.zero, i.size, i.bytes)) = some (some (.agg #[.int .i64 0, .int .u64 0, .bool false, .int .i64 0, .int .i64 0, .int .u64 0]), 6, 48) := by kernel_rfl
/-- At block q lies a table of the document's. -/
def RSt (w0 w : World) (xs : List Nat) (q : Nat) (l : List Srw) : Prop :=
  ∃ v, w.heap[q]? = some (.cells #[v] 53 (0, 0)) ∧ OSl Rep.srw 79 w (New w0 w xs) v l
theorem RSt.keep {w0 w w' : World} {xs : List Nat} {q : Nat} {l : List Srw} {F : Nat → Prop} (h : RSt w0 w xs q l) (u : Upd F w w') (hq : ¬ F q) (hf : ∀ b, F b → b ∈ xs ∨ b < w0.heap.size) : RSt w0 w' xs q l := by
  obtain ⟨v, h1, h2⟩ := h
  exact ⟨v, u.heap h1 hq, h2.new_keep u hf⟩
theorem RSt.lt {w0 w : World} {xs : List Nat} {q : Nat} {l : List Srw} (h : RSt w0 w xs q l) : q < w.heap.size := by
  obtain ⟨v, h1, _⟩ := h
  exact lt_of_heap h1
theorem one_cell {x : World} {b : Nat} {T : TypeId} {c0 : Value} (h : x.heap[b]? = some (.cells #[c0] T (0, 0))) : x.cell? ⟨b, 0, none⟩ = some c0 ∧ x.frozen? ⟨b, 0, none⟩ = false := by
  simp [World.cell?, World.frozen?, h]
theorem six_cells {x : World} {b : Nat} {T : TypeId} {c0 c1 c2 c3 c4 c5 : Value} (h : x.heap[b]? = some (.cells #[c0, c1, c2, c3, c4, c5] T (0, 0))) :
    x.cell? ⟨b, 0, none⟩ = some c0 ∧ x.cell? ⟨b, 1, none⟩ = some c1 ∧ x.cell? ⟨b, 2, none⟩ = some c2 ∧ x.cell? ⟨b, 3, none⟩ = some c3 ∧ x.cell? ⟨b, 4, none⟩ = some c4 ∧ x.cell? ⟨b, 5, none⟩ = some c5 := by
  simp [World.cell?, h]
theorem six_frz {x : World} {b : Nat} {T : TypeId} {c0 c1 c2 c3 c4 c5 : Value} (h : x.heap[b]? = some (.cells #[c0, c1, c2, c3, c4, c5] T (0, 0))) :
    x.frozen? ⟨b, 0, none⟩ = false ∧ x.frozen? ⟨b, 1, none⟩ = false ∧ x.frozen? ⟨b, 2, none⟩ = false ∧ x.frozen? ⟨b, 3, none⟩ = false ∧ x.frozen? ⟨b, 4, none⟩ = false ∧ x.frozen? ⟨b, 5, none⟩ = false := by
  simp [World.frozen?, h]
/-- Six cells are laid. -/
def put6 (x : World) (b : Nat) (v0 v1 v2 v3 v4 v5 : Value) : World := (((((x.setCell ⟨b, 0, none⟩ v0).setCell ⟨b, 1, none⟩ v1).setCell ⟨b, 2, none⟩ v2).setCell ⟨b, 3, none⟩ v3).setCell ⟨b, 4, none⟩ v4).setCell ⟨b, 5, none⟩ v5
theorem heap_put {w : World} {p : Nat} {T : TypeId} {cs : Array Value} {fr : Nat × Nat} (h : w.heap[p]? = some (.cells cs T fr)) (i : Nat) (u : Value) : (w.setCell ⟨p, i, none⟩ u).heap[p]? = some (.cells (cs.setIfInBounds i u) T fr) := by
  simp only [World.setCell, Array.getElem?_modify, if_true, h]
  rfl
theorem heap_put6 {x : World} {b : Nat} {T : TypeId} {c0 c1 c2 c3 c4 c5 : Value} (h : x.heap[b]? = some (.cells #[c0, c1, c2, c3, c4, c5] T (0, 0))) (v0 v1 v2 v3 v4 v5 : Value) :
    (put6 x b v0 v1 v2 v3 v4 v5).heap[b]? = some (.cells #[v0, v1, v2, v3, v4, v5] T (0, 0)) := by
  have := heap_put (heap_put (heap_put (heap_put (heap_put (heap_put h 0 v0) 1 v1) 2 v2) 3 v3) 4 v4) 5 v5
  unfold put6
  rw [this]
  simp
theorem upd_put6 {F : Nat → Prop} {w x : World} {b : Nat} (h : Upd F w x) (hb : b < w.heap.size → F b) (v0 v1 v2 v3 v4 v5 : Value) : Upd F w (put6 x b v0 v1 v2 v3 v4 v5) :=
  (((((h.setCell (p := ⟨b, 0, none⟩) hb v0).setCell (p := ⟨b, 1, none⟩) hb v1).setCell (p := ⟨b, 2, none⟩) hb v2).setCell (p := ⟨b, 3, none⟩) hb v3).setCell (p := ⟨b, 4, none⟩) hb v4).setCell (p := ⟨b, 5, none⟩) hb v5

/-- A client's slot: the last row's. -/
def rof (l : List Srw) (c : Int) : Option Slot := l.foldl (fun o x => if x.1 = c then some x.2 else o) none
theorem rof_snoc (l : List Srw) (x : Srw) (c : Int) : rof (l ++ [x]) c = if x.1 = c then some x.2 else rof l c := by
  unfold rof
  rw [List.foldl_append]
  rfl
theorem rof_any (l : List Srw) (c : Int) : (rof l c).isSome = l.any fun x => decide (x.1 = c) := by
  suffices ∀ (o : Option Slot), (l.foldl (fun o (x : Srw) => if x.1 = c then some x.2 else o) o).isSome = (o.isSome || l.any fun x => decide (x.1 = c)) by
    have := this none
    simpa [rof] using this
  induction l with
  | nil => intro o; simp
  | cons x l ih =>
    intro o
    rw [List.foldl_cons, ih, List.any_cons]
    by_cases e : x.1 = c <;> simp [e]
set_option maxHeartbeats 4000000 in
set_option maxRecDepth 100000 in
theorem rof_fn (w0 : World) (xs : List Nat) (q : Nat) (l : List Srw) (c : Int) (w : World) (h : RSt w0 w xs q l) :
    Calls Try.prog 38 #[.pointer (some ⟨q, 0, none⟩), .int .i64 c] w fun e w' => ∃ oc : Int, e = .returned (.tuple #[.agg #[.int .i64 oc, .int .u64 ((rof l c).getD Slot.zero).seq, .bool ((rof l c).getD Slot.zero).opn, .int .i64 ((rof l c).getD Slot.zero).at_, .int .i64 ((rof l c).getD Slot.zero).code, .int .u64 ((rof l c).getD Slot.zero).num], .bool (rof l c).isSome]) ∧ Upd NoB w w' := by
  obtain ⟨v, h1, h2⟩ := h
  have hc0 := (one_cell h1).1
  have hq := lt_of_heap h1
  have HX := Lib.hid h2.read
  obtain ⟨A, cc, cs, rfl, d1, d2, _⟩ := h2.read
  have d2' : cc ≤ 9223372036854775807 := d2
  clear h1 h2
  obtain ⟨wa, hwa⟩ : ∃ wa, (w.alloc (.cells #[.int .i64 0, .int .u64 0, .bool false, .int .i64 0, .int .i64 0, .int .u64 0] 79)).alloc (.cells #[.int .i64 0, .int .u64 0, .bool false, .int .i64 0, .int .i64 0, .int .u64 0] 79) = wa := ⟨_, rfl⟩
  have hua : Upd NoB w wa := by rw [← hwa]; exact ((Upd.refl _ _).alloc _).alloc _
  have hA : wa.heap[w.heap.size]? = some (.cells #[.int .i64 0, .int .u64 0, .bool false, .int .i64 0, .int .i64 0, .int .u64 0] 79 (0, 0)) := by
    rw [← hwa, Below.heap_alloc _ _ _ (by simp)]
    exact heap_alloc_new _ _
  have hB : wa.heap[w.heap.size + 1]? = some (.cells #[.int .i64 0, .int .u64 0, .bool false, .int .i64 0, .int .i64 0, .int .u64 0] 79 (0, 0)) := by
    have := heap_alloc_new (w.alloc (.cells #[.int .i64 0, .int .u64 0, .bool false, .int .i64 0, .int .i64 0, .int .u64 0] 79)) (.cells #[.int .i64 0, .int .u64 0, .bool false, .int .i64 0, .int .i64 0, .int .u64 0] 79 (0, 0))
    rw [show (w.alloc (.cells #[.int .i64 0, .int .u64 0, .bool false, .int .i64 0, .int .i64 0, .int .u64 0] 79)).heap.size = w.heap.size + 1 by simp, hwa] at this
    exact this
  have HA := Lib.hid hA
  have HB := Lib.hid hB
  have HU := Lib.hid hua
  subst hwa
  clear hA hB hua
  go_enter Try.func38, Try.ntmps38
  go_wp2_with fail
  go_loopw [7, 9, 16] (fun x7 x9 i wr => ∃ k : Nat, k ≤ l.length ∧ i = .int .i64 k ∧ ∃ (oc : Int) (s : Slot) (B : Bool), x7 = .bool B ∧ Hid (s = (rof (l.take k) c).getD Slot.zero) ∧ Hid (B = (rof (l.take k) c).isSome) ∧ Hid (wr.heap[w.heap.size + 1]? = some (.cells #[.int .i64 oc, .int .u64 s.seq, .bool s.opn, .int .i64 s.at_, .int .i64 s.code, .int .u64 s.num] 79 (0, 0))) ∧ Hid (wr.heap[w.heap.size]? = some (.cells #[.int .i64 0, .int .u64 0, .bool false, .int .i64 0, .int .i64 0, .int .u64 0] 79 (0, 0))) ∧ Hid (Upd NoB w wr)) (fun _ _ i _ => l.length - (intOf i).toNat)
  case atStart => exact ⟨0, by omega, rfl, 0, Slot.zero, false, rfl, Lib.hid rfl, Lib.hid rfl, HB, HA, HU⟩
  case round =>
    obtain ⟨k, hk, rfl, oc, s, B, rfl, hs, hBB, hb1, hb0, hU⟩ := hrel
    have hsz1 : w.heap.size + 1 < wr.heap.size := lt_of_heap hb1.out
    by_cases hlt : k < l.length
    · obtain ⟨g, o, rcs, rfl, hrep, hcell, hg⟩ := HX.out.cellN k hlt
      have hrep' : rcs = srwC l[k] := hrep
      subst hrep'
      have c0 : wr.cell? ⟨g, o + k * 6, none⟩ = some (.int .i64 l[k].1) := hU.out.cell (hcell 0 _ rfl) (fun h => h)
      have c1 : wr.cell? ⟨g, o + k * 6 + 1, none⟩ = some (.int .u64 l[k].2.seq) := hU.out.cell (hcell 1 _ rfl) (fun h => h)
      have c2 : wr.cell? ⟨g, o + k * 6 + 2, none⟩ = some (.bool l[k].2.opn) := hU.out.cell (hcell 2 _ rfl) (fun h => h)
      have c3 : wr.cell? ⟨g, o + k * 6 + 3, none⟩ = some (.int .i64 l[k].2.at_) := hU.out.cell (hcell 3 _ rfl) (fun h => h)
      have c4 : wr.cell? ⟨g, o + k * 6 + 4, none⟩ = some (.int .i64 l[k].2.code) := hU.out.cell (hcell 4 _ rfl) (fun h => h)
      have c5 : wr.cell? ⟨g, o + k * 6 + 5, none⟩ = some (.int .u64 l[k].2.num) := hU.out.cell (hcell 5 _ rfl) (fun h => h)
      have htk := Lib.hid (show l.take (k + 1) = l.take k ++ [l[k]] by rw [List.take_add_one, List.getElem?_eq_getElem hlt]; rfl)
      generalize l[k] = x at *
      obtain ⟨xc, xs', xo, xa, xd, xn⟩ := x
      simp only at c0 c1 c2 c3 c4 c5
      clear hcell
      obtain ⟨r0, r1, r2, r3, r4, r5⟩ := six_cells hb1.out
      obtain ⟨f0, f1, f2, f3, f4, f5⟩ := six_frz hb1.out
      have hUa := Lib.hid (fun o => hU.out.alloc o)
      have hb1a := Lib.hid (fun o => ((Upd.refl NoB wr).alloc o).heap hb1.out (fun h => h))
      have hb0a := Lib.hid (fun o => ((Upd.refl NoB wr).alloc o).heap hb0.out (fun h => h))
      by_cases e : xc = c
      · have et : (xc == c) = true := by simp [e]
        have hs2 := Lib.hid (show (⟨xs', xo, xa, xd, xn⟩ : Slot) = (rof (l.take (k + 1)) c).getD Slot.zero by rw [htk.out, rof_snoc, if_pos e]; rfl)
        have hB2 := Lib.hid (show true = (rof (l.take (k + 1)) c).isSome by rw [htk.out, rof_snoc, if_pos e]; rfl)
        have hh1 := Lib.hid (fun (o : Obj) => (Upd.refl NoB _).alloc o |>.heap (heap_put6 hb1.out (.int .i64 xc) (.int .u64 xs') (.bool xo) (.int .i64 xa) (.int .i64 xd) (.int .u64 xn)) (fun h => h))
        have hh0 := Lib.hid (fun (o : Obj) => (Upd.refl NoB _).alloc o |>.heap ((upd_put6 (Upd.refl (fun b => b = w.heap.size + 1) wr) (b := w.heap.size + 1) (fun _ => rfl) (.int .i64 xc) (.int .u64 xs') (.bool xo) (.int .i64 xa) (.int .i64 xd) (.int .u64 xn)).heap hb0.out (fun h => by have h' : w.heap.size = w.heap.size + 1 := h; omega)) (fun h => h))
        have hhU := Lib.hid (fun (o : Obj) => (upd_put6 hU.out (b := w.heap.size + 1) (fun h => by omega) (.int .i64 xc) (.int .u64 xs') (.bool xo) (.int .i64 xa) (.int .i64 xd) (.int .u64 xn)).alloc o)
        clear e htk
        go_wp2_with fail
        go_roundw
        case measure => simp [intOf]; omega
        case rel => exact ⟨k + 1, by omega, by go_num, xc, ⟨xs', xo, xa, xd, xn⟩, true, rfl, hs2, hB2, Lib.hid (hh1.out _), Lib.hid (hh0.out _), Lib.hid (hhU.out _)⟩
      · have et : (xc == c) = false := by simp [e]
        have hs2 := Lib.hid (show s = (rof (l.take (k + 1)) c).getD Slot.zero by rw [htk.out, rof_snoc, if_neg e]; exact hs.out)
        have hB2 := Lib.hid (show B = (rof (l.take (k + 1)) c).isSome by rw [htk.out, rof_snoc, if_neg e]; exact hBB.out)
        clear e htk
        go_wp2_with fail
        go_roundw
        case measure => simp [intOf]; omega
        case rel => exact ⟨k + 1, by omega, by go_num, oc, s, B, rfl, hs2, hB2, Lib.hid (hb1a.out _), Lib.hid (hb0a.out _), Lib.hid (hUa.out _)⟩
    · obtain rfl : k = l.length := by omega
      rw [List.take_length] at hs hBB
      obtain ⟨r0, r1, r2, r3, r4, r5⟩ := six_cells hb1.out
      obtain ⟨j0, j1, j2, j3, j4, j5⟩ := six_cells hb0.out
      obtain ⟨f0, f1, f2, f3, f4, f5⟩ := six_frz hb0.out
      have hfin := Lib.hid (upd_put6 hU.out (b := w.heap.size) (fun h => by omega) (.int .i64 oc) (.int .u64 s.seq) (.bool s.opn) (.int .i64 s.at_) (.int .i64 s.code) (.int .u64 s.num))
      go_wp2_with fail
      refine bodyPost_ret (v := .tuple #[.agg #[.int .i64 oc, .int .u64 s.seq, .bool s.opn, .int .i64 s.at_, .int .i64 s.code, .int .u64 s.num], .bool B]) (by simp [results, Try.results38, go_sem, *]) rfl ⟨oc, by rw [hs.out, hBB.out], hfin.out⟩
end Go.Proofs.Ytmcpcladjfddmaa
