/- Who holds what, function by function (4): is a key busy; is one of some; who writes a key; how many hold something. -/
import Derived.Test.YtobfolkcpfaplaaLock3
namespace Go.Proofs.Ytobfolkcpfaplaa
open Go.RowKit Kit
set_option linter.unusedVariables false

def busyB (l : List Span) (key : ByteArray) (b : Bool) : Bool := l.any fun s => s.busy key b
set_option maxHeartbeats 2000000 in
set_option maxRecDepth 100000 in
theorem busy_any (w0 : World) (xs : List Nat) (p : Nat) (l : List Span) (last : Int) (key : ByteArray) (b : Bool) (w : World) (h : Lk w0 w xs p l last) :
    Calls Try.prog 21 #[.pointer (some ⟨p, 0, none⟩), .string key, .bool b] w fun e w' => e = .returned (.bool (busyB l key b)) ∧ Upd NoB w w' := by
  obtain ⟨v, h1, h2⟩ := h
  obtain ⟨hc0, hc1⟩ := two_cells h1
  have hp := lt_of_heap h1
  obtain ⟨wa, hwa⟩ : ∃ wa, (w.alloc (.cells #[.string key] 9)).alloc (.cells #[.bool b] 4) = wa := ⟨_, rfl⟩
  have hua : Upd NoB w wa := by rw [← hwa]; exact ((Upd.refl _ _).alloc _).alloc _
  have hA : wa.heap[w.heap.size]? = some (.cells #[.string key] 9 (0, 0)) := by
    rw [← hwa, Below.heap_alloc _ _ _ (by simp)]
    exact heap_alloc_new _ _
  have hB : wa.heap[w.heap.size + 1]? = some (.cells #[.bool b] 4 (0, 0)) := by
    have := heap_alloc_new (w.alloc (.cells #[.string key] 9)) (.cells #[.bool b] 4 (0, 0))
    rw [show (w.alloc (.cells #[.string key] 9)).heap.size = w.heap.size + 1 by simp, hwa] at this
    exact this
  have a0 := one_cell hA
  have b0 := one_cell hB
  have hi := Lib.hid (cont_bsy w.heap.size (w.heap.size + 1) v l (fun s => s.busy key b) wa (h2.read.upd hua (fun _ _ h => h)) (fun x va vb w1 ha hb hu =>
    bsy1_any x va vb _ _ key b w1 ha hb (hu.cell a0 (fun h => h)) (hu.cell b0 (fun h => h))))
  have HU := Lib.hid hua
  have k0 := hua.cell hc0 (fun h => h)
  obtain ⟨A, c, _, rfl, _⟩ := h2.read
  clear h2 hua hA hB a0 b0 h1 hc1
  unfold busyB
  generalize (l.any fun s => s.busy key b) = I at *
  go_enter Try.func21, Try.ntmps21
  go_wp2_with fail
  refine hi.out.mono ?_
  rintro e w2 ⟨rfl, hu⟩
  have HU2 := Lib.hid (HU.out.trans hu)
  clear hu
  go_wp2_with fail
  go_ret
  exact ⟨rfl, HU2.out⟩
set_option maxHeartbeats 1000000 in
theorem busy_nil (key : ByteArray) (b : Bool) (w : World) :
    Calls Try.prog 21 #[.pointer none, .string key, .bool b] w fun e w' => e = .returned (.bool false) ∧ Upd NoB w w' := by
  have HU := Lib.hid (fun o o' => ((Upd.refl NoB w).alloc o).alloc o')
  go_enter Try.func21, Try.ntmps21
  go_wp2_with fail
  go_ret
  exact ⟨rfl, HU.out _ _⟩
set_option maxHeartbeats 1000000 in
theorem busy1_any (w0 : World) (xs : List Nat) (p : Nat) (l : List Span) (last : Int) (key : ByteArray) (b : Bool) (i j : Nat) (w : World) (h : Lk w0 w xs p l last) (hi : w.cell? ⟨i, 0, none⟩ = some (.pointer (some ⟨p, 0, none⟩))) (hj : w.cell? ⟨j, 0, none⟩ = some (.bool b)) :
    Calls Try.prog 72 #[.string key, .pointer (some ⟨i, 0, none⟩), .pointer (some ⟨j, 0, none⟩)] w fun e w' => e = .returned (.bool (busyB l key b)) ∧ Upd NoB w w' := by
  have hb := Lib.hid (busy_any w0 xs p l last key b w h)
  clear h
  generalize busyB l key b = B at *
  go_enter Try.func72, Try.ntmps72
  go_wp2_with fail
  refine hb.out.mono ?_
  rintro e w2 ⟨rfl, hu⟩
  have HU := Lib.hid hu
  clear hu
  go_wp2_with fail
  go_ret
  exact ⟨rfl, HU.out⟩
set_option maxHeartbeats 2000000 in
set_option maxRecDepth 100000 in
theorem busyl_any {S : Nat → Prop} (w0 : World) (xs : List Nat) (p : Nat) (l : List Span) (last : Int) (v : Value) (ks : List ByteArray) (b : Bool) (w : World) (h : Lk w0 w xs p l last) (hk : RSl Rep.str w S v ks) :
    Calls Try.prog 52 #[.pointer (some ⟨p, 0, none⟩), v, .bool b] w fun e w' => e = .returned (.bool (ks.any fun k => busyB l k b)) ∧ Upd NoB w w' := by
  obtain ⟨wa, hwa⟩ : ∃ wa, (w.alloc (.cells #[.pointer (some ⟨p, 0, none⟩)] 23)).alloc (.cells #[.bool b] 4) = wa := ⟨_, rfl⟩
  have hua : Upd NoB w wa := by rw [← hwa]; exact ((Upd.refl _ _).alloc _).alloc _
  have hA : wa.heap[w.heap.size]? = some (.cells #[.pointer (some ⟨p, 0, none⟩)] 23 (0, 0)) := by
    rw [← hwa, Below.heap_alloc _ _ _ (by simp)]
    exact heap_alloc_new _ _
  have hB : wa.heap[w.heap.size + 1]? = some (.cells #[.bool b] 4 (0, 0)) := by
    have := heap_alloc_new (w.alloc (.cells #[.pointer (some ⟨p, 0, none⟩)] 23)) (.cells #[.bool b] 4 (0, 0))
    rw [show (w.alloc (.cells #[.pointer (some ⟨p, 0, none⟩)] 23)).heap.size = w.heap.size + 1 by simp, hwa] at this
    exact this
  have a0 := one_cell hA
  have b0 := one_cell hB
  have hi := Lib.hid (cont_busy w.heap.size (w.heap.size + 1) v ks (fun k => busyB l k b) wa (hk.upd hua (fun _ _ h => h)) (fun x w1 hx hu =>
    busy1_any w0 xs p l last x b _ _ w1 (h.keep (hua.trans hu) (fun h => h) (fun _ h => h.elim)) (hu.cell a0 (fun h => h)) (hu.cell b0 (fun h => h))))
  have HU := Lib.hid hua
  obtain ⟨A, c, _, rfl, _⟩ := hk
  clear h hua hA hB a0 b0
  generalize (ks.any fun k => busyB l k b) = I at *
  go_enter Try.func52, Try.ntmps52
  go_wp2_with fail
  refine hi.out.mono ?_
  rintro e w2 ⟨rfl, hu⟩
  have HU2 := Lib.hid (HU.out.trans hu)
  clear hu
  go_wp2_with fail
  go_ret
  exact ⟨rfl, HU2.out⟩

/-- How many hold something. -/
def lenS (l : List Span) : Nat := l.countP fun s => decide (s.till = 0)
set_option maxHeartbeats 2000000 in
set_option maxRecDepth 100000 in
theorem len_any (w0 : World) (xs : List Nat) (p : Nat) (l : List Span) (last : Int) (w : World) (h : Lk w0 w xs p l last) (hl : l.length ≤ 100000) :
    Calls Try.prog 23 #[.pointer (some ⟨p, 0, none⟩)] w fun e w' => e = .returned (.int .i64 (lenS l)) ∧ Upd NoB w w' := by
  obtain ⟨v, h1, h2⟩ := h
  have hc0 := (two_cells h1).1
  have HX := Lib.hid h2.read
  obtain ⟨A, c, cs, rfl, d1, d2, _⟩ := h2.read
  have d2' : c ≤ 9223372036854775807 := d2
  clear h1 h2
  go_enter Try.func23, Try.ntmps23
  go_wp2_with fail
  go_loopw [3, 5, 13] (fun n x5 i wr => ∃ k m : Nat, k ≤ l.length ∧ m ≤ k ∧ n = .int .i64 m ∧ i = .int .i64 k ∧ Hid (m = lenS (l.take k)) ∧ Hid (Upd NoB w wr)) (fun _ _ i _ => l.length - (intOf i).toNat)
  case atStart => exact ⟨0, 0, by omega, by omega, rfl, rfl, Lib.hid rfl, Lib.hid (Upd.refl _ _)⟩
  case round =>
    obtain ⟨k, m, hk, hm, rfl, rfl, hN, hU⟩ := hrel
    by_cases hlt : k < l.length
    · obtain ⟨g, o, rcs, rfl, hrep, hcell, hg⟩ := HX.out.cellN k hlt
      obtain ⟨va, vb, rfl, hra, hrb⟩ := hrep
      have c0 : wr.cell? ⟨g, o + k * 6, none⟩ = some (.int .i64 l[k].cl) := hU.out.cell (hcell 0 _ rfl) (fun h => h)
      have c1 : wr.cell? ⟨g, o + k * 6 + 1, none⟩ = some (.int .u64 l[k].sq) := hU.out.cell (hcell 1 _ rfl) (fun h => h)
      have c2 : wr.cell? ⟨g, o + k * 6 + 2, none⟩ = some va := hU.out.cell (hcell 2 _ rfl) (fun h => h)
      have c3 : wr.cell? ⟨g, o + k * 6 + 3, none⟩ = some vb := hU.out.cell (hcell 3 _ rfl) (fun h => h)
      have c4 : wr.cell? ⟨g, o + k * 6 + 4, none⟩ = some (.int .i64 l[k].at_) := hU.out.cell (hcell 4 _ rfl) (fun h => h)
      have c5 : wr.cell? ⟨g, o + k * 6 + 5, none⟩ = some (.int .i64 l[k].till) := hU.out.cell (hcell 5 _ rfl) (fun h => h)
      have hx := Lib.hid (show l[k]? = some l[k] from List.getElem?_eq_getElem hlt)
      have HRB := Lib.hid (hrb.upd hU.out (fun _ _ h => h))
      obtain ⟨Aa, ca, _, rfl, _⟩ := hra
      obtain ⟨Ab, cb, _, rfl, _⟩ := hrb
      have hUa := Lib.hid (fun o => hU.out.alloc o)
      have htk : l.take (k + 1) = l.take k ++ [l[k]] := by rw [List.take_add_one, hx.out]; rfl
      generalize l[k] = x at *
      by_cases e : x.till = 0
      · have et : (x.till == 0) = true := by simpa using e
        have hN2 := Lib.hid (show m + 1 = lenS (l.take (k + 1)) by rw [htk, lenS, List.countP_append, ← lenS, ← hN.out]; simp [e])
        clear e htk hcell
        go_wp2_with fail
        go_roundw
        case measure => simp [intOf]; omega
        case rel => exact ⟨k + 1, m + 1, by omega, by omega, by go_num, by go_num, hN2, Lib.hid (hUa.out _)⟩
      · have et : (x.till == 0) = false := by simpa using e
        have hN2 := Lib.hid (show m = lenS (l.take (k + 1)) by rw [htk, lenS, List.countP_append, ← lenS, ← hN.out]; simp [e])
        clear e htk hcell
        go_wp2_with fail
        go_roundw
        case measure => simp [intOf]; omega
        case rel => exact ⟨k + 1, m, by omega, by omega, rfl, by go_num, hN2, Lib.hid (hUa.out _)⟩
    · obtain rfl : k = l.length := by omega
      have hN2 := hN.out
      rw [List.take_length] at hN2
      have HN := Lib.hid hN2
      clear hN2
      go_wp2_with fail
      go_ret
      exact ⟨by rw [← HN.out]; rfl, hU.out⟩
set_option maxHeartbeats 1000000 in
theorem len_nil (w : World) : Calls Try.prog 23 #[.pointer none] w fun e w' => e = .returned (.int .i64 0) ∧ Upd NoB w w' := by
  go_enter Try.func23, Try.ntmps23
  go_wp2_with fail
  go_ret
  exact ⟨rfl, Upd.refl _ _⟩
end Go.Proofs.Ytobfolkcpfaplaa
