/- Who holds what, function by function (5): one that is new; who writes a key. -/
import Derived.Test.YtobfolkcpfaplaaLock4
namespace Go.Proofs.Ytobfolkcpfaplaa
open Go.RowKit Kit
set_option linter.unusedVariables false

set_option maxHeartbeats 1000000 in
set_option maxRecDepth 100000 in
theorem newlock_any (w : World) : Calls Try.prog 11 #[] w fun e w' => ∃ p, e = .returned (.pointer (some ⟨p, 0, none⟩)) ∧ w.heap.size ≤ p ∧ Upd NoB w w' ∧ ∀ w0 xs, Lk w0 w' xs p [] 0 := by
  have fin := Lib.hid (fun w0 xs => show Lk w0 (w.alloc (.cells #[.slice none 0 0, .int .i64 0] 102)) xs w.heap.size [] 0 from ⟨_, heap_alloc_new _ _, OSl.nil _ _ _⟩)
  go_enter Try.func11, Try.ntmps11
  go_wp2_with fail
  go_ret
  exact ⟨_, rfl, Nat.le_refl _, (Upd.refl _ _).alloc _, fin.out⟩

/-- Does a span write a key at a number? -/
def Span.writes (s : Span) (key : ByteArray) (n : Int) : Bool := decide (s.at_ ≤ n) && ((decide (s.till = 0) || decide (n < s.till)) && s.wr.any fun x => decide (x = key))
def writerS (l : List Span) (key : ByteArray) (n : Int) : Option (Int × Int) := (l.find? fun s => s.writes key n).map fun s => (s.cl, s.sq)
theorem writerS_none {l : List Span} {key : ByteArray} {n : Int} (h : NoneOf (fun s => s.writes key n) l l.length) : writerS l key n = none := by
  unfold writerS
  rw [List.find?_eq_none.2 (fun x hx => ?_)]
  · rfl
  · obtain ⟨j, hj, e⟩ := List.getElem_of_mem hx
    have := h j x hj (by rw [List.getElem?_eq_getElem hj, e])
    simp only at this
    simp [this]
theorem writerS_some {l : List Span} {key : ByteArray} {n : Int} {k : Nat} {x : Span} (h : NoneOf (fun s => s.writes key n) l k) (hk : l[k]? = some x) (hx : x.writes key n = true) : writerS l key n = some (x.cl, x.sq) := by
  unfold writerS
  obtain ⟨hlt, e⟩ := List.getElem?_eq_some_iff.1 hk
  have hf : (l.find? fun s => s.writes key n) = some x := List.find?_eq_some_iff_getElem.2 ⟨hx, k, hlt, e, fun j hj => by
    have := h j l[j] hj (List.getElem?_eq_getElem (Nat.lt_trans hj hlt))
    simp only at this
    simp [this]⟩
  rw [hf]
  rfl
theorem id_cells {x : World} {b : Nat} {T : TypeId} {c0 c1 : Value} (h : x.heap[b]? = some (.cells #[c0, c1] T (0, 0))) :
    x.cell? ⟨b, 0, none⟩ = some c0 ∧ x.cell? ⟨b, 1, none⟩ = some c1 ∧ x.frozen? ⟨b, 0, none⟩ = false ∧ x.frozen? ⟨b, 1, none⟩ = false := by
  simp [World.cell?, World.frozen?, h]
theorem six_cells {x : World} {b : Nat} {T : TypeId} {fr : Nat × Nat} {c0 c1 c2 c3 c4 c5 : Value} (h : x.heap[b]? = some (.cells #[c0, c1, c2, c3, c4, c5] T fr)) :
    x.cell? ⟨b, 0, none⟩ = some c0 ∧ x.cell? ⟨b, 1, none⟩ = some c1 ∧ x.cell? ⟨b, 2, none⟩ = some c2 ∧ x.cell? ⟨b, 3, none⟩ = some c3 ∧ x.cell? ⟨b, 4, none⟩ = some c4 ∧ x.cell? ⟨b, 5, none⟩ = some c5 := by
  simp [World.cell?, h]
def idOf (o : Option (Int × Int)) : Value := .agg #[.int .i64 (o.getD (0, 0)).1, .int .u64 (o.getD (0, 0)).2]
theorem Kit.Upd.setCell2 {w x : World} {a : Nat} (h : Upd NoB w x) (ha : w.heap.size ≤ a) (v v' : Value) : Upd NoB w ((x.setCell ⟨a, 0, none⟩ v).setCell ⟨a, 1, none⟩ v') :=
  (h.setCell (p := ⟨a, 0, none⟩) (fun e => by simp only at e; omega) v).setCell (p := ⟨a, 1, none⟩) (fun e => by simp only at e; omega) v'
set_option maxHeartbeats 4000000 in
set_option maxRecDepth 100000 in
theorem writer_any (w0 : World) (xs : List Nat) (p : Nat) (l : List Span) (last : Int) (key : ByteArray) (n : Int) (w : World) (h : Lk w0 w xs p l last) (hl : l.length ≤ 100000) :
    Calls Try.prog 25 #[.pointer (some ⟨p, 0, none⟩), .string key, .int .i64 n] w fun e w' => e = .returned (.tuple #[idOf (writerS l key n), .bool (writerS l key n).isSome]) ∧ Upd NoB w w' := by
  obtain ⟨v, h1, h2⟩ := h
  have hc0 := (two_cells h1).1
  have hp := lt_of_heap h1
  obtain ⟨wa, hwa⟩ : ∃ wa, w.alloc (.cells #[.int .i64 0, .int .u64 0] 31) = wa := ⟨_, rfl⟩
  have hua : Upd NoB w wa := by rw [← hwa]; exact (Upd.refl _ _).alloc _
  have hA := Lib.hid (show wa.heap[w.heap.size]? = some (.cells #[.int .i64 0, .int .u64 0] 31 (0, 0)) by rw [← hwa]; exact heap_alloc_new _ _)
  have hsz : w.heap.size < wa.heap.size := lt_of_heap hA.out
  have ka := hua.cell hc0 (fun h => h)
  have HX := Lib.hid (h2.read.upd hua (fun _ _ h => h))
  obtain ⟨A, c, cs, rfl, d1, d2, _⟩ := h2.read
  have d2' : c ≤ 9223372036854775807 := d2
  have HU0 := Lib.hid hua
  clear h1 h2 hua
  have hnone := Lib.hid (fun h => writerS_none (l := l) (key := key) (n := n) h)
  have hsome := Lib.hid (fun k x => writerS_some (l := l) (key := key) (n := n) (k := k) (x := x))
  go_enter Try.func25, Try.ntmps25
  go_wp2_with fail
  go_loopw [9, 18] (fun x9 i wr => ∃ k : Nat, k ≤ l.length ∧ i = .int .i64 k ∧ Hid (NoneOf (fun s => s.writes key n) l k) ∧ Hid (Upd NoB wa wr)) (fun _ i _ => l.length - (intOf i).toNat)
  case atStart => exact ⟨0, by omega, rfl, Lib.hid (NoneOf.zero _ _), Lib.hid (Upd.refl _ _)⟩
  case round =>
    obtain ⟨k, hk, rfl, hN, hU⟩ := hrel
    by_cases hlt : k < l.length
    · obtain ⟨g, o, rcs, rfl, hrep, hcell, hg⟩ := HX.out.cellN k hlt
      obtain ⟨va, vb, rfl, hra, hrb⟩ := hrep
      have c0 : wr.cell? ⟨g, o + k * 6, none⟩ = some (.int .i64 l[k].cl) := hU.out.cell (hcell 0 _ rfl) (fun h => h)
      have c1 : wr.cell? ⟨g, o + k * 6 + 1, none⟩ = some (.int .u64 l[k].sq) := hU.out.cell (hcell 1 _ rfl) (fun h => h)
      have c2 : wr.cell? ⟨g, o + k * 6 + 2, none⟩ = some va := hU.out.cell (hcell 2 _ rfl) (fun h => h)
      have c3 : wr.cell? ⟨g, o + k * 6 + 3, none⟩ = some vb := hU.out.cell (hcell 3 _ rfl) (fun h => h)
      have c4 : wr.cell? ⟨g, o + k * 6 + 4, none⟩ = some (.int .i64 l[k].at_) := hU.out.cell (hcell 4 _ rfl) (fun h => h)
      have c5 : wr.cell? ⟨g, o + k * 6 + 5, none⟩ = some (.int .i64 l[k].till) := hU.out.cell (hcell 5 _ rfl) (fun h => h)
      have hx := Lib.hid (show l[k]? = some l[k] from List.getElem?_eq_getElem hlt)
      have hrb' := hrb.upd hU.out (fun _ _ h => h)
      have hwc := Lib.hid (fun w1 (hu : Upd NoB wr w1) => contains_any vb l[k].wr key w1 (hrb'.upd hu (fun _ _ h => h)))
      obtain ⟨Aa, ca, _, rfl, _⟩ := hra
      obtain ⟨Ab, cb, _, rfl, _⟩ := hrb
      have hUa := Lib.hid (fun o => hU.out.alloc o)
      have hUr := Lib.hid (fun o => (Upd.refl NoB wr).alloc o)
      have hmr : w.heap.size < wr.heap.size := Nat.lt_of_lt_of_le hsz hU.out.size
      have hAr := Lib.hid (hU.out.heap hA.out (fun h => h))
      have hS := Lib.hid (fun x' (hx : Upd NoB (wr.alloc (.cells #[.int .i64 l[k].cl, .int .u64 l[k].sq, .slice Aa l[k].rd.length ca, .slice Ab l[k].wr.length cb, .int .i64 l[k].at_, .int .i64 l[k].till] 106)) x') =>
        six_cells (hx.heap (heap_alloc_new wr (.cells #[.int .i64 l[k].cl, .int .u64 l[k].sq, .slice Aa l[k].rd.length ca, .slice Ab l[k].wr.length cb, .int .i64 l[k].at_, .int .i64 l[k].till] 106)) (fun h => h)))
      have hWD := Lib.hid (show l[k].writes key n = (decide (l[k].at_ ≤ n) && ((decide (l[k].till = 0) || decide (n < l[k].till)) && l[k].wr.any fun y => decide (y = key))) from rfl)
      generalize hxk : l[k] = x at *
      clear hcell hrb' hxk
      generalize (x.wr.any fun y => decide (y = key)) = W at *
      by_cases e1 : x.at_ ≤ n
      · have e1d : decide (x.at_ ≤ n) = true := decide_eq_true e1
        by_cases e2 : x.till = 0
        · have et : (x.till == 0) = true := by simpa using e2
          cases W
          · have hN2 := Lib.hid (hN.out.next hx.out (by rw [hWD.out]; simp))
            clear e2 e1 hWD
            go_wp2_with fail
            refine (hwc.out _ (hUr.out _)).mono ?_
            rintro e w2 ⟨rfl, hu⟩
            have hU2 := Lib.hid ((hUa.out _).trans hu)
            clear hu
            go_wp2_with fail
            go_roundw
            case measure => simp [intOf]; omega
            case rel => exact ⟨k + 1, by omega, by go_num, hN2, hU2⟩
          · have hres := Lib.hid (hsome.out k x hN.out hx.out (by rw [hWD.out]; simp [e1, e2]))
            clear e2 e1 hWD
            go_wp2_with fail
            refine (hwc.out _ (hUr.out _)).mono ?_
            rintro e w2 ⟨rfl, hu⟩
            obtain ⟨s0, s1, s2, s3, s4, s5⟩ := hS.out _ hu
            obtain ⟨r0, r1, f0, f1⟩ := id_cells (hu.heap ((hUr.out _).heap hAr.out (fun h => h)) (fun h => h))
            have hfin := Lib.hid (fun v v' => (HU0.out.trans ((hUa.out _).trans hu)).setCell2 (a := w.heap.size) (Nat.le_refl _) v v')
            clear hu
            go_wp2_with fail
            refine bodyPost_ret (v := .tuple #[.agg #[.int .i64 x.cl, .int .u64 x.sq], .bool true]) (by simp [results, Try.results25, go_sem, *]) rfl ⟨by rw [hres.out]; rfl, hfin.out _ _⟩
        · have et : (x.till == 0) = false := by simpa using e2
          by_cases e3 : n < x.till
          · have e3d : decide (n < x.till) = true := decide_eq_true e3
            cases W
            · have hN2 := Lib.hid (hN.out.next hx.out (by rw [hWD.out]; simp))
              clear e2 e1 hWD
              go_wp2_with fail
              refine (hwc.out _ (hUr.out _)).mono ?_
              rintro e w2 ⟨rfl, hu⟩
              have hU2 := Lib.hid ((hUa.out _).trans hu)
              clear hu
              go_wp2_with fail
              go_roundw
              case measure => simp [intOf]; omega
              case rel => exact ⟨k + 1, by omega, by go_num, hN2, hU2⟩
            · have hres := Lib.hid (hsome.out k x hN.out hx.out (by rw [hWD.out]; simp [e1, e3]))
              clear e2 e1 hWD
              go_wp2_with fail
              refine (hwc.out _ (hUr.out _)).mono ?_
              rintro e w2 ⟨rfl, hu⟩
              obtain ⟨s0, s1, s2, s3, s4, s5⟩ := hS.out _ hu
              obtain ⟨r0, r1, f0, f1⟩ := id_cells (hu.heap ((hUr.out _).heap hAr.out (fun h => h)) (fun h => h))
              have hfin := Lib.hid (fun v v' => (HU0.out.trans ((hUa.out _).trans hu)).setCell2 (a := w.heap.size) (Nat.le_refl _) v v')
              clear hu
              go_wp2_with fail
              refine bodyPost_ret (v := .tuple #[.agg #[.int .i64 x.cl, .int .u64 x.sq], .bool true]) (by simp [results, Try.results25, go_sem, *]) rfl ⟨by rw [hres.out]; rfl, hfin.out _ _⟩
          · have hN2 := Lib.hid (hN.out.next hx.out (by rw [hWD.out]; simp [e2, e3]))
            have e3d : decide (n < x.till) = false := decide_eq_false e3
            clear e2 e1 hWD
            go_wp2_with fail
            go_roundw
            case measure => simp [intOf]; omega
            case rel => exact ⟨k + 1, by omega, by go_num, hN2, Lib.hid (hUa.out _)⟩
      · have hN2 := Lib.hid (hN.out.next hx.out (by rw [hWD.out]; simp [e1]))
        have e1d : decide (x.at_ ≤ n) = false := decide_eq_false e1
        go_wp2_with fail
        go_roundw
        case measure => simp [intOf]; omega
        case rel => exact ⟨k + 1, by omega, by go_num, hN2, Lib.hid (hUa.out _)⟩
    · obtain rfl : k = l.length := by omega
      have hres := Lib.hid (hnone.out hN.out)
      obtain ⟨r0, r1, f0, f1⟩ := id_cells (hU.out.heap hA.out (fun h => h))
      have hfin := Lib.hid (fun v v' => (HU0.out.trans hU.out).setCell2 (a := w.heap.size) (Nat.le_refl _) v v')
      go_wp2_with fail
      refine bodyPost_ret (v := .tuple #[.agg #[.int .i64 0, .int .u64 0], .bool false]) (by simp [results, Try.results25, go_sem, *]) rfl ⟨by rw [hres.out]; rfl, hfin.out _ _⟩
end Go.Proofs.Ytobfolkcpfaplaa
