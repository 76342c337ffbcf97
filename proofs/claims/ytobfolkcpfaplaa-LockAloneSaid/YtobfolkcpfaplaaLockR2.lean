/- Who holds what, the document's table (2): what is busy, how many hold something, who writes a key. -/
import Derived.Test.YtobfolkcpfaplaaLockR1
namespace Go.Proofs.Ytobfolkcpfaplaa
open Go.RowKit Kit
set_option linter.unusedVariables false

theorem str_nil (s : ByteArray) : (s.toList == []) = decide (s.size = 0) ∧ s.toList.isEmpty = decide (s.size = 0) := by
  have e : s.toList.length = s.size := by rw [ByteArray.toList_eq, Array.length_toList]; rfl
  cases h : s.toList with
  | nil => rw [h] at e; have : s.size = 0 := e.symm; simp [this]
  | cons a l => rw [h] at e; have : s.size ≠ 0 := by rw [← e]; simp
                simp [this]
set_option maxHeartbeats 4000000 in
set_option maxRecDepth 100000 in
theorem rbusy_any (w0 : World) (xs : List Nat) (q : Nat) (l : List Rwl) (last : Int) (key : ByteArray) (b : Bool) (w : World) (h : RTb w0 w xs q l last) :
    Calls Try.prog 22 #[.pointer (some ⟨q, 0, none⟩), .string key, .bool b] w fun e w' => e = .returned (.bool (l.any fun r => r.busy key b)) ∧ Upd NoB w w' := by
  obtain ⟨v, h1, h2⟩ := h
  obtain ⟨hc0, hc1⟩ := two_cells h1
  have hq := lt_of_heap h1
  have HX := Lib.hid h2.read
  obtain ⟨A, c, cs, rfl, d1, d2, _⟩ := h2.read
  have d2' : c ≤ 9223372036854775807 := d2
  clear h1 h2
  obtain ⟨z1, z2⟩ := str_nil key
  obtain ⟨Z, hZ⟩ : ∃ Z, Z = decide (key.size = 0) := ⟨_, rfl⟩
  rw [← hZ] at z1 z2
  have HZ := Lib.hid hZ
  clear hZ
  go_enter Try.func22, Try.ntmps22
  go_wp2_with fail
  go_loopw [8, 14] (fun x8 i wr => ∃ k : Nat, k ≤ l.length ∧ i = .int .i64 k ∧ Hid (NoneOf (fun r => r.busy key b) l k) ∧ Hid (Upd NoB w wr)) (fun _ i _ => l.length - (intOf i).toNat)
  case atStart => exact ⟨0, by omega, rfl, Lib.hid (NoneOf.zero _ _), Lib.hid (Upd.refl _ _)⟩
  case round =>
    obtain ⟨k, hk, rfl, hN, hU⟩ := hrel
    by_cases hlt : k < l.length
    · obtain ⟨g, o, rcs, rfl, hrep, hcell, hg⟩ := HX.out.cellN k hlt
      obtain ⟨rfl, hks⟩ := hrep
      have c0 : wr.cell? ⟨g, o + k * 6, none⟩ = some (.int .i64 l[k].cl) := hU.out.cell (hcell 0 _ rfl) (fun h => h)
      have c1 : wr.cell? ⟨g, o + k * 6 + 1, none⟩ = some (.int .u64 l[k].sq) := hU.out.cell (hcell 1 _ rfl) (fun h => h)
      have c2 : wr.cell? ⟨g, o + k * 6 + 2, none⟩ = some (.string l[k].key) := hU.out.cell (hcell 2 _ rfl) (fun h => h)
      have c3 : wr.cell? ⟨g, o + k * 6 + 3, none⟩ = some (.bool l[k].wr) := hU.out.cell (hcell 3 _ rfl) (fun h => h)
      have c4 : wr.cell? ⟨g, o + k * 6 + 4, none⟩ = some (.int .i64 l[k].at_) := hU.out.cell (hcell 4 _ rfl) (fun h => h)
      have c5 : wr.cell? ⟨g, o + k * 6 + 5, none⟩ = some (.int .i64 l[k].till) := hU.out.cell (hcell 5 _ rfl) (fun h => h)
      have hx := Lib.hid (show l[k]? = some l[k] from List.getElem?_eq_getElem hlt)
      have hUa := Lib.hid (fun o => hU.out.alloc o)
      generalize l[k] = x at *
      clear hcell hks
      have hP := Lib.hid (show x.busy key b = (decide (x.till = 0) && (decide (x.key = key) && (!Z && (x.wr || b)))) by rw [HZ.out]; rfl)
      have hno := Lib.hid (fun (h : x.busy key b = false) => hN.out.next hx.out h)
      have hye := Lib.hid (fun (h : x.busy key b = true) => some_any (P := fun r => r.busy key b) hx.out h)
      obtain ⟨xc, xq, xk, xw, xa, xt⟩ := x
      simp only at c0 c1 c2 c3 c4 c5 hP
      clear hx
      by_cases e : xt = 0
      · have et : (xt == 0) = true := by simpa using e
        by_cases ek : xk = key
        · have ekb : (xk.toList == key.toList) = true := by rw [ek]; simp
          cases Z
          · by_cases ewb : (xw || b) = true
            · have hres := Lib.hid (hye.out (by rw [hP.out]; simp only [e, ek, ewb]; rfl))
              clear e ek hP hno hye
              cases xw
              · obtain rfl : b = true := by simpa using ewb
                clear ewb
                go_wp2_with fail
                go_ret
                exact ⟨by rw [hres.out]; rfl, hUa.out _⟩
              · clear ewb
                go_wp2_with fail
                go_ret
                exact ⟨by rw [hres.out]; rfl, hUa.out _⟩
            · have ewf : (xw || b) = false := by simpa using ewb
              have hN2 := Lib.hid (hno.out (by rw [hP.out, ewf]; simp))
              clear e ek ewb hP hno hye
              obtain ⟨rfl, rfl⟩ : xw = false ∧ b = false := by simpa using ewf
              clear ewf
              go_wp2_with fail
              go_roundw
              case measure => simp [intOf]; omega
              case rel => exact ⟨k + 1, by omega, by go_num, hN2, Lib.hid (hUa.out _)⟩
          · have hN2 := Lib.hid (hno.out (by rw [hP.out]; simp))
            clear e ek hP hno hye
            go_wp2_with fail
            go_roundw
            case measure => simp [intOf]; omega
            case rel => exact ⟨k + 1, by omega, by go_num, hN2, Lib.hid (hUa.out _)⟩
        · have ekb := str_ne xk key ek
          have hN2 := Lib.hid (hno.out (by rw [hP.out]; simp [ek]))
          clear e ek hP hno hye
          go_wp2_with fail
          go_roundw
          case measure => simp [intOf]; omega
          case rel => exact ⟨k + 1, by omega, by go_num, hN2, Lib.hid (hUa.out _)⟩
      · have et : (xt == 0) = false := by simpa using e
        have hN2 := Lib.hid (hno.out (by rw [hP.out]; simp [e]))
        clear e hP hno hye
        go_wp2_with fail
        go_roundw
        case measure => simp [intOf]; omega
        case rel => exact ⟨k + 1, by omega, by go_num, hN2, Lib.hid (hUa.out _)⟩
    · obtain rfl : k = l.length := by omega
      have hres := Lib.hid (none_any hN.out)
      go_wp2_with fail
      go_ret
      exact ⟨by rw [hres.out]; rfl, hU.out⟩
/-- How many hold something. -/
def lenR (l : List Rwl) : Nat := l.countP fun r => r.own
set_option maxHeartbeats 2000000 in
set_option maxRecDepth 100000 in
theorem rlen_any (w0 : World) (xs : List Nat) (q : Nat) (l : List Rwl) (last : Int) (w : World) (h : RTb w0 w xs q l last) (hl : l.length ≤ 100000) :
    Calls Try.prog 24 #[.pointer (some ⟨q, 0, none⟩)] w fun e w' => e = .returned (.int .i64 (lenR l)) ∧ Upd NoB w w' := by
  obtain ⟨v, h1, h2⟩ := h
  obtain ⟨hc0, hc1⟩ := two_cells h1
  have hq := lt_of_heap h1
  have HX := Lib.hid h2.read
  obtain ⟨A, c, cs, rfl, d1, d2, _⟩ := h2.read
  have d2' : c ≤ 9223372036854775807 := d2
  clear h1 h2
  go_enter Try.func24, Try.ntmps24
  go_wp2_with fail
  go_loopw [3, 5, 11] (fun n x5 i wr => ∃ k m : Nat, k ≤ l.length ∧ m ≤ k ∧ n = .int .i64 m ∧ i = .int .i64 k ∧ Hid (m = lenR (l.take k)) ∧ Hid (Upd NoB w wr)) (fun _ _ i _ => l.length - (intOf i).toNat)
  case atStart => exact ⟨0, 0, by omega, by omega, rfl, rfl, Lib.hid rfl, Lib.hid (Upd.refl _ _)⟩
  case round =>
    obtain ⟨k, m, hk, hm, rfl, rfl, hN, hU⟩ := hrel
    by_cases hlt : k < l.length
    · obtain ⟨g, o, rcs, rfl, hrep, hcell, hg⟩ := HX.out.cellN k hlt
      have htk : l.take (k + 1) = l.take k ++ [l[k]] := by rw [List.take_add_one, List.getElem?_eq_getElem hlt]; rfl
      have hcnt : lenR (l.take (k + 1)) = m + (if l[k].own then 1 else 0) := by rw [htk, lenR, List.countP_append, ← lenR, ← hN.out]; simp [List.countP_cons]
      have HC := Lib.hid hcnt
      clear htk hcnt
      obtain ⟨rfl, hks⟩ := hrep
      have c0 : wr.cell? ⟨g, o + k * 6, none⟩ = some (.int .i64 l[k].cl) := hU.out.cell (hcell 0 _ rfl) (fun h => h)
      have c1 : wr.cell? ⟨g, o + k * 6 + 1, none⟩ = some (.int .u64 l[k].sq) := hU.out.cell (hcell 1 _ rfl) (fun h => h)
      have c2 : wr.cell? ⟨g, o + k * 6 + 2, none⟩ = some (.string l[k].key) := hU.out.cell (hcell 2 _ rfl) (fun h => h)
      have c3 : wr.cell? ⟨g, o + k * 6 + 3, none⟩ = some (.bool l[k].wr) := hU.out.cell (hcell 3 _ rfl) (fun h => h)
      have c4 : wr.cell? ⟨g, o + k * 6 + 4, none⟩ = some (.int .i64 l[k].at_) := hU.out.cell (hcell 4 _ rfl) (fun h => h)
      have c5 : wr.cell? ⟨g, o + k * 6 + 5, none⟩ = some (.int .i64 l[k].till) := hU.out.cell (hcell 5 _ rfl) (fun h => h)
      have hx := Lib.hid (show l[k]? = some l[k] from List.getElem?_eq_getElem hlt)
      have hUa := Lib.hid (fun o => hU.out.alloc o)
      generalize l[k] = x at *
      clear hcell hks
      obtain ⟨xc, xq, xk, xw, xa, xt⟩ := x
      simp only at c0 c1 c2 c3 c4 c5
      obtain ⟨z1, z2⟩ := str_nil xk
      by_cases ek : xk.size = 0
      · rw [decide_eq_true ek] at z1 z2
        by_cases e : xt = 0
        · have et : (xt == 0) = true := by simpa using e
          have hN2 := Lib.hid (show m + 1 = lenR (l.take (k + 1)) by rw [HC.out]; simp [Rwl.own, e, ek])
          clear e ek HC
          go_wp2_with fail
          go_roundw
          case measure => simp [intOf]; omega
          case rel => exact ⟨k + 1, m + 1, by omega, by omega, by go_num, by go_num, hN2, Lib.hid (hUa.out _)⟩
        · have et : (xt == 0) = false := by simpa using e
          have hN2 := Lib.hid (show m = lenR (l.take (k + 1)) by rw [HC.out]; simp [Rwl.own, e])
          clear e ek HC
          go_wp2_with fail
          go_roundw
          case measure => simp [intOf]; omega
          case rel => exact ⟨k + 1, m, by omega, by omega, rfl, by go_num, hN2, Lib.hid (hUa.out _)⟩
      · rw [decide_eq_false ek] at z1 z2
        have hN2 := Lib.hid (show m = lenR (l.take (k + 1)) by rw [HC.out]; simp [Rwl.own, ek])
        clear ek HC
        go_wp2_with fail
        go_roundw
        case measure => simp [intOf]; omega
        case rel => exact ⟨k + 1, m, by omega, by omega, rfl, by go_num, hN2, Lib.hid (hUa.out _)⟩
    · obtain rfl : k = l.length := by omega
      have hN2 := hN.out
      rw [List.take_length] at hN2
      have HN := Lib.hid hN2
      clear hN2
      go_wp2_with fail
      go_ret
      exact ⟨by rw [← HN.out]; rfl, hU.out⟩
/-- Does a row write a key at a number? -/
def Rwl.writes (r : Rwl) (key : ByteArray) (n : Int) : Bool := r.wr && (decide (r.key = key) && (decide (r.at_ ≤ n) && (decide (r.till = 0) || decide (n < r.till))))
def writerR (l : List Rwl) (key : ByteArray) (n : Int) : Option (Int × Int) := (l.find? fun r => r.writes key n).map fun r => (r.cl, r.sq)
theorem writerR_none {l : List Rwl} {key : ByteArray} {n : Int} (h : NoneOf (fun r => r.writes key n) l l.length) : writerR l key n = none := by
  unfold writerR
  rw [List.find?_eq_none.2 (fun x hx => ?_)]
  · rfl
  · obtain ⟨j, hj, e⟩ := List.getElem_of_mem hx
    have := h j x hj (by rw [List.getElem?_eq_getElem hj, e])
    simp only at this
    simp [this]
theorem writerR_some {l : List Rwl} {key : ByteArray} {n : Int} {k : Nat} {x : Rwl} (h : NoneOf (fun r => r.writes key n) l k) (hk : l[k]? = some x) (hx : x.writes key n = true) : writerR l key n = some (x.cl, x.sq) := by
  unfold writerR
  obtain ⟨hlt, e⟩ := List.getElem?_eq_some_iff.1 hk
  have hf : (l.find? fun r => r.writes key n) = some x := List.find?_eq_some_iff_getElem.2 ⟨hx, k, hlt, e, fun j hj => by
    have := h j l[j] hj (List.getElem?_eq_getElem (Nat.lt_trans hj hlt))
    simp only at this
    simp [this]⟩
  rw [hf]
  rfl
set_option maxHeartbeats 4000000 in
set_option maxRecDepth 100000 in
theorem rwriter_any (w0 : World) (xs : List Nat) (q : Nat) (l : List Rwl) (last : Int) (key : ByteArray) (n : Int) (w : World) (h : RTb w0 w xs q l last) :
    Calls Try.prog 26 #[.pointer (some ⟨q, 0, none⟩), .string key, .int .i64 n] w fun e w' => e = .returned (.tuple #[idOf (writerR l key n), .bool (writerR l key n).isSome]) ∧ Upd NoB w w' := by
  obtain ⟨v, h1, h2⟩ := h
  obtain ⟨hc0, hc1⟩ := two_cells h1
  have hq := lt_of_heap h1
  have HX := Lib.hid h2.read
  obtain ⟨A, c, cs, rfl, d1, d2, _⟩ := h2.read
  have d2' : c ≤ 9223372036854775807 := d2
  clear h1 h2
  obtain ⟨wa, hwa⟩ : ∃ wa, w.alloc (.cells #[.int .i64 0, .int .u64 0] 31) = wa := ⟨_, rfl⟩
  have hua : Upd NoB w wa := by rw [← hwa]; exact (Upd.refl _ _).alloc _
  have hA := Lib.hid (show wa.heap[w.heap.size]? = some (.cells #[.int .i64 0, .int .u64 0] 31 (0, 0)) by rw [← hwa]; exact heap_alloc_new _ _)
  have hsz : w.heap.size < wa.heap.size := lt_of_heap hA.out
  have k0 := hua.cell hc0 (fun h => h)
  have HUa := Lib.hid hua
  clear hua
  have hnone := Lib.hid (fun h => writerR_none (l := l) (key := key) (n := n) h)
  have hsome := Lib.hid (fun k x => writerR_some (l := l) (key := key) (n := n) (k := k) (x := x))
  go_enter Try.func26, Try.ntmps26
  go_wp2_with fail
  go_loopw [9, 15] (fun x9 i wr => ∃ k : Nat, k ≤ l.length ∧ i = .int .i64 k ∧ Hid (NoneOf (fun r => r.writes key n) l k) ∧ Hid (Upd NoB wa wr)) (fun _ i _ => l.length - (intOf i).toNat)
  case atStart => exact ⟨0, by omega, rfl, Lib.hid (NoneOf.zero _ _), Lib.hid (Upd.refl _ _)⟩
  case round =>
    obtain ⟨k, hk, rfl, hN, hV⟩ := hrel
    have hU := Lib.hid (HUa.out.trans hV.out)
    by_cases hlt : k < l.length
    · obtain ⟨g, o, rcs, rfl, hrep, hcell, hg⟩ := HX.out.cellN k hlt
      obtain ⟨rfl, hks⟩ := hrep
      have c0 : wr.cell? ⟨g, o + k * 6, none⟩ = some (.int .i64 l[k].cl) := hU.out.cell (hcell 0 _ rfl) (fun h => h)
      have c1 : wr.cell? ⟨g, o + k * 6 + 1, none⟩ = some (.int .u64 l[k].sq) := hU.out.cell (hcell 1 _ rfl) (fun h => h)
      have c2 : wr.cell? ⟨g, o + k * 6 + 2, none⟩ = some (.string l[k].key) := hU.out.cell (hcell 2 _ rfl) (fun h => h)
      have c3 : wr.cell? ⟨g, o + k * 6 + 3, none⟩ = some (.bool l[k].wr) := hU.out.cell (hcell 3 _ rfl) (fun h => h)
      have c4 : wr.cell? ⟨g, o + k * 6 + 4, none⟩ = some (.int .i64 l[k].at_) := hU.out.cell (hcell 4 _ rfl) (fun h => h)
      have c5 : wr.cell? ⟨g, o + k * 6 + 5, none⟩ = some (.int .i64 l[k].till) := hU.out.cell (hcell 5 _ rfl) (fun h => h)
      have hx := Lib.hid (show l[k]? = some l[k] from List.getElem?_eq_getElem hlt)
      have hUa := Lib.hid (fun o => hU.out.alloc o)
      generalize l[k] = x at *
      clear hcell hks
      have hUa := Lib.hid (fun o => hV.out.alloc o)
      have hsr : w.heap.size < wr.heap.size := Nat.lt_of_lt_of_le hsz hV.out.size
      obtain ⟨r0, r1, f0, f1⟩ := id_cells (hV.out.heap hA.out (fun h => h))
      have hfin := Lib.hid (fun o v v' => ((HUa.out.trans hV.out).setCell2 (a := w.heap.size) (Nat.le_refl _) v v').alloc o)
      have hP := Lib.hid (show x.writes key n = (x.wr && (decide (x.key = key) && (decide (x.at_ ≤ n) && (decide (x.till = 0) || decide (n < x.till))))) from rfl)
      have hno := Lib.hid (fun (h : x.writes key n = false) => hN.out.next hx.out h)
      have hye := Lib.hid (fun (h : x.writes key n = true) => hsome.out k x hN.out hx.out h)
      obtain ⟨xc, xq, xk, xw, xa, xt⟩ := x
      simp only at c0 c1 c2 c3 c4 c5 hP hye
      clear hx
      cases xw
      · have hN2 := Lib.hid (hno.out (by rw [hP.out]; simp))
        clear hP hno hye
        go_wp2_with fail
        go_roundw
        case measure => simp [intOf]; omega
        case rel => exact ⟨k + 1, by omega, by go_num, hN2, Lib.hid (hUa.out _)⟩
      by_cases ek : xk = key
      · have ekb : (xk.toList == key.toList) = true := by rw [ek]; simp
        by_cases ea : xa ≤ n
        · have ead : decide (xa ≤ n) = true := decide_eq_true ea
          by_cases e : xt = 0
          · have et : (xt == 0) = true := by simpa using e
            have hres := Lib.hid (hye.out (by rw [hP.out]; simp [e, ek, ea]))
            clear e ek ea hP hno hye
            go_wp2_with fail
            refine bodyPost_ret (v := .tuple #[.agg #[.int .i64 xc, .int .u64 xq], .bool true]) (by simp [results, Try.results26, go_sem, *]) rfl ⟨by rw [hres.out]; rfl, hfin.out _ _ _⟩
          · have et : (xt == 0) = false := by simpa using e
            by_cases en : n < xt
            · have end' : decide (n < xt) = true := decide_eq_true en
              have hres := Lib.hid (hye.out (by rw [hP.out]; simp [ek, ea, en]))
              clear e ek ea hP hno hye
              go_wp2_with fail
              refine bodyPost_ret (v := .tuple #[.agg #[.int .i64 xc, .int .u64 xq], .bool true]) (by simp [results, Try.results26, go_sem, *]) rfl ⟨by rw [hres.out]; rfl, hfin.out _ _ _⟩
            · have end' : decide (n < xt) = false := decide_eq_false en
              have hN2 := Lib.hid (hno.out (by rw [hP.out]; simp [e, en]))
              clear e ek ea hP hno hye
              go_wp2_with fail
              go_roundw
              case measure => simp [intOf]; omega
              case rel => exact ⟨k + 1, by omega, by go_num, hN2, Lib.hid (hUa.out _)⟩
        · have ead : decide (xa ≤ n) = false := decide_eq_false ea
          have hN2 := Lib.hid (hno.out (by rw [hP.out]; simp [ea]))
          clear ek ea hP hno hye
          go_wp2_with fail
          go_roundw
          case measure => simp [intOf]; omega
          case rel => exact ⟨k + 1, by omega, by go_num, hN2, Lib.hid (hUa.out _)⟩
      · have ekb := str_ne xk key ek
        have hN2 := Lib.hid (hno.out (by rw [hP.out]; simp [ek]))
        clear ek hP hno hye
        go_wp2_with fail
        go_roundw
        case measure => simp [intOf]; omega
        case rel => exact ⟨k + 1, by omega, by go_num, hN2, Lib.hid (hUa.out _)⟩
    · obtain rfl : k = l.length := by omega
      have hres := Lib.hid (hnone.out hN.out)
      obtain ⟨r0, r1, f0, f1⟩ := id_cells (hV.out.heap hA.out (fun h => h))
      have hfin := Lib.hid (fun v v' => (HUa.out.trans hV.out).setCell2 (a := w.heap.size) (Nat.le_refl _) v v')
      go_wp2_with fail
      refine bodyPost_ret (v := .tuple #[.agg #[.int .i64 0, .int .u64 0], .bool false]) (by simp [results, Try.results26, go_sem, *]) rfl ⟨by rw [hres.out]; rfl, hfin.out _ _⟩
end Go.Proofs.Ytobfolkcpfaplaa
