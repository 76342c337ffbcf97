/- Who holds what, the document's table (4): somebody holds nothing any more. -/
import Derived.Test.YtobfolkcpfaplaaLockR3
namespace Go.Proofs.Ytobfolkcpfaplaa
open Go.RowKit Kit
set_option linter.unusedVariables false

def freed (cl sq a : Int) (r : Rwl) : Rwl := if r.held cl sq = true then { r with till := a } else r
/-- What the document's Free answers; the rows behind it, the last number. -/
def rfree (l : List Rwl) (last cl sq a : Int) : Int × List Rwl × Int :=
  if a ≤ last then (1, l, last)
  else if (l.any fun r => r.held cl sq) = false then (6, l, last)
  else (0, l.map (freed cl sq a), a)
set_option maxHeartbeats 8000000 in
set_option maxRecDepth 100000 in
theorem rfree_any (w0 : World) (xs : List Nat) (q : Nat) (l : List Rwl) (last cl sq a : Int) (w : World) (h : RTb w0 w xs q l last)
    (hq : q ∈ xs) (hxs : ∀ x ∈ xs, x < w.heap.size) (h0 : w0.heap.size ≤ w.heap.size) (hl : l.length ≤ 10000) :
    Calls Try.prog 15 #[.pointer (some ⟨q, 0, none⟩), .agg #[.int .i64 cl, .int .u64 sq], .int .i64 a] w fun e w' => e = .returned (.int .i64 (rfree l last cl sq a).1) ∧ RTb w0 w' xs q (rfree l last cl sq a).2.1 (rfree l last cl sq a).2.2 ∧ Upd (fun b => b = q ∨ New w0 w xs b) w w' := by
  have HK := Lib.hid (fun x (hx : Upd NoB w x) => h.keep hx (fun h => h) (fun _ h => h.elim))
  obtain ⟨v, h1, h2⟩ := id h
  have hqlt := lt_of_heap h1
  have H1 := Lib.hid h1
  have HX := Lib.hid h2.read
  obtain ⟨A, c, _, rfl, _, d2, _⟩ := h2.read
  have d2' : c ≤ 9223372036854775807 := d2
  have HR0 := Lib.hid (fun (h : a ≤ last) => show rfree l last cl sq a = (1, l, last) by unfold rfree; rw [if_pos h])
  have HR1 := Lib.hid (fun (h : ¬ a ≤ last) (h1 : (l.any fun r => r.held cl sq) = false) => show rfree l last cl sq a = (6, l, last) by unfold rfree; rw [if_neg h, if_pos h1])
  have HR2 := Lib.hid (fun (h : ¬ a ≤ last) (h1 : (l.any fun r => r.held cl sq) = true) => show rfree l last cl sq a = (0, l.map (freed cl sq a), a) by unfold rfree; rw [if_neg h, if_neg (by rw [h1]; simp)])
  generalize rfree l last cl sq a = R at *
  obtain ⟨wa, hwa⟩ : ∃ wa, w.alloc (.cells #[.int .i64 cl, .int .u64 sq] 31) = wa := ⟨_, rfl⟩
  have hua : Upd NoB w wa := by rw [← hwa]; exact (Upd.refl _ _).alloc _
  have hB : wa.heap[w.heap.size]? = some (.cells #[.int .i64 cl, .int .u64 sq] 31 (0, 0)) := by rw [← hwa]; exact heap_alloc_new _ _
  have hcl := Lib.hid (fun x (hx : Upd NoB wa x) => two_cells (hx.heap hB (fun h => h)))
  have hct := Lib.hid (fun x (hx : Upd NoB w x) => two_cells (hx.heap H1.out (fun h => h)))
  have hsz : w.heap.size < wa.heap.size := lt_of_heap hB
  obtain ⟨p0, p1⟩ := hct.out wa hua
  obtain ⟨i0, i1⟩ := hcl.out wa (Upd.refl _ _)
  have HUa := Lib.hid hua
  have HHo := Lib.hid (rholds_any w0 xs q l last cl sq wa (HK.out _ hua))
  clear hB h h1 h2 hua
  by_cases ha : a ≤ last
  · have had : decide (a ≤ last) = true := decide_eq_true ha
    have hR := HR0.out ha
    have HR := Lib.hid hR
    clear ha hR
    go_enter Try.func15, Try.ntmps15
    go_wp2_with fail
    go_ret
    exact ⟨by rw [HR.out]; rfl, by rw [HR.out]; exact HK.out _ HUa.out, HUa.out.mono (fun _ _ h => h.elim)⟩
  have had : decide (a ≤ last) = false := decide_eq_false ha
  have hR1 := HR1.out ha
  have hR2 := HR2.out ha
  clear ha
  cases hHb : (l.any fun r => r.held cl sq)
  · rw [hHb] at HHo
    have hR := hR1 hHb
    have HR := Lib.hid hR
    clear hHb hR hR1 hR2
    go_enter Try.func15, Try.ntmps15
    go_wp2_with fail
    refine HHo.out.mono ?_
    rintro e w1 ⟨rfl, hu⟩
    have HU1 := Lib.hid (HUa.out.trans hu)
    clear hu
    go_wp2_with fail
    go_ret
    exact ⟨by rw [HR.out]; rfl, by rw [HR.out]; exact HK.out _ HU1.out, HU1.out.mono (fun _ _ h => h.elim)⟩
  rw [hHb] at HHo
  have hR := hR2 hHb
  have HR := Lib.hid hR
  clear hHb hR hR1 hR2
  go_enter Try.func15, Try.ntmps15
  go_wp2_with fail
  refine HHo.out.mono ?_
  rintro e wc ⟨rfl, hu⟩
  have HUc := Lib.hid (HUa.out.trans hu)
  have HUac := Lib.hid hu
  obtain ⟨q0, q1⟩ := hct.out wc HUc.out
  have hscz : w.heap.size < wc.heap.size := Nat.lt_of_lt_of_le hsz hu.size
  clear hu
  go_wp2_with fail
  go_loopw [7, 9, 25] (fun x7 x9 i wr => ∃ k : Nat, k ≤ l.length ∧ i = .int .i64 k ∧ Hid (Mine Rep.rwl 39 wc wr x7 ((l.map (freed cl sq a)).take k))) (fun _ _ i _ => l.length - (intOf i).toNat)
  case atStart => exact ⟨0, by omega, rfl, Lib.hid (Mine.nil wc (Upd.refl _ _))⟩
  case round =>
    obtain ⟨k, hk, rfl, hM⟩ := hrel
    have hU := Lib.hid (HUc.out.trans hM.out.2)
    by_cases hlt : k < l.length
    · obtain ⟨g, o, rcs, rfl, hrep, hcell, hg⟩ := HX.out.cellN k hlt
      obtain ⟨rfl, hks⟩ := hrep
      have c0 : wr.cell? ⟨g, o + k * 6, none⟩ = some (.int .i64 l[k].cl) := hU.out.cell (hcell 0 _ rfl) (fun h => h)
      have c1 : wr.cell? ⟨g, o + k * 6 + 1, none⟩ = some (.int .u64 l[k].sq) := hU.out.cell (hcell 1 _ rfl) (fun h => h)
      have c2 : wr.cell? ⟨g, o + k * 6 + 2, none⟩ = some (.string l[k].key) := hU.out.cell (hcell 2 _ rfl) (fun h => h)
      have c3 : wr.cell? ⟨g, o + k * 6 + 3, none⟩ = some (.bool l[k].wr) := hU.out.cell (hcell 3 _ rfl) (fun h => h)
      have c4 : wr.cell? ⟨g, o + k * 6 + 4, none⟩ = some (.int .i64 l[k].at_) := hU.out.cell (hcell 4 _ rfl) (fun h => h)
      have c5 : wr.cell? ⟨g, o + k * 6 + 5, none⟩ = some (.int .i64 l[k].till) := hU.out.cell (hcell 5 _ rfl) (fun h => h)
      have hx := Lib.hid (show l[k]? = some l[k] from List.getElem?_eq_getElem hlt)
      have hall : (((l.map (freed cl sq a)).take k).length + 1) * 56 ≤ 140737488355328 := by simp; omega
      obtain ⟨j0, j1⟩ := hcl.out wr (HUac.out.trans hM.out.2)
      have hsr : w.heap.size < wr.heap.size := Nat.lt_of_lt_of_le hscz hM.out.2.size
      generalize l[k] = x at *
      clear hcell
      obtain ⟨xc, xq, xk, xw, xa, xt⟩ := x
      simp only at c0 c1 c2 c3 c4 c5 hks
      by_cases e : xt = 0
      · have et : (xt == 0) = true := by simpa using e
        by_cases e1 : xc = cl
        · subst e1
          by_cases e2 : xq = sq
          · subst e2
            have hsuc := Lib.hid (show (l.map (freed xc xq a)).take (k + 1) = (l.map (freed xc xq a)).take k ++ [(⟨xc, xq, xk, xw, xa, a⟩ : Rwl)] by rw [List.take_add_one, List.getElem?_map, hx.out]; simp [freed, Rwl.held, e])
            have hy := Lib.hid (fun W => show Rep.rwl.rep W NoB (⟨xc, xq, xk, xw, xa, a⟩ : Rwl) #[.int .i64 xc, .int .u64 xq, .string xk, .bool xw, .int .i64 xa, .int .i64 a].toList from ⟨rfl, hks⟩)
            obtain ⟨w1, hw1⟩ : ∃ w1, wr.alloc (.cells #[.int .i64 xc, .int .u64 xq, .string xk, .bool xw, .int .i64 xa, .int .i64 a] 39) = w1 := ⟨_, rfl⟩
            have hu1 : Upd NoB wr w1 := by rw [← hw1]; exact (Upd.refl _ _).alloc _
            have hB1 : w1.heap[wr.heap.size]? = some (.cells #[.int .i64 xc, .int .u64 xq, .string xk, .bool xw, .int .i64 xa, .int .i64 a] 39 (0, 0)) := by rw [← hw1]; exact heap_alloc_new _ _
            obtain ⟨s0, s1, s2, s3, s4, s5⟩ := six_cells hB1
            have HM1 := Lib.hid (hM.out.upd hu1)
            have HO1 := Lib.hid HM1.out.1
            have HB1 := Lib.hid HM1.out.bd
            obtain ⟨t0, t1⟩ := hcl.out w1 (HUac.out.trans HM1.out.2)
            clear hx hu1 hB1
            clear e
            go_wp2_with (at_builtin; go_must (refine app_one (r := Rep.rwl) (y := (⟨xc, xq, xk, xw, xa, a⟩ : Rwl)) rfl _ _ 26 39 (.agg #[.int .i64 0, .int .u64 0, .string ⟨#[]⟩, .bool false, .int .i64 0, .int .i64 0]) 56 rfl Try.underlying26 iRwl rfl (by decide) rfl rfl HO1.out HB1.out (hy.out _) (fun b hb => hb.elim) hall ?_))
            intro v1 w3 ho3 hu3
            have fin := Lib.hid (show Mine Rep.rwl 39 wc w3 v1 ((l.map (freed xc xq a)).take (k + 1)) by rw [hsuc.out]; exact HM1.out.app ho3 hu3)
            clear ho3 hu3
            go_wp2_with fail
            go_roundw
            case measure => simp [intOf]; omega
            case rel => exact ⟨k + 1, by omega, by go_num, fin⟩
          · skip
            have hsuc := Lib.hid (show (l.map (freed xc sq a)).take (k + 1) = (l.map (freed xc sq a)).take k ++ [(⟨xc, xq, xk, xw, xa, xt⟩ : Rwl)] by rw [List.take_add_one, List.getElem?_map, hx.out]; simp [freed, Rwl.held, e2])
            have hy := Lib.hid (fun W => show Rep.rwl.rep W NoB (⟨xc, xq, xk, xw, xa, xt⟩ : Rwl) #[.int .i64 xc, .int .u64 xq, .string xk, .bool xw, .int .i64 xa, .int .i64 xt].toList from ⟨rfl, hks⟩)
            obtain ⟨w1, hw1⟩ : ∃ w1, wr.alloc (.cells #[.int .i64 xc, .int .u64 xq, .string xk, .bool xw, .int .i64 xa, .int .i64 xt] 39) = w1 := ⟨_, rfl⟩
            have hu1 : Upd NoB wr w1 := by rw [← hw1]; exact (Upd.refl _ _).alloc _
            have hB1 : w1.heap[wr.heap.size]? = some (.cells #[.int .i64 xc, .int .u64 xq, .string xk, .bool xw, .int .i64 xa, .int .i64 xt] 39 (0, 0)) := by rw [← hw1]; exact heap_alloc_new _ _
            obtain ⟨s0, s1, s2, s3, s4, s5⟩ := six_cells hB1
            have HM1 := Lib.hid (hM.out.upd hu1)
            have HO1 := Lib.hid HM1.out.1
            have HB1 := Lib.hid HM1.out.bd
            obtain ⟨t0, t1⟩ := hcl.out w1 (HUac.out.trans HM1.out.2)
            clear hx hu1 hB1
            clear e
            go_wp2_with (at_builtin; go_must (refine app_one (r := Rep.rwl) (y := (⟨xc, xq, xk, xw, xa, xt⟩ : Rwl)) rfl _ _ 26 39 (.agg #[.int .i64 0, .int .u64 0, .string ⟨#[]⟩, .bool false, .int .i64 0, .int .i64 0]) 56 rfl Try.underlying26 iRwl rfl (by decide) rfl rfl HO1.out HB1.out (hy.out _) (fun b hb => hb.elim) hall ?_))
            intro v1 w3 ho3 hu3
            have fin := Lib.hid (show Mine Rep.rwl 39 wc w3 v1 ((l.map (freed xc sq a)).take (k + 1)) by rw [hsuc.out]; exact HM1.out.app ho3 hu3)
            clear ho3 hu3
            go_wp2_with fail
            go_roundw
            case measure => simp [intOf]; omega
            case rel => exact ⟨k + 1, by omega, by go_num, fin⟩
        · skip
          have hsuc := Lib.hid (show (l.map (freed cl sq a)).take (k + 1) = (l.map (freed cl sq a)).take k ++ [(⟨xc, xq, xk, xw, xa, xt⟩ : Rwl)] by rw [List.take_add_one, List.getElem?_map, hx.out]; simp [freed, Rwl.held, e1])
          have hy := Lib.hid (fun W => show Rep.rwl.rep W NoB (⟨xc, xq, xk, xw, xa, xt⟩ : Rwl) #[.int .i64 xc, .int .u64 xq, .string xk, .bool xw, .int .i64 xa, .int .i64 xt].toList from ⟨rfl, hks⟩)
          obtain ⟨w1, hw1⟩ : ∃ w1, wr.alloc (.cells #[.int .i64 xc, .int .u64 xq, .string xk, .bool xw, .int .i64 xa, .int .i64 xt] 39) = w1 := ⟨_, rfl⟩
          have hu1 : Upd NoB wr w1 := by rw [← hw1]; exact (Upd.refl _ _).alloc _
          have hB1 : w1.heap[wr.heap.size]? = some (.cells #[.int .i64 xc, .int .u64 xq, .string xk, .bool xw, .int .i64 xa, .int .i64 xt] 39 (0, 0)) := by rw [← hw1]; exact heap_alloc_new _ _
          obtain ⟨s0, s1, s2, s3, s4, s5⟩ := six_cells hB1
          have HM1 := Lib.hid (hM.out.upd hu1)
          have HO1 := Lib.hid HM1.out.1
          have HB1 := Lib.hid HM1.out.bd
          obtain ⟨t0, t1⟩ := hcl.out w1 (HUac.out.trans HM1.out.2)
          clear hx hu1 hB1
          clear e
          go_wp2_with (at_builtin; go_must (refine app_one (r := Rep.rwl) (y := (⟨xc, xq, xk, xw, xa, xt⟩ : Rwl)) rfl _ _ 26 39 (.agg #[.int .i64 0, .int .u64 0, .string ⟨#[]⟩, .bool false, .int .i64 0, .int .i64 0]) 56 rfl Try.underlying26 iRwl rfl (by decide) rfl rfl HO1.out HB1.out (hy.out _) (fun b hb => hb.elim) hall ?_))
          intro v1 w3 ho3 hu3
          have fin := Lib.hid (show Mine Rep.rwl 39 wc w3 v1 ((l.map (freed cl sq a)).take (k + 1)) by rw [hsuc.out]; exact HM1.out.app ho3 hu3)
          clear ho3 hu3
          go_wp2_with fail
          go_roundw
          case measure => simp [intOf]; omega
          case rel => exact ⟨k + 1, by omega, by go_num, fin⟩
      · have et : (xt == 0) = false := by simpa using e
        have hsuc := Lib.hid (show (l.map (freed cl sq a)).take (k + 1) = (l.map (freed cl sq a)).take k ++ [(⟨xc, xq, xk, xw, xa, xt⟩ : Rwl)] by rw [List.take_add_one, List.getElem?_map, hx.out]; simp [freed, Rwl.held, e])
        have hy := Lib.hid (fun W => show Rep.rwl.rep W NoB (⟨xc, xq, xk, xw, xa, xt⟩ : Rwl) #[.int .i64 xc, .int .u64 xq, .string xk, .bool xw, .int .i64 xa, .int .i64 xt].toList from ⟨rfl, hks⟩)
        obtain ⟨w1, hw1⟩ : ∃ w1, wr.alloc (.cells #[.int .i64 xc, .int .u64 xq, .string xk, .bool xw, .int .i64 xa, .int .i64 xt] 39) = w1 := ⟨_, rfl⟩
        have hu1 : Upd NoB wr w1 := by rw [← hw1]; exact (Upd.refl _ _).alloc _
        have hB1 : w1.heap[wr.heap.size]? = some (.cells #[.int .i64 xc, .int .u64 xq, .string xk, .bool xw, .int .i64 xa, .int .i64 xt] 39 (0, 0)) := by rw [← hw1]; exact heap_alloc_new _ _
        obtain ⟨s0, s1, s2, s3, s4, s5⟩ := six_cells hB1
        have HM1 := Lib.hid (hM.out.upd hu1)
        have HO1 := Lib.hid HM1.out.1
        have HB1 := Lib.hid HM1.out.bd
        obtain ⟨t0, t1⟩ := hcl.out w1 (HUac.out.trans HM1.out.2)
        clear hx hu1 hB1
        clear e
        go_wp2_with (at_builtin; go_must (refine app_one (r := Rep.rwl) (y := (⟨xc, xq, xk, xw, xa, xt⟩ : Rwl)) rfl _ _ 26 39 (.agg #[.int .i64 0, .int .u64 0, .string ⟨#[]⟩, .bool false, .int .i64 0, .int .i64 0]) 56 rfl Try.underlying26 iRwl rfl (by decide) rfl rfl HO1.out HB1.out (hy.out _) (fun b hb => hb.elim) hall ?_))
        intro v1 w3 ho3 hu3
        have fin := Lib.hid (show Mine Rep.rwl 39 wc w3 v1 ((l.map (freed cl sq a)).take (k + 1)) by rw [hsuc.out]; exact HM1.out.app ho3 hu3)
        clear ho3 hu3
        go_wp2_with fail
        go_roundw
        case measure => simp [intOf]; omega
        case rel => exact ⟨k + 1, by omega, by go_num, fin⟩
    · obtain rfl : k = l.length := by omega
      have hMf := hM.out
      rw [List.take_of_length_le (by simp)] at hMf
      have HMf := Lib.hid hMf
      obtain ⟨Ax, cx, _, hux, _⟩ := hMf.1.read
      rw [List.length_map] at hux
      subst hux
      have hqr := hct.out wr hU.out
      obtain ⟨r0, r1⟩ := hqr
      have hg1 := hU.out.heap H1.out (fun h => h)
      have fz : wr.frozen? ⟨q, 0, none⟩ = false := by simp [World.frozen?, hg1]
      have G5 := heap_put hg1 0 (.slice Ax l.length cx)
      have U5 : Upd (fun b => b = q) wr (wr.setCell ⟨q, 0, none⟩ (.slice Ax l.length cx)) := (Upd.refl (fun b => b = q) wr).setCell (p := ⟨q, 0, none⟩) (fun _ => rfl) _
      obtain ⟨w5, hw5⟩ : ∃ w5, wr.setCell ⟨q, 0, none⟩ (.slice Ax l.length cx) = w5 := ⟨_, rfl⟩
      rw [hw5] at G5 U5
      have G5' : w5.heap[q]? = some (.cells #[.slice Ax l.length cx, .int .i64 last] 28 (0, 0)) := by simpa using G5
      have m1 := (two_cells G5').2
      have m2 : w5.frozen? ⟨q, 1, none⟩ = false := by simp [World.frozen?, G5']
      have G6 := Lib.hid (heap_put G5' 1 (.int .i64 a))
      have U6 := Lib.hid (U5.setCell (p := ⟨q, 1, none⟩) (fun _ => rfl) (.int .i64 a))
      have hz := Lib.hid (show ∀ b, grow NoB wc wr b → New w0 wr xs b from fun b hb => ⟨by have := hb.1.resolve_left (fun h => h); omega, hb.2, fun hm => by have := hxs b hm; have := hb.1.resolve_left (fun h => h); omega⟩)
      clear hMf hg1 G5 G5' U5
      go_wp2_with fail
      go_ret
      refine ⟨by rw [HR.out]; rfl, ?_, (hU.out.mono (fun _ _ h => h.elim)).then U6.out (fun i hi e => .inl e)⟩
      rw [HR.out]
      refine ⟨_, by simpa using G6.out, ?_⟩
      have := (HMf.out.1.mono hz.out).new_keep U6.out (fun b hb => .inl (by rw [show b = q from hb]; exact hq))
      simpa using this
end Go.Proofs.Ytobfolkcpfaplaa
