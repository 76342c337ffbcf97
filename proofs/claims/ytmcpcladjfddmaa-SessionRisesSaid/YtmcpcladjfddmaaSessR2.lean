/- The document's table of slots (2): what an ID is; may an ID be; how many clients have a slot. -/
import Derived.Test.YtmcpcladjfddmaaSessR1
namespace Go.Proofs.Ytmcpcladjfddmaa
open Go.RowKit Kit
set_option linter.unusedVariables false

def howO (o : Option Slot) (q : Int) : Int := if o.isSome = true then (if (o.getD Slot.zero).seq = q then 1 else if q < (o.getD Slot.zero).seq then 2 else 0) else 0
theorem how_eq (m : Tab) (c q : Int) : m.how c q = howO (m.f c) q := rfl
set_option maxHeartbeats 2000000 in
set_option maxRecDepth 100000 in
theorem rhow_any (w0 : World) (xs : List Nat) (p : Nat) (l : List Srw) (c q : Int) (w : World) (h : RSt w0 w xs p l) :
    Calls Try.prog 28 #[.pointer (some ⟨p, 0, none⟩), .agg #[.int .i64 c, .int .u64 q]] w fun e w' => e = .returned (.int .i64 (howO (rof l c) q)) ∧ Upd NoB w w' := by
  obtain ⟨wa, hwa⟩ : ∃ wa, w.alloc (.cells #[.int .i64 c, .int .u64 q] 47) = wa := ⟨_, rfl⟩
  have hua : Upd NoB w wa := by rw [← hwa]; exact (Upd.refl _ _).alloc _
  have hB : wa.heap[w.heap.size]? = some (.cells #[.int .i64 c, .int .u64 q] 47 (0, 0)) := by rw [← hwa]; exact heap_alloc_new _ _
  have hcell := Lib.hid (fun x (hx : Upd NoB wa x) => two_cells (hx.heap hB (fun h => h)))
  have hof := Lib.hid (fun w1 (hu : Upd NoB w w1) => rof_fn w0 xs p l c w1 (h.keep hu (fun h => h) (fun _ h => h.elim)))
  obtain ⟨b0, b1⟩ := hcell.out wa (Upd.refl _ _)
  have HUa := Lib.hid hua
  have hsz : w.heap.size < wa.heap.size := lt_of_heap hB
  clear hua hB h
  unfold howO
  generalize (rof l c).getD Slot.zero = s at *
  generalize (rof l c).isSome = B at *
  cases B
  · simp only [Bool.false_eq_true, if_false]
    go_enter Try.func28, Try.ntmps28
    go_wp2_with fail
    refine (hof.out _ HUa.out).mono ?_
    rintro e w1 ⟨oc, rfl, hu⟩
    obtain ⟨b0, b1⟩ := hcell.out w1 hu
    have hz1 : w.heap.size < w1.heap.size := Nat.lt_of_lt_of_le hsz hu.size
    have HU1 := Lib.hid (fun o => (HUa.out.trans hu).alloc o)
    clear hu
    go_wp2_with fail
    go_ret
    exact ⟨rfl, HU1.out _⟩
  · simp only [if_true]
    by_cases e1 : s.seq = q
    · rw [if_pos e1]
      have e1b : (s.seq == q) = true := by simp [e1]
      have e2b : decide (s.seq < q) = false := decide_eq_false (by omega)
      clear e1
      go_enter Try.func28, Try.ntmps28
      go_wp2_with fail
      refine (hof.out _ HUa.out).mono ?_
      rintro e w1 ⟨oc, rfl, hu⟩
      obtain ⟨b0, b1⟩ := hcell.out w1 hu
      have hz1 : w.heap.size < w1.heap.size := Nat.lt_of_lt_of_le hsz hu.size
      have HU1 := Lib.hid (fun o => (HUa.out.trans hu).alloc o)
      clear hu
      go_wp2_with fail
      go_ret
      exact ⟨rfl, HU1.out _⟩
    · rw [if_neg e1]
      have e1b : (s.seq == q) = false := by simp [e1]
      by_cases e2 : q < s.seq
      · rw [if_pos e2]
        have e2b : decide (s.seq < q) = false := decide_eq_false (by omega)
        clear e1 e2
        go_enter Try.func28, Try.ntmps28
        go_wp2_with fail
        refine (hof.out _ HUa.out).mono ?_
        rintro e w1 ⟨oc, rfl, hu⟩
        obtain ⟨b0, b1⟩ := hcell.out w1 hu
        have hz1 : w.heap.size < w1.heap.size := Nat.lt_of_lt_of_le hsz hu.size
        have HU1 := Lib.hid (fun o => (HUa.out.trans hu).alloc o)
        clear hu
        go_wp2_with fail
        go_ret
        exact ⟨rfl, HU1.out _⟩
      · rw [if_neg e2]
        have e2b : decide (s.seq < q) = true := decide_eq_true (by omega)
        clear e1 e2
        go_enter Try.func28, Try.ntmps28
        go_wp2_with fail
        refine (hof.out _ HUa.out).mono ?_
        rintro e w1 ⟨oc, rfl, hu⟩
        obtain ⟨b0, b1⟩ := hcell.out w1 hu
        have hz1 : w.heap.size < w1.heap.size := Nat.lt_of_lt_of_le hsz hu.size
        have HU1 := Lib.hid (fun o => (HUa.out.trans hu).alloc o)
        clear hu
        go_wp2_with fail
        go_ret
        exact ⟨rfl, HU1.out _⟩
set_option maxHeartbeats 1000000 in
theorem rrightid_any (c q : Int) (w : World) (hq : 0 ≤ q) :
    Calls Try.prog 40 #[.agg #[.int .i64 c, .int .u64 q]] w fun e w' => e = .returned (.bool (rightID c q)) ∧ Upd NoB w w' := by
  have HUa := Lib.hid (fun o => (Upd.refl NoB w).alloc o)
  unfold rightID
  by_cases e1 : 0 ≤ c
  · have e1b : decide (0 ≤ c) = true := decide_eq_true e1
    rw [e1b]
    clear e1
    by_cases e2 : c < 6
    · have e2b : decide (c ≤ 5) = true := decide_eq_true (by omega)
      rw [decide_eq_true e2, Bool.true_and, Bool.true_and]
      clear e2
      by_cases e3 : 0 < q
      · have e3b : (q != 0) = true := by simp; omega
        have e3c : (q == 0) = false := by simp; omega
        rw [decide_eq_true e3]
        clear e3
        go_enter Try.func40, Try.ntmps40
        go_wp2_with fail
        go_ret
        exact ⟨rfl, HUa.out _⟩
      · obtain rfl : q = 0 := by omega
        rw [decide_eq_false e3]
        clear e3
        go_enter Try.func40, Try.ntmps40
        go_wp2_with fail
        go_ret
        exact ⟨rfl, HUa.out _⟩
    · have e2b : decide (c ≤ 5) = false := decide_eq_false (by omega)
      rw [decide_eq_false e2]
      clear e2
      go_enter Try.func40, Try.ntmps40
      go_wp2_with fail
      go_ret
      exact ⟨rfl, HUa.out _⟩
  · have e1b : decide (0 ≤ c) = false := decide_eq_false e1
    rw [e1b]
    clear e1
    go_enter Try.func40, Try.ntmps40
    go_wp2_with fail
    go_ret
    exact ⟨rfl, HUa.out _⟩
/-- How many of the first k rows are of a client that none ahead is of. -/
def dc (l : List Srw) : Nat → Nat
  | 0 => 0
  | k + 1 => dc l k + (match l[k]? with | some x => if ((l.take k).any fun y => decide (y.1 = x.1)) = true then 0 else 1 | none => 0)
theorem dc_le (l : List Srw) : ∀ k, dc l k ≤ k
  | 0 => Nat.le_refl _
  | k + 1 => by
    have := dc_le l k
    unfold dc
    split
    · split <;> omega
    · omega
theorem dc_pre (l : List Srw) (x : Srw) : ∀ k, k ≤ l.length → dc (l ++ [x]) k = dc l k
  | 0, _ => rfl
  | k + 1, h => by
    unfold dc
    rw [dc_pre l x k (by omega), List.getElem?_append_left (by omega), List.take_append_of_le_length (by omega)]
theorem dc_succ (l : List Srw) (k : Nat) (x : Srw) (h : l[k]? = some x) : dc l (k + 1) = dc l k + (if ((l.take k).any fun y => decide (y.1 = x.1)) = true then 0 else 1) := by
  rw [dc, h]
theorem dc_snoc (l : List Srw) (x : Srw) : dc (l ++ [x]) (l ++ [x]).length = dc l l.length + (if (rof l x.1).isSome = true then 0 else 1) := by
  rw [List.length_append, List.length_singleton, dc_succ (l ++ [x]) l.length x (by rw [List.getElem?_append_right (Nat.le_refl _), Nat.sub_self]; rfl), dc_pre l x _ (Nat.le_refl _), List.take_append_of_le_length (Nat.le_refl _), List.take_length, rof_any]
set_option maxHeartbeats 4000000 in
set_option maxRecDepth 100000 in
theorem slen_any (w0 : World) (xs : List Nat) (q : Nat) (l : List Srw) (w : World) (h : RSt w0 w xs q l) (hl : l.length ≤ 100000) :
    Calls Try.prog 30 #[.pointer (some ⟨q, 0, none⟩)] w fun e w' => e = .returned (.int .i64 (dc l l.length)) ∧ Upd NoB w w' := by
  obtain ⟨v, h1, h2⟩ := h
  have hc0 := (one_cell h1).1
  have HX := Lib.hid h2.read
  obtain ⟨A, c, cs, rfl, d1, d2, _, d4, _⟩ := h2.read
  have d2' : c ≤ 9223372036854775807 := d2
  clear h1 h2
  go_enter Try.func30, Try.ntmps30
  go_wp2_with fail
  go_loopw [3, 4, 5, 6, 8, 14] (fun n x4 x5 x6 x8 i wr => ∃ k m : Nat, k ≤ l.length ∧ m ≤ k ∧ n = .int .i64 m ∧ i = .int .i64 k ∧ Hid (m = dc l k) ∧ Hid (Upd NoB w wr)) (fun _ _ _ _ _ i _ => l.length - (intOf i).toNat)
  case atStart => exact ⟨0, 0, by omega, by omega, rfl, rfl, Lib.hid rfl, Lib.hid (Upd.refl _ _)⟩
  case round =>
    obtain ⟨k, m, hk, hm, rfl, rfl, hN, hU⟩ := hrel
    by_cases hlt : k < l.length
    · obtain ⟨g, o, rcs, rfl, hrep, hcell, hg⟩ := HX.out.cellN k hlt
      have hrep' : rcs = srwC l[k] := hrep
      subst hrep'
      have c0 : wr.cell? ⟨g, o + k * 6, none⟩ = some (.int .i64 l[k].1) := hU.out.cell (hcell 0 _ rfl) (fun h => h)
      have c1 : wr.cell? ⟨g, o + k * 6 + 1, none⟩ = some (.int .u64 l[k].2.seq) := hU.out.cell (hcell 1 _ rfl) (fun h => h)
      have c2 : wr.cell? ⟨g, o + k * 6 + 2, none⟩ = some (.bool l[k].2.opn) := hU.out.cell (hcell 2 _ rfl) (fun h => h)
      have c3 : wr.cell? ⟨g, o + k * 6 + 3, none⟩ = some (.int .i64 l[k].2.at_) := hU.out.cell (hcell 3 _ rfl) (fun h => h)
      have c4 : wr.cell? ⟨g, o + k * 6 + 4, none⟩ = some (.int .i64 l[k].2.code) := hU.out.cell (hcell 4 _ rfl) (fun h => h)
      have c5 : wr.cell? ⟨g, o + k * 6 + 5, none⟩ = some (.int .u64 l[k].2.num) := hU.out.cell (hcell 5 _ rfl) (fun h => h)
      have hsuc := Lib.hid (dc_succ l k l[k] (List.getElem?_eq_getElem hlt))
      generalize l[k] = x at *
      obtain ⟨xc, xs', xo, xa, xd, xn⟩ := x
      simp only at c0 c1 c2 c3 c4 c5 hsuc
      clear hcell
      obtain ⟨wo, hwo⟩ : ∃ wo, wr.alloc (.cells #[.int .i64 xc, .int .u64 xs', .bool xo, .int .i64 xa, .int .i64 xd, .int .u64 xn] 79) = wo := ⟨_, rfl⟩
      have huo : Upd NoB wr wo := by rw [← hwo]; exact (Upd.refl _ _).alloc _
      obtain ⟨bx, hbx⟩ : ∃ bx, wr.heap.size = bx := ⟨_, rfl⟩
      have hBx := Lib.hid (show wo.heap[bx]? = some (.cells #[.int .i64 xc, .int .u64 xs', .bool xo, .int .i64 xa, .int .i64 xd, .int .u64 xn] 79 (0, 0)) by rw [← hwo, ← hbx]; exact heap_alloc_new _ _)
      have HUo := Lib.hid (hU.out.trans huo)
      have hco := HUo.out.cell hc0 (fun h => h)
      have HUoo := Lib.hid (Upd.refl NoB wo)
      have hkc : k ≤ c := by omega
      clear huo
      go_wp2_with fail
      go_loopw [6, 8, 26] (fun x6 x8 i wr => ∃ m2 : Nat, m2 ≤ k ∧ i = .int .i64 m2 ∧ ∃ B : Bool, x6 = .bool B ∧ Hid (B = !((l.take m2).any fun y => decide (y.1 = xc))) ∧ Hid (Upd NoB wo wr)) (fun _ _ i _ => k - (intOf i).toNat)
      case atStart => exact ⟨0, by omega, rfl, true, rfl, Lib.hid rfl, HUoo⟩
      case round =>
        obtain ⟨m2, hm2, rfl, B, rfl, hB, hU2⟩ := hrel
        by_cases hlt2 : m2 < k
        · have hlt2' : m2 < l.length := by omega
          obtain ⟨gy, oy, ry, hAy, hrepy, hcy, _⟩ := HX.out.cellN m2 hlt2'
          cases hAy
          have hrep' : ry = srwC l[m2] := hrepy
          subst hrep'
          have y0 : wr.cell? ⟨g, o + m2 * 6, none⟩ = some (.int .i64 l[m2].1) := (HUo.out.trans hU2.out).cell (hcy 0 _ rfl) (fun h => h)
          have y1 : wr.cell? ⟨g, o + m2 * 6 + 1, none⟩ = some (.int .u64 l[m2].2.seq) := (HUo.out.trans hU2.out).cell (hcy 1 _ rfl) (fun h => h)
          have y2 : wr.cell? ⟨g, o + m2 * 6 + 2, none⟩ = some (.bool l[m2].2.opn) := (HUo.out.trans hU2.out).cell (hcy 2 _ rfl) (fun h => h)
          have y3 : wr.cell? ⟨g, o + m2 * 6 + 3, none⟩ = some (.int .i64 l[m2].2.at_) := (HUo.out.trans hU2.out).cell (hcy 3 _ rfl) (fun h => h)
          have y4 : wr.cell? ⟨g, o + m2 * 6 + 4, none⟩ = some (.int .i64 l[m2].2.code) := (HUo.out.trans hU2.out).cell (hcy 4 _ rfl) (fun h => h)
          have y5 : wr.cell? ⟨g, o + m2 * 6 + 5, none⟩ = some (.int .u64 l[m2].2.num) := (HUo.out.trans hU2.out).cell (hcy 5 _ rfl) (fun h => h)
          have htk : (l.take (m2 + 1)).any (fun y => decide (y.1 = xc)) = ((l.take m2).any (fun y => decide (y.1 = xc)) || decide (l[m2].1 = xc)) := by
            rw [List.take_add_one, List.getElem?_eq_getElem hlt2', List.any_append]
            simp only [Option.toList_some, List.any_cons, List.any_nil, Bool.or_false]
          generalize l[m2] = yy at *
          obtain ⟨yc, ys', yo, ya, yd, yn⟩ := yy
          simp only at y0 y1 y2 y3 y4 y5 htk
          obtain ⟨z0, z1, z2, z3, z4, z5⟩ := six_cells (hU2.out.heap hBx.out (fun h => h))
          have hbz2 : bx < wr.heap.size := Nat.lt_of_lt_of_le (lt_of_heap hBx.out) hU2.out.size
          have hUn := Lib.hid (fun o => hU2.out.alloc o)
          clear hcy
          cases B
          · have hB2 := Lib.hid (show false = !((l.take (m2 + 1)).any fun y => decide (y.1 = xc)) by
              rw [htk]
              have := hB.out
              cases h : (l.take m2).any (fun y => decide (y.1 = xc))
              · rw [h] at this; cases this
              · rfl)
            clear htk
            go_wp2_with fail
            go_roundw
            case measure => simp [intOf]; omega
            case rel =>
              first
              | exact ⟨m2 + 1, by omega, by go_num, false, rfl, hB2, Lib.hid (hUn.out _)⟩
              | ((repeat apply Exists.intro)
                 refine ⟨⟨m2 + 1, by omega, ?_, false, rfl, hB2, Lib.hid (hUn.out _)⟩, rfl⟩
                 go_num)
          · have hf : (l.take m2).any (fun y => decide (y.1 = xc)) = false := by
              have := hB.out
              cases h : (l.take m2).any (fun y => decide (y.1 = xc))
              · rfl
              · rw [h] at this; cases this
            rw [hf, Bool.false_or] at htk
            by_cases ey : yc = xc
            · have eyb : (yc != xc) = false := by simp [ey]
              have eyc : (yc == xc) = true := by simp [ey]
              have hB2 := Lib.hid (show false = !((l.take (m2 + 1)).any fun y => decide (y.1 = xc)) by rw [htk, decide_eq_true ey]; rfl)
              clear htk hf ey
              go_wp2_with fail
              go_roundw
              case measure => simp [intOf]; omega
              case rel =>
                first
                | exact ⟨m2 + 1, by omega, by go_num, false, rfl, hB2, Lib.hid (hUn.out _)⟩
                | ((repeat apply Exists.intro)
                   refine ⟨⟨m2 + 1, by omega, ?_, false, rfl, hB2, Lib.hid (hUn.out _)⟩, rfl⟩
                   go_num)
            · have eyb : (yc != xc) = true := by simp [ey]
              have eyc : (yc == xc) = false := by simp [ey]
              have hB2 := Lib.hid (show true = !((l.take (m2 + 1)).any fun y => decide (y.1 = xc)) by rw [htk, decide_eq_false ey]; rfl)
              clear htk hf ey
              go_wp2_with fail
              go_roundw
              case measure => simp [intOf]; omega
              case rel =>
                first
                | exact ⟨m2 + 1, by omega, by go_num, true, rfl, hB2, Lib.hid (hUn.out _)⟩
                | ((repeat apply Exists.intro)
                   refine ⟨⟨m2 + 1, by omega, ?_, true, rfl, hB2, Lib.hid (hUn.out _)⟩, rfl⟩
                   go_num)
        · obtain rfl : m2 = k := by omega
          have hUe := Lib.hid (HUo.out.trans hU2.out)
          cases B
          · have hN2 := Lib.hid (show m = dc l (m2 + 1) by
              rw [hsuc.out]
              have := hB.out
              cases h : (l.take m2).any (fun y => decide (y.1 = xc))
              · rw [h] at this; cases this
              · rw [if_pos rfl]; exact hN.out)
            go_wp2_with fail
            go_roundw
            case measure => simp [intOf]; omega
            case rel =>
              first
              | exact ⟨m2 + 1, m, by omega, by omega, rfl, by go_num, hN2, hUe⟩
              | ((repeat apply Exists.intro)
                 refine ⟨⟨m2 + 1, m, by omega, by omega, rfl, ?_, hN2, hUe⟩, rfl⟩
                 go_num)
          · have hN2 := Lib.hid (show m + 1 = dc l (m2 + 1) by
              rw [hsuc.out]
              have := hB.out
              cases h : (l.take m2).any (fun y => decide (y.1 = xc))
              · rw [if_neg (by simp), ← hN.out]
              · rw [h] at this; cases this)
            go_wp2_with fail
            go_roundw
            case measure => simp [intOf]; omega
            case rel =>
              first
              | exact ⟨m2 + 1, m + 1, by omega, by omega, by go_num, by go_num, hN2, hUe⟩
              | ((repeat apply Exists.intro)
                 refine ⟨⟨m2 + 1, m + 1, by omega, by omega, ?_, ?_, hN2, hUe⟩, rfl⟩
                 all_goals go_num)
    · obtain rfl : k = l.length := by omega
      go_wp2_with fail
      go_ret
      exact ⟨by rw [← hN.out]; rfl, hU.out⟩
end Go.Proofs.Ytmcpcladjfddmaa
