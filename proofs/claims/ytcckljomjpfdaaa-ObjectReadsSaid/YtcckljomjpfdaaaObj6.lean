/- Versions, function by function (6): the last one; the one at a number; is there a later one? -/
import Derived.Test.YtcckljomjpfdaaaObj5
namespace Go.Proofs.Ytcckljomjpfdaaa
open Go.RowKit Kit
set_option linter.unusedVariables false

def zeroV : Ver := ⟨0, 0, ⟨#[]⟩, false⟩
def Ver.agg (x : Ver) : Value := .agg #[.int .i64 x.at_, .int .u64 x.num, .string x.val, .bool x.gone]
def lastV (l : List Ver) : Ver := if rightB l = true then (l[l.length - 1]?).getD zeroV else zeroV
/-- How many are not above n. -/
def uptoN (l : List Ver) (n : Int) : Nat := (l.takeWhile fun x => decide (x.at_ ≤ n)).length
theorem upto_eq : ∀ (l : List Ver) (n : Int) (u : Nat), Upto l n u → u = uptoN l n := by
  intro l n
  induction l with
  | nil => intro u h; have := h.1; simp at this; simp [this, uptoN]
  | cons a l ih =>
    intro u h
    obtain ⟨h1, h2, h3⟩ := h
    cases u with
    | zero =>
      have := h3 0 (Nat.le_refl _) (by simp)
      simp at this
      simp [uptoN, show ¬ a.at_ ≤ n by omega]
    | succ u =>
      have := h2 0 (by omega)
      simp at this
      have ih := ih u ⟨by simpa using h1, fun i hi => by have := h2 (i + 1) (by omega); simpa using this, fun i hi hl => by have := h3 (i + 1) (by omega) (by simpa using hl); simpa using this⟩
      simp [uptoN, show a.at_ ≤ n by omega] at ih ⊢
      exact ih
theorem uptoN_le (l : List Ver) (n : Int) : uptoN l n ≤ l.length := by
  unfold uptoN
  exact (List.takeWhile_sublist _).length_le
def readV (l : List Ver) (n : Int) : Option Ver := if rightB l = true then (if uptoN l n = 0 then none else l[uptoN l n - 1]?) else none

set_option maxHeartbeats 2000000 in
set_option maxRecDepth 100000 in
theorem last_any {S : Nat → Prop} (v : Value) (l : List Ver) (w : World) (h : RSl Rep.ver w S v l) (hl : l.length ≤ 1000) :
    Calls Try.prog 31 #[.agg #[v]] w fun e w' => e = .returned (lastV l).agg ∧ Upd NoB w w' := by
  have HX := Lib.hid h
  obtain ⟨A, c, cs, rfl, d1, d2, d3, d4, d5⟩ := id h
  have d2' : c ≤ 9223372036854775807 := d2
  have hrt := Lib.hid (fun w1 (hu : Upd NoB w w1) => right_obj (.slice A l.length c) l w1 (h.upd hu (fun _ _ h => h)) hl)
  obtain ⟨wa, hwa⟩ : ∃ wa, (w.alloc (.cells #[.slice A l.length c] 44)).alloc (.cells #[.int .i64 0, .int .u64 0, .string ⟨#[]⟩, .bool false] 50) = wa := ⟨_, rfl⟩
  have hua : Upd NoB w wa := by rw [← hwa]; exact ((Upd.refl _ _).alloc _).alloc _
  have hBo : wa.heap[w.heap.size]? = some (.cells #[.slice A l.length c] 44 (0, 0)) := by
    rw [← hwa, Below.heap_alloc _ _ _ (by simp)]
    exact heap_alloc_new _ _
  have hBv : wa.heap[w.heap.size + 1]? = some (.cells #[.int .i64 0, .int .u64 0, .string ⟨#[]⟩, .bool false] 50 (0, 0)) := by
    have := heap_alloc_new (w.alloc (.cells #[.slice A l.length c] 44)) (.cells #[.int .i64 0, .int .u64 0, .string ⟨#[]⟩, .bool false] 50 (0, 0))
    rw [show (w.alloc (.cells #[.slice A l.length c] 44)).heap.size = w.heap.size + 1 by simp, hwa] at this
    exact this
  have o0 : wa.cell? ⟨w.heap.size, 0, none⟩ = some (.slice A l.length c) := by simp [World.cell?, hBo]
  have HBo := Lib.hid hBo
  have HBv := Lib.hid hBv
  have HU := Lib.hid hua
  have hok := Lib.hid (fun x (hx : Upd NoB wa x) => show x.cell? ⟨w.heap.size, 0, none⟩ = some (.slice A l.length c) ∧ x.cell? ⟨w.heap.size + 1, 0, none⟩ = some (.int .i64 0) ∧ x.cell? ⟨w.heap.size + 1, 1, none⟩ = some (.int .u64 0) ∧ x.cell? ⟨w.heap.size + 1, 2, none⟩ = some (.string ⟨#[]⟩) ∧ x.cell? ⟨w.heap.size + 1, 3, none⟩ = some (.bool false) ∧ (∀ j, x.frozen? ⟨w.heap.size + 1, j, none⟩ = false) by
    have a := hx.heap hBo (fun h => h)
    have b := hx.heap hBv (fun h => h)
    simp [World.cell?, World.frozen?, a, b])
  have hfin := Lib.hid (fun x (hx : Upd NoB wa x) (a b c d : Value) => show Upd NoB w ((((x.setCell ⟨w.heap.size + 1, 0, none⟩ a).setCell ⟨w.heap.size + 1, 1, none⟩ b).setCell ⟨w.heap.size + 1, 2, none⟩ c).setCell ⟨w.heap.size + 1, 3, none⟩ d) by
    have k : ∀ (y : World) j u, Upd NoB w y → Upd NoB w (y.setCell ⟨w.heap.size + 1, j, none⟩ u) := fun y j u h => h.setCell (p := ⟨w.heap.size + 1, j, none⟩) (fun e => by simp only at e; omega) u
    exact k _ _ _ (k _ _ _ (k _ _ _ (k _ _ _ (hua.trans hx)))))
  clear hBo hBv hua h d3
  by_cases h0 : l.length = 0
  · have hl0 : l = [] := List.eq_nil_of_length_eq_zero h0
    have hz := Lib.hid (show lastV l = zeroV by rw [hl0]; rfl)
    have hb : ((l.length : Int) == 0) = true := by simp [h0]
    obtain ⟨z1, z2, z3, z4, z5, z6⟩ := hok.out wa (Upd.refl _ _)
    have f0 := z6 0
    have f1 := z6 1
    have f2 := z6 2
    have f3 := z6 3
    clear hl0 h0 z6 d5
    go_enter Try.func31, Try.ntmps31
    go_wp2_with fail
    refine bodyPost_ret (v := zeroV.agg) (by simp [results, Try.results31, go_sem, zeroV, Ver.agg, *]) rfl ⟨by rw [hz.out], hfin.out wa (Upd.refl _ _) _ _ _ _⟩
  · have hb : ((l.length : Int) == 0) = false := beq_false_of_ne (by omega)
    have hrx := hrt.out wa HU.out
    cases hR : rightB l
    · rw [hR] at hrx
      have HRX := Lib.hid hrx
      have hz := Lib.hid (show lastV l = zeroV by unfold lastV; rw [hR]; rfl)
      clear hrx hR h0 d5
      go_enter Try.func31, Try.ntmps31
      go_wp2_with fail
      refine HRX.out.mono ?_
      rintro e w2 ⟨rfl, hu⟩
      have HU2 := Lib.hid hu
      obtain ⟨z1, z2, z3, z4, z5, z6⟩ := hok.out w2 hu
      have f0 := z6 0
      have f1 := z6 1
      have f2 := z6 2
      have f3 := z6 3
      clear z6 hu
      go_wp2_with fail
      refine bodyPost_ret (v := zeroV.agg) (by simp [results, Try.results31, go_sem, zeroV, Ver.agg, *]) rfl ⟨by rw [hz.out], hfin.out w2 HU2.out _ _ _ _⟩
    · rw [hR] at hrx
      have HRX := Lib.hid hrx
      have hlt : l.length - 1 < l.length := by omega
      have hz := Lib.hid (show lastV l = l[l.length - 1] by unfold lastV; rw [hR, if_pos rfl, List.getElem?_eq_getElem hlt]; rfl)
      obtain ⟨g, o, rcs, rfl, hrep, hcs, hg⟩ := HX.out.cellN (l.length - 1) hlt
      obtain ⟨hr1, hr2, hr3, hr4⟩ := hrep
      subst hr1
      generalize l[l.length - 1] = x at *
      have hn1 : (1 : Int) ≤ (l.length : Int) := by omega
      have hn2 : (l.length : Int) - 1 < (l.length : Int) := by omega
      have hn3 : ((l.length : Int) - 1).toNat = l.length - 1 := by omega
      have hn4 : (0 : Int) ≤ (l.length : Int) - 1 := by omega
      have HCS := Lib.hid hcs
      clear hrx hR h0 d5 hcs
      go_enter Try.func31, Try.ntmps31
      go_wp2_with fail
      refine HRX.out.mono ?_
      rintro e w2 ⟨rfl, hu⟩
      have HU2 := Lib.hid hu
      have hu' := HU.out.trans hu
      have c0 : w2.cell? ⟨g, o + (l.length - 1) * 4, none⟩ = some (.int .i64 x.at_) := hu'.cell (HCS.out 0 _ rfl) (fun h => h)
      have c1 : w2.cell? ⟨g, o + (l.length - 1) * 4 + 1, none⟩ = some (.int .u64 x.num) := hu'.cell (HCS.out 1 _ rfl) (fun h => h)
      have c2 : w2.cell? ⟨g, o + (l.length - 1) * 4 + 2, none⟩ = some (.string x.val) := hu'.cell (HCS.out 2 _ rfl) (fun h => h)
      have c3 : w2.cell? ⟨g, o + (l.length - 1) * 4 + 3, none⟩ = some (.bool x.gone) := hu'.cell (HCS.out 3 _ rfl) (fun h => h)
      obtain ⟨z1, z2, z3, z4, z5, z6⟩ := hok.out w2 hu
      have f0 := z6 0
      have f1 := z6 1
      have f2 := z6 2
      have f3 := z6 3
      clear z6 hu hu'
      go_wp2_with fail
      refine bodyPost_ret (v := x.agg) (by simp [results, Try.results31, go_sem, Ver.agg, *]) rfl ⟨by rw [hz.out], hfin.out w2 HU2.out _ _ _ _⟩
theorem readV_none {l : List Ver} {n : Int} (h : rightB l = true) (h0 : uptoN l n = 0) : readV l n = none := by
  unfold readV
  rw [if_pos h, if_pos h0]
theorem readV_some {l : List Ver} {n : Int} (h : rightB l = true) (h0 : uptoN l n ≠ 0) (hlt : uptoN l n - 1 < l.length) : readV l n = some l[uptoN l n - 1] := by
  unfold readV
  rw [if_pos h, if_neg h0]
  exact List.getElem?_eq_getElem hlt
set_option maxHeartbeats 2000000 in
set_option maxRecDepth 100000 in
theorem read_any {S : Nat → Prop} (v : Value) (l : List Ver) (n : Int) (w : World) (h : RSl Rep.ver w S v l) (hl : l.length ≤ 1000) :
    Calls Try.prog 30 #[.agg #[v], .int .i64 n] w fun e w' => e = .returned (.tuple #[((readV l n).getD zeroV).agg, .bool (readV l n).isSome]) ∧ Upd NoB w w' := by
  have HX := Lib.hid h
  obtain ⟨A, c, cs, rfl, d1, d2, d3, d4, d5⟩ := id h
  have d2' : c ≤ 9223372036854775807 := d2
  have hrt := Lib.hid (fun w1 (hu : Upd NoB w w1) => right_obj (.slice A l.length c) l w1 (h.upd hu (fun _ _ h => h)) hl)
  have hup := Lib.hid (fun w1 (hu : Upd NoB w w1) (hr : rightB l = true) => upto_any (.slice A l.length c) l n w1 (h.upd hu (fun _ _ h => h)) hl hr)
  obtain ⟨wa, hwa⟩ : ∃ wa, (w.alloc (.cells #[.slice A l.length c] 44)).alloc (.cells #[.int .i64 0, .int .u64 0, .string ⟨#[]⟩, .bool false] 50) = wa := ⟨_, rfl⟩
  have hua : Upd NoB w wa := by rw [← hwa]; exact ((Upd.refl _ _).alloc _).alloc _
  have hBo : wa.heap[w.heap.size]? = some (.cells #[.slice A l.length c] 44 (0, 0)) := by
    rw [← hwa, Below.heap_alloc _ _ _ (by simp)]
    exact heap_alloc_new _ _
  have hBv : wa.heap[w.heap.size + 1]? = some (.cells #[.int .i64 0, .int .u64 0, .string ⟨#[]⟩, .bool false] 50 (0, 0)) := by
    have := heap_alloc_new (w.alloc (.cells #[.slice A l.length c] 44)) (.cells #[.int .i64 0, .int .u64 0, .string ⟨#[]⟩, .bool false] 50 (0, 0))
    rw [show (w.alloc (.cells #[.slice A l.length c] 44)).heap.size = w.heap.size + 1 by simp, hwa] at this
    exact this
  have o0 : wa.cell? ⟨w.heap.size, 0, none⟩ = some (.slice A l.length c) := by simp [World.cell?, hBo]
  have HBo := Lib.hid hBo
  have HBv := Lib.hid hBv
  have HU := Lib.hid hua
  have hok := Lib.hid (fun x (hx : Upd NoB wa x) => show x.cell? ⟨w.heap.size, 0, none⟩ = some (.slice A l.length c) ∧ x.cell? ⟨w.heap.size + 1, 0, none⟩ = some (.int .i64 0) ∧ x.cell? ⟨w.heap.size + 1, 1, none⟩ = some (.int .u64 0) ∧ x.cell? ⟨w.heap.size + 1, 2, none⟩ = some (.string ⟨#[]⟩) ∧ x.cell? ⟨w.heap.size + 1, 3, none⟩ = some (.bool false) ∧ (∀ j, x.frozen? ⟨w.heap.size + 1, j, none⟩ = false) by
    have a := hx.heap hBo (fun h => h)
    have b := hx.heap hBv (fun h => h)
    simp [World.cell?, World.frozen?, a, b])
  have hfin := Lib.hid (fun x (hx : Upd NoB wa x) (a b c d : Value) => show Upd NoB w ((((x.setCell ⟨w.heap.size + 1, 0, none⟩ a).setCell ⟨w.heap.size + 1, 1, none⟩ b).setCell ⟨w.heap.size + 1, 2, none⟩ c).setCell ⟨w.heap.size + 1, 3, none⟩ d) by
    have k : ∀ (y : World) j u, Upd NoB w y → Upd NoB w (y.setCell ⟨w.heap.size + 1, j, none⟩ u) := fun y j u h => h.setCell (p := ⟨w.heap.size + 1, j, none⟩) (fun e => by simp only at e; omega) u
    exact k _ _ _ (k _ _ _ (k _ _ _ (k _ _ _ (hua.trans hx)))))
  clear hBo hBv hua h d3
  have hrx := hrt.out wa HU.out
  cases hR : rightB l
  · rw [hR] at hrx
    have HRX := Lib.hid hrx
    have hz := Lib.hid (show readV l n = none by unfold readV; rw [hR]; rfl)
    clear hrx hR d5
    go_enter Try.func30, Try.ntmps30
    go_wp2_with fail
    refine HRX.out.mono ?_
    rintro e w2 ⟨rfl, hu⟩
    have HU2 := Lib.hid hu
    obtain ⟨z1, z2, z3, z4, z5, z6⟩ := hok.out w2 hu
    have f0 := z6 0
    have f1 := z6 1
    have f2 := z6 2
    have f3 := z6 3
    clear z6 hu
    go_wp2_with fail
    refine bodyPost_ret (v := .tuple #[zeroV.agg, .bool false]) (by simp [results, Try.results30, go_sem, zeroV, Ver.agg, *]) rfl ⟨by rw [hz.out]; rfl, hfin.out w2 HU2.out _ _ _ _⟩
  · rw [hR] at hrx
    have HRX := Lib.hid hrx
    have hul := uptoN_le l n
    have hupt := Lib.hid (fun w1 (hu : Upd NoB w w1) => (hup.out w1 hu hR).mono (fun e w' ⟨u, he, hx, hu⟩ => show e = Ending.returned (.int .i64 (uptoN l n)) ∧ Upd NoB w1 w' from ⟨by rw [he, upto_eq l n u hx], hu⟩))
    by_cases h0 : uptoN l n = 0
    · have hz := Lib.hid (readV_none hR h0)
      rw [h0] at hupt
      clear hrx hR d5 h0 hul
      go_enter Try.func30, Try.ntmps30
      go_wp2_with fail
      refine HRX.out.mono ?_
      rintro e w2 ⟨rfl, hu⟩
      have HU2 := Lib.hid hu
      obtain ⟨y1, _⟩ := hok.out w2 hu
      clear hu
      go_wp2_with fail
      refine (hupt.out _ (HU.out.trans HU2.out)).mono ?_
      rintro e w3 ⟨rfl, hu⟩
      have HU3 := Lib.hid (HU2.out.trans hu)
      obtain ⟨z1, z2, z3, z4, z5, z6⟩ := hok.out w3 HU3.out
      have f0 := z6 0
      have f1 := z6 1
      have f2 := z6 2
      have f3 := z6 3
      clear z6 hu y1
      go_wp2_with fail
      refine bodyPost_ret (v := .tuple #[zeroV.agg, .bool false]) (by simp [results, Try.results30, go_sem, zeroV, Ver.agg, *]) rfl ⟨by rw [hz.out]; rfl, hfin.out w3 HU3.out _ _ _ _⟩
    · have hlt : uptoN l n - 1 < l.length := by omega
      have hz := Lib.hid (readV_some hR h0 hlt)
      obtain ⟨g, o, rcs, rfl, hrep, hcs, hg⟩ := HX.out.cellN (uptoN l n - 1) hlt
      obtain ⟨hr1, hr2, hr3, hr4⟩ := hrep
      subst hr1
      generalize l[uptoN l n - 1] = x at *
      generalize uptoN l n = U at *
      have hb : ((U : Int) == 0) = false := beq_false_of_ne (by omega)
      have hn1 : (1 : Int) ≤ (U : Int) := by omega
      have hn2 : (U : Int) - 1 < (l.length : Int) := by omega
      have hn3 : ((U : Int) - 1).toNat = U - 1 := by omega
      have hn4 : (0 : Int) ≤ (U : Int) - 1 := by omega
      have HCS := Lib.hid hcs
      clear hrx hR h0 d5 hcs
      go_enter Try.func30, Try.ntmps30
      go_wp2_with fail
      refine HRX.out.mono ?_
      rintro e w2 ⟨rfl, hu⟩
      have HU2 := Lib.hid hu
      obtain ⟨y1, _⟩ := hok.out w2 hu
      clear hu
      go_wp2_with fail
      refine (hupt.out _ (HU.out.trans HU2.out)).mono ?_
      rintro e w3 ⟨rfl, hu⟩
      have HU3 := Lib.hid (HU2.out.trans hu)
      have hu' := HU.out.trans HU3.out
      have c0 : w3.cell? ⟨g, o + (U - 1) * 4, none⟩ = some (.int .i64 x.at_) := hu'.cell (HCS.out 0 _ rfl) (fun h => h)
      have c1 : w3.cell? ⟨g, o + (U - 1) * 4 + 1, none⟩ = some (.int .u64 x.num) := hu'.cell (HCS.out 1 _ rfl) (fun h => h)
      have c2 : w3.cell? ⟨g, o + (U - 1) * 4 + 2, none⟩ = some (.string x.val) := hu'.cell (HCS.out 2 _ rfl) (fun h => h)
      have c3 : w3.cell? ⟨g, o + (U - 1) * 4 + 3, none⟩ = some (.bool x.gone) := hu'.cell (HCS.out 3 _ rfl) (fun h => h)
      obtain ⟨z1, z2, z3, z4, z5, z6⟩ := hok.out w3 HU3.out
      have f0 := z6 0
      have f1 := z6 1
      have f2 := z6 2
      have f3 := z6 3
      clear z6 hu hu' y1
      go_wp2_with fail
      refine bodyPost_ret (v := .tuple #[x.agg, .bool true]) (by simp [results, Try.results30, go_sem, Ver.agg, *]) rfl ⟨by rw [hz.out]; rfl, hfin.out w3 HU3.out _ _ _ _⟩
end Go.Proofs.Ytcckljomjpfdaaa
