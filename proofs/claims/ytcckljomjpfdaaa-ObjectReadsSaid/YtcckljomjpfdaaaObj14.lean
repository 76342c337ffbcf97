/- Versions (14): the document's own walks through them: without later ones; at a number; without elder ones. -/
import Derived.Test.YtcckljomjpfdaaaObj12
namespace Go.Proofs.Ytcckljomjpfdaaa
open Go.RowKit Kit
set_option linter.unusedVariables false

theorem filt_upto : ∀ (l : List Ver) (n : Int), rightB l = true → l.filter (fun x => decide (x.at_ ≤ n)) = l.take (uptoN l n)
  | [], _, _ => rfl
  | x :: l, n, h => by
    have hr := rightB_drop (x :: l) 1 h
    have ih := filt_upto l n hr
    unfold uptoN at ih ⊢
    by_cases e : x.at_ ≤ n
    · rw [List.filter_cons_of_pos (by simp [e]), List.takeWhile_cons, decide_eq_true e, if_pos rfl, List.length_cons, List.take_succ_cons, ih]
    · rw [List.filter_cons_of_neg (by simp; omega), List.takeWhile_cons, decide_eq_false e]
      simp only [Bool.false_eq_true, if_false, List.length_nil, List.take_zero]
      rw [List.filter_eq_nil_iff]
      intro y hy
      obtain ⟨i, hi, rfl⟩ := List.getElem_of_mem hy
      have := right_rises h (i + 1) 0 x l[i] rfl (by rw [Nat.zero_add, List.getElem?_cons_succ]; exact List.getElem?_eq_getElem hi)
      simp
      omega
theorem filt_clean (l : List Ver) (n : Int) (h : rightB l = true) (x : Ver) (h0 : uptoN l n ≠ 0) (hx : l[uptoN l n - 1]? = some x) : l.filter (fun y => decide (x.at_ ≤ y.at_)) = l.drop (uptoN l n - 1) := by
  have hlt := (List.getElem?_eq_some_iff.1 hx).1
  generalize uptoN l n - 1 = d at *
  have e := List.take_append_drop d l
  have h1 : (l.take d).filter (fun y => decide (x.at_ ≤ y.at_)) = [] := by
    rw [List.filter_eq_nil_iff]
    intro y hy
    obtain ⟨i, hi, rfl⟩ := List.getElem_of_mem hy
    rw [List.length_take] at hi
    rw [List.getElem_take]
    have := right_rises h (d - i) i l[i] x (List.getElem?_eq_getElem (by omega)) (by rw [show i + (d - i) = d by omega]; exact hx)
    simp
    omega
  have h2 : (l.drop d).filter (fun y => decide (x.at_ ≤ y.at_)) = l.drop d := by
    rw [List.filter_eq_self]
    intro y hy
    obtain ⟨i, hi, rfl⟩ := List.getElem_of_mem hy
    rw [List.length_drop] at hi
    rw [List.getElem_drop]
    have := right_rises h i d x l[d + i] hx (List.getElem?_eq_getElem (by omega))
    simp
    omega
  calc l.filter (fun y => decide (x.at_ ≤ y.at_)) = (l.take d ++ l.drop d).filter (fun y => decide (x.at_ ≤ y.at_)) := by rw [e]
    _ = l.drop d := by rw [List.filter_append, h1, h2, List.nil_append]
set_option maxHeartbeats 4000000 in
set_option maxRecDepth 100000 in
theorem refundo_any {S : Nat → Prop} (v : Value) (l : List Ver) (n : Int) (w : World) (h : RSl Rep.ver w S v l) (hl : l.length ≤ 1000) :
    Calls Try.prog 38 #[v, .int .i64 n] w fun e w' => ∃ v', e = .returned v' ∧ Mine Rep.ver 62 w w' v' (l.filter (fun x => decide (x.at_ ≤ n))) := by
  have HX := Lib.hid h
  obtain ⟨A, c, cs, rfl, d1, d2, _⟩ := h
  have d2' : c ≤ 9223372036854775807 := d2
  have hfull := Lib.hid (show l.take l.length = l from List.take_length)
  go_enter Try.func38, Try.ntmps38
  go_wp2_with fail
  go_loopw [5, 7, 10] (fun v3 x5 i wr => ∃ k : Nat, k ≤ l.length ∧ i = .int .i64 k ∧ Hid (Mine Rep.ver 62 w wr v3 ((l.take k).filter (fun x => decide (x.at_ ≤ n))))) (fun _ _ i _ => l.length - (intOf i).toNat)
  case atStart => exact ⟨0, by omega, rfl, Lib.hid (Mine.nil w (Upd.refl _ _))⟩
  case round =>
    obtain ⟨k, hk, rfl, hM⟩ := hrel
    by_cases hlt : k < l.length
    · have hlt' := hlt
      clear hlt'
      obtain ⟨g, o, rcs, rfl, hrep, hcs, hg⟩ := HX.out.cellN k hlt
      obtain ⟨hr1, hr2, hr3, hr4⟩ := hrep
      subst hr1
      have c0 : wr.cell? ⟨g, o + k * 4, none⟩ = some (.int .i64 l[k].at_) := hM.out.2.cell (hcs 0 _ rfl) (fun h => h)
      have c1 : wr.cell? ⟨g, o + k * 4 + 1, none⟩ = some (.int .u64 l[k].num) := hM.out.2.cell (hcs 1 _ rfl) (fun h => h)
      have c2 : wr.cell? ⟨g, o + k * 4 + 2, none⟩ = some (.string l[k].val) := hM.out.2.cell (hcs 2 _ rfl) (fun h => h)
      have c3 : wr.cell? ⟨g, o + k * 4 + 3, none⟩ = some (.bool l[k].gone) := hM.out.2.cell (hcs 3 _ rfl) (fun h => h)
      have hall : (((l.take k).filter (fun x => decide (x.at_ ≤ n))).length + 1) * 40 ≤ 140737488355328 := by
        have := List.length_filter_le (fun x : Ver => decide (x.at_ ≤ n)) (l.take k)
        rw [List.length_take] at this; omega
      have hq1 := Lib.hid (show ((fun x : Ver => decide (x.at_ ≤ n)) l[k]) = true → (l.take (k + 1)).filter (fun x => decide (x.at_ ≤ n)) = (l.take k).filter (fun x => decide (x.at_ ≤ n)) ++ [l[k]] from fun h => by
        rw [List.take_succ_eq_append_getElem hlt, List.filter_append, (show [l[k]].filter (fun x => decide (x.at_ ≤ n)) = [l[k]] from List.filter_cons_of_pos (p := fun x : Ver => decide (x.at_ ≤ n)) (l := []) h)])
      have hq2 := Lib.hid (show ((fun x : Ver => decide (x.at_ ≤ n)) l[k]) = false → (l.take (k + 1)).filter (fun x => decide (x.at_ ≤ n)) = (l.take k).filter (fun x => decide (x.at_ ≤ n)) from fun h => by
        rw [List.take_succ_eq_append_getElem hlt, List.filter_append, (show [l[k]].filter (fun x => decide (x.at_ ≤ n)) = [] from List.filter_cons_of_neg (p := fun x : Ver => decide (x.at_ ≤ n)) (l := []) (Bool.eq_false_iff.1 h)), List.append_nil])
      generalize l[k] = x at *
      obtain ⟨wa, hwa⟩ : ∃ wa, wr.alloc (.cells #[.int .i64 x.at_, .int .u64 x.num, .string x.val, .bool x.gone] 62) = wa := ⟨_, rfl⟩
      have hM1' := hM.out.upd ((Upd.refl NoB wr).alloc (.cells #[.int .i64 x.at_, .int .u64 x.num, .string x.val, .bool x.gone] 62))
      rw [hwa] at hM1'
      have hM1 := Lib.hid hM1'
      have HUa := Lib.hid (show Upd NoB wr wa by rw [← hwa]; exact (Upd.refl NoB wr).alloc _)
      clear hM1'
      have hBa : wa.heap[wr.heap.size]? = some (.cells #[.int .i64 x.at_, .int .u64 x.num, .string x.val, .bool x.gone] 62 (0, 0)) := by rw [← hwa]; exact heap_alloc_new _ _
      have e0 : wa.cell? ⟨wr.heap.size, 0, none⟩ = some (.int .i64 x.at_) := by simp [World.cell?, hBa]
      have e1 : wa.cell? ⟨wr.heap.size, 1, none⟩ = some (.int .u64 x.num) := by simp [World.cell?, hBa]
      have e2 : wa.cell? ⟨wr.heap.size, 2, none⟩ = some (.string x.val) := by simp [World.cell?, hBa]
      have e3 : wa.cell? ⟨wr.heap.size, 3, none⟩ = some (.bool x.gone) := by simp [World.cell?, hBa]
      have hy := Lib.hid (show Rep.ver.rep wa NoB x #[.int .i64 x.at_, .int .u64 x.num, .string x.val, .bool x.gone].toList from ⟨rfl, hr2, hr3, hr4⟩)
      clear hBa
      have HO := Lib.hid hM1.out.1
      have HB := Lib.hid hM1.out.bd
      clear hcs hr2 hr3 hr4
      by_cases hp : x.at_ ≤ n
      · have hd : decide (x.at_ ≤ n) = true := decide_eq_true hp
        have hq := Lib.hid (hq1.out hd)
        clear hq1 hq2
        go_wp2_with (at_builtin; go_must (refine app_one (r := Rep.ver) (y := x) rfl _ _ 41 62 (.agg #[.int .i64 0, .int .u64 0, .string ⟨#[]⟩, .bool false]) 40 rfl Try.underlying41 iRVer rfl (by decide) rfl rfl HO.out HB.out hy.out (fun b hb => hb.elim) hall ?_))
        intro v1 w2 ho2 hu2
        have fin := Lib.hid (hM1.out.app ho2 hu2)
        clear ho2 hu2
        go_wp2_with fail
        go_roundw
        case measure => simp [intOf]; omega
        case rel => exact ⟨k + 1, by omega, by go_num, Lib.hid (by rw [hq.out]; exact fin.out)⟩
      · have hd : decide (x.at_ ≤ n) = false := decide_eq_false hp
        have hq := Lib.hid (hq2.out hd)
        clear hq1 hq2 hall
        go_wp2_with fail
        go_roundw
        case measure => simp [intOf]; omega
        case rel => exact ⟨k + 1, by omega, by go_num, Lib.hid (by rw [hq.out]; exact hM1.out)⟩
    · obtain rfl : k = l.length := by omega
      obtain ⟨A3, c3', _, rfl, _⟩ := hM.out.1.read
      go_wp2_with fail
      go_ret
      exact ⟨_, rfl, Eq.mp (congrArg (fun z => Mine Rep.ver 62 w wr _ (z.filter (fun x => decide (x.at_ ≤ n)))) hfull.out) hM.out⟩
end Go.Proofs.Ytcckljomjpfdaaa
