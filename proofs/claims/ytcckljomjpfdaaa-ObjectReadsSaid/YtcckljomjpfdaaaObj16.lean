/- Versions (16): the document's own: without elder ones. -/
import Derived.Test.YtcckljomjpfdaaaObj15
namespace Go.Proofs.Ytcckljomjpfdaaa
open Go.RowKit Kit
set_option linter.unusedVariables false

set_option maxHeartbeats 4000000 in
set_option maxRecDepth 100000 in
theorem refclean_all {S : Nat → Prop} (v : Value) (l : List Ver) (n : Int) (w : World) (h : RSl Rep.ver w S v l) (hl : l.length ≤ 1000)
    (hrd : Hid (Calls Try.prog 37 #[v, .int .i64 n] w fun e w' => e = .returned (.tuple #[.agg #[.int .i64 0, .int .u64 0, .string ⟨#[]⟩, .bool false], .bool false]) ∧ Upd NoB w w')) :
    Calls Try.prog 40 #[v, .int .i64 n] w fun e w' => ∃ v', e = .returned v' ∧ Mine Rep.ver 62 w w' v' (l.filter (fun x => true)) := by
  have HX0 := Lib.hid h
  obtain ⟨A, c, cs, rfl, d1, d2, _⟩ := h
  have d2' : c ≤ 9223372036854775807 := d2
  have hfull := Lib.hid (show l.take l.length = l from List.take_length)
  go_enter Try.func40, Try.ntmps40
  go_wp2_with fail
  refine hrd.out.mono ?_
  rintro e w2 ⟨rfl, hu⟩
  skip
  obtain ⟨b5, hb5⟩ : ∃ b, w2.heap.size = b := ⟨_, rfl⟩
  have hBx := heap_alloc_new w2 (.cells #[.int .i64 0, .int .u64 0, .string ⟨#[]⟩, .bool false] 62 (0, 0))
  have hub := hu.alloc (.cells #[.int .i64 0, .int .u64 0, .string ⟨#[]⟩, .bool false] 62)
  have HX := Lib.hid (HX0.out.upd hub (fun _ _ h => h))
  go_wp2_with fail
  generalize hwb : w2.alloc (.cells #[.int .i64 0, .int .u64 0, .string ⟨#[]⟩, .bool false] 62) = wb at *
  rw [hb5] at hBx
  have HBx := Lib.hid hBx
  have HUb := Lib.hid hub
  clear hBx hub hu hwb hb5
  go_loopw [7, 9, 18] (fun v3 x5 i wr => ∃ k : Nat, k ≤ l.length ∧ i = .int .i64 k ∧ Hid (Mine Rep.ver 62 wb wr v3 ((l.take k).filter (fun x => true)))) (fun _ _ i _ => l.length - (intOf i).toNat)
  case atStart => exact ⟨0, by omega, rfl, Lib.hid (Mine.nil wb (Upd.refl _ _))⟩
  case round =>
    obtain ⟨k, hk, rfl, hM⟩ := hrel
    by_cases hlt : k < l.length
    · have hlt' := hlt
      clear hlt'
      obtain ⟨g, o, rcs, rfl, hrep, hcs, hg⟩ := HX.out.cellN k hlt
      obtain ⟨hr1, hr2, hr3, hr4⟩ := hrep
      subst hr1
      have c0 : wr.cell? ⟨g, o + k * 4, none⟩ = some (.int .i64 l[k].at_) := hM.out.2.cell (hcs 0 _ rfl) (fun h => h)
      have c1 : wr.cell? ⟨g, o + k * 4 + 1, none⟩ = some (.int .u64 l[k].num) := hM.out.2.cell (hcs 1 _ rfl) (fun h => h)
      have c2 : wr.cell? ⟨g, o + k * 4 + 2, none⟩ = some (.string l[k].val) := hM.out.2.cell (hcs 2 _ rfl) (fun h => h)
      have c3 : wr.cell? ⟨g, o + k * 4 + 3, none⟩ = some (.bool l[k].gone) := hM.out.2.cell (hcs 3 _ rfl) (fun h => h)
      have hall : (((l.take k).filter (fun x => true)).length + 1) * 40 ≤ 140737488355328 := by
        have := List.length_filter_le (fun x : Ver => true) (l.take k)
        rw [List.length_take] at this; omega
      have hq1 := Lib.hid (show ((fun x : Ver => true) l[k]) = true → (l.take (k + 1)).filter (fun x => true) = (l.take k).filter (fun x => true) ++ [l[k]] from fun h => by
        rw [List.take_succ_eq_append_getElem hlt, List.filter_append, (show [l[k]].filter (fun x => true) = [l[k]] from List.filter_cons_of_pos (p := fun x : Ver => true) (l := []) h)])
      have hq2 := Lib.hid (show ((fun x : Ver => true) l[k]) = false → (l.take (k + 1)).filter (fun x => true) = (l.take k).filter (fun x => true) from fun h => by
        rw [List.take_succ_eq_append_getElem hlt, List.filter_append, (show [l[k]].filter (fun x => true) = [] from List.filter_cons_of_neg (p := fun x : Ver => true) (l := []) (Bool.eq_false_iff.1 h)), List.append_nil])
      generalize l[k] = x at *
      obtain ⟨wa, hwa⟩ : ∃ wa, wr.alloc (.cells #[.int .i64 x.at_, .int .u64 x.num, .string x.val, .bool x.gone] 62) = wa := ⟨_, rfl⟩
      have hM1' := hM.out.upd ((Upd.refl NoB wr).alloc (.cells #[.int .i64 x.at_, .int .u64 x.num, .string x.val, .bool x.gone] 62))
      rw [hwa] at hM1'
      have hM1 := Lib.hid hM1'
      have HUa := Lib.hid (show Upd NoB wr wa by rw [← hwa]; exact (Upd.refl NoB wr).alloc _)
      clear hM1'
      have hBa : wa.heap[wr.heap.size]? = some (.cells #[.int .i64 x.at_, .int .u64 x.num, .string x.val, .bool x.gone] 62 (0, 0)) := by rw [← hwa]; exact heap_alloc_new _ _
      have e0 : wa.cell? ⟨wr.heap.size, 0, none⟩ = some (.int .i64 x.at_) := by simp [World.cell?, hBa]
      have e1 : wa.cell? ⟨wr.heap.size, 1, none⟩ = some (.int .u64 x.num) := by simp [World.cell?, hBa]
      have e2 : wa.cell? ⟨wr.heap.size, 2, none⟩ = some (.string x.val) := by simp [World.cell?, hBa]
      have e3 : wa.cell? ⟨wr.heap.size, 3, none⟩ = some (.bool x.gone) := by simp [World.cell?, hBa]
      have hy := Lib.hid (show Rep.ver.rep wa NoB x #[.int .i64 x.at_, .int .u64 x.num, .string x.val, .bool x.gone].toList from ⟨rfl, hr2, hr3, hr4⟩)
      clear hBa
      have HO := Lib.hid hM1.out.1
      have HB := Lib.hid hM1.out.bd
      clear hcs hr2 hr3 hr4
      have x0 : wa.cell? ⟨b5, 0, none⟩ = some (.int .i64 0) := by
        have := (hM.out.2.trans HUa.out).heap HBx.out (fun h => h)
        simp [World.cell?, this]
      have hd : true = true := rfl
      have hq := Lib.hid (hq1.out hd)
      clear hq1 hq2
      go_wp2_with (at_builtin; go_must (refine app_one (r := Rep.ver) (y := x) rfl _ _ 41 62 (.agg #[.int .i64 0, .int .u64 0, .string ⟨#[]⟩, .bool false]) 40 rfl Try.underlying41 iRVer rfl (by decide) rfl rfl HO.out HB.out hy.out (fun b hb => hb.elim) hall ?_))
      intro v1 w2 ho2 hu2
      have fin := Lib.hid (hM1.out.app ho2 hu2)
      clear ho2 hu2
      go_wp2_with fail
      go_roundw
      case measure => simp [intOf]; omega
      case rel => exact ⟨k + 1, by omega, by go_num, Lib.hid (by rw [hq.out]; exact fin.out)⟩
    · obtain rfl : k = l.length := by omega
      obtain ⟨A3, c3', _, rfl, _⟩ := hM.out.1.read
      go_wp2_with fail
      go_ret
      exact ⟨_, rfl, Mine.base (Eq.mp (congrArg (fun z => Mine Rep.ver 62 wb wr _ (z.filter (fun x => true))) hfull.out) hM.out) HUb.out⟩

set_option maxHeartbeats 4000000 in
set_option maxRecDepth 100000 in
theorem refclean_some {S : Nat → Prop} (v : Value) (l : List Ver) (n : Int) (X : Ver) (w : World) (h : RSl Rep.ver w S v l) (hl : l.length ≤ 1000)
    (hrd : Hid (Calls Try.prog 37 #[v, .int .i64 n] w fun e w' => e = .returned (.tuple #[.agg #[.int .i64 X.at_, .int .u64 X.num, .string X.val, .bool X.gone], .bool true]) ∧ Upd NoB w w')) :
    Calls Try.prog 40 #[v, .int .i64 n] w fun e w' => ∃ v', e = .returned v' ∧ Mine Rep.ver 62 w w' v' (l.filter (fun x => decide (X.at_ ≤ x.at_))) := by
  have HX0 := Lib.hid h
  obtain ⟨A, c, cs, rfl, d1, d2, _⟩ := h
  have d2' : c ≤ 9223372036854775807 := d2
  have hfull := Lib.hid (show l.take l.length = l from List.take_length)
  go_enter Try.func40, Try.ntmps40
  go_wp2_with fail
  refine hrd.out.mono ?_
  rintro e w2 ⟨rfl, hu⟩
  skip
  obtain ⟨b5, hb5⟩ : ∃ b, w2.heap.size = b := ⟨_, rfl⟩
  have hBx := heap_alloc_new w2 (.cells #[.int .i64 X.at_, .int .u64 X.num, .string X.val, .bool X.gone] 62 (0, 0))
  have hub := hu.alloc (.cells #[.int .i64 X.at_, .int .u64 X.num, .string X.val, .bool X.gone] 62)
  have HX := Lib.hid (HX0.out.upd hub (fun _ _ h => h))
  go_wp2_with fail
  generalize hwb : w2.alloc (.cells #[.int .i64 X.at_, .int .u64 X.num, .string X.val, .bool X.gone] 62) = wb at *
  rw [hb5] at hBx
  have HBx := Lib.hid hBx
  have HUb := Lib.hid hub
  clear hBx hub hu hwb hb5
  go_loopw [7, 9, 18] (fun v3 x5 i wr => ∃ k : Nat, k ≤ l.length ∧ i = .int .i64 k ∧ Hid (Mine Rep.ver 62 wb wr v3 ((l.take k).filter (fun x => decide (X.at_ ≤ x.at_))))) (fun _ _ i _ => l.length - (intOf i).toNat)
  case atStart => exact ⟨0, by omega, rfl, Lib.hid (Mine.nil wb (Upd.refl _ _))⟩
  case round =>
    obtain ⟨k, hk, rfl, hM⟩ := hrel
    by_cases hlt : k < l.length
    · have hlt' := hlt
      clear hlt'
      obtain ⟨g, o, rcs, rfl, hrep, hcs, hg⟩ := HX.out.cellN k hlt
      obtain ⟨hr1, hr2, hr3, hr4⟩ := hrep
      subst hr1
      have c0 : wr.cell? ⟨g, o + k * 4, none⟩ = some (.int .i64 l[k].at_) := hM.out.2.cell (hcs 0 _ rfl) (fun h => h)
      have c1 : wr.cell? ⟨g, o + k * 4 + 1, none⟩ = some (.int .u64 l[k].num) := hM.out.2.cell (hcs 1 _ rfl) (fun h => h)
      have c2 : wr.cell? ⟨g, o + k * 4 + 2, none⟩ = some (.string l[k].val) := hM.out.2.cell (hcs 2 _ rfl) (fun h => h)
      have c3 : wr.cell? ⟨g, o + k * 4 + 3, none⟩ = some (.bool l[k].gone) := hM.out.2.cell (hcs 3 _ rfl) (fun h => h)
      have hall : (((l.take k).filter (fun x => decide (X.at_ ≤ x.at_))).length + 1) * 40 ≤ 140737488355328 := by
        have := List.length_filter_le (fun x : Ver => decide (X.at_ ≤ x.at_)) (l.take k)
        rw [List.length_take] at this; omega
      have hq1 := Lib.hid (show ((fun x : Ver => decide (X.at_ ≤ x.at_)) l[k]) = true → (l.take (k + 1)).filter (fun x => decide (X.at_ ≤ x.at_)) = (l.take k).filter (fun x => decide (X.at_ ≤ x.at_)) ++ [l[k]] from fun h => by
        rw [List.take_succ_eq_append_getElem hlt, List.filter_append, (show [l[k]].filter (fun x => decide (X.at_ ≤ x.at_)) = [l[k]] from List.filter_cons_of_pos (p := fun x : Ver => decide (X.at_ ≤ x.at_)) (l := []) h)])
      have hq2 := Lib.hid (show ((fun x : Ver => decide (X.at_ ≤ x.at_)) l[k]) = false → (l.take (k + 1)).filter (fun x => decide (X.at_ ≤ x.at_)) = (l.take k).filter (fun x => decide (X.at_ ≤ x.at_)) from fun h => by
        rw [List.take_succ_eq_append_getElem hlt, List.filter_append, (show [l[k]].filter (fun x => decide (X.at_ ≤ x.at_)) = [] from List.filter_cons_of_neg (p := fun x : Ver => decide (X.at_ ≤ x.at_)) (l := []) (Bool.eq_false_iff.1 h)), List.append_nil])
      generalize l[k] = x at *
      obtain ⟨wa, hwa⟩ : ∃ wa, wr.alloc (.cells #[.int .i64 x.at_, .int .u64 x.num, .string x.val, .bool x.gone] 62) = wa := ⟨_, rfl⟩
      have hM1' := hM.out.upd ((Upd.refl NoB wr).alloc (.cells #[.int .i64 x.at_, .int .u64 x.num, .string x.val, .bool x.gone] 62))
      rw [hwa] at hM1'
      have hM1 := Lib.hid hM1'
      have HUa := Lib.hid (show Upd NoB wr wa by rw [← hwa]; exact (Upd.refl NoB wr).alloc _)
      clear hM1'
      have hBa : wa.heap[wr.heap.size]? = some (.cells #[.int .i64 x.at_, .int .u64 x.num, .string x.val, .bool x.gone] 62 (0, 0)) := by rw [← hwa]; exact heap_alloc_new _ _
      have e0 : wa.cell? ⟨wr.heap.size, 0, none⟩ = some (.int .i64 x.at_) := by simp [World.cell?, hBa]
      have e1 : wa.cell? ⟨wr.heap.size, 1, none⟩ = some (.int .u64 x.num) := by simp [World.cell?, hBa]
      have e2 : wa.cell? ⟨wr.heap.size, 2, none⟩ = some (.string x.val) := by simp [World.cell?, hBa]
      have e3 : wa.cell? ⟨wr.heap.size, 3, none⟩ = some (.bool x.gone) := by simp [World.cell?, hBa]
      have hy := Lib.hid (show Rep.ver.rep wa NoB x #[.int .i64 x.at_, .int .u64 x.num, .string x.val, .bool x.gone].toList from ⟨rfl, hr2, hr3, hr4⟩)
      clear hBa
      have HO := Lib.hid hM1.out.1
      have HB := Lib.hid hM1.out.bd
      clear hcs hr2 hr3 hr4
      have x0 : wa.cell? ⟨b5, 0, none⟩ = some (.int .i64 X.at_) := by
        have := (hM.out.2.trans HUa.out).heap HBx.out (fun h => h)
        simp [World.cell?, this]
      by_cases hp : X.at_ ≤ x.at_
      · have hd : decide (X.at_ ≤ x.at_) = true := decide_eq_true hp
        have hq := Lib.hid (hq1.out hd)
        clear hq1 hq2
        go_wp2_with (at_builtin; go_must (refine app_one (r := Rep.ver) (y := x) rfl _ _ 41 62 (.agg #[.int .i64 0, .int .u64 0, .string ⟨#[]⟩, .bool false]) 40 rfl Try.underlying41 iRVer rfl (by decide) rfl rfl HO.out HB.out hy.out (fun b hb => hb.elim) hall ?_))
        intro v1 w2 ho2 hu2
        have fin := Lib.hid (hM1.out.app ho2 hu2)
        clear ho2 hu2
        go_wp2_with fail
        go_roundw
        case measure => simp [intOf]; omega
        case rel => exact ⟨k + 1, by omega, by go_num, Lib.hid (by rw [hq.out]; exact fin.out)⟩
      · have hd : decide (X.at_ ≤ x.at_) = false := decide_eq_false hp
        have hq := Lib.hid (hq2.out hd)
        clear hq1 hq2 hall
        go_wp2_with fail
        go_roundw
        case measure => simp [intOf]; omega
        case rel => exact ⟨k + 1, by omega, by go_num, Lib.hid (by rw [hq.out]; exact hM1.out)⟩
    · obtain rfl : k = l.length := by omega
      obtain ⟨A3, c3', _, rfl, _⟩ := hM.out.1.read
      go_wp2_with fail
      go_ret
      exact ⟨_, rfl, Mine.base (Eq.mp (congrArg (fun z => Mine Rep.ver 62 wb wr _ (z.filter (fun x => decide (X.at_ ≤ x.at_)))) hfull.out) hM.out) HUb.out⟩

theorem refclean_any {S : Nat → Prop} (v : Value) (l : List Ver) (n : Int) (w : World) (h : RSl Rep.ver w S v l) (hl : l.length ≤ 1000) (hr : rightB l = true) :
    Calls Try.prog 40 #[v, .int .i64 n] w fun e w' => ∃ v', e = .returned v' ∧ Mine Rep.ver 62 w w' v' (l.drop (uptoN l n - 1)) := by
  have hrd := refread_any v l n w h hl hr
  by_cases h0 : uptoN l n = 0
  · rw [readV_none hr h0] at hrd
    have := refclean_all v l n w h hl (Lib.hid hrd)
    rw [List.filter_eq_self.2 (fun _ _ => rfl)] at this
    rw [h0]
    exact this
  · have hlt : uptoN l n - 1 < l.length := by have := uptoN_le l n; omega
    rw [readV_some hr h0 hlt] at hrd
    have := refclean_some v l n l[uptoN l n - 1] w h hl (Lib.hid hrd)
    rw [filt_clean l n hr _ h0 (List.getElem?_eq_getElem hlt)] at this
    exact this
end Go.Proofs.Ytcckljomjpfdaaa
