/- Versions, function by function (4): the program's out of the document's, and back. -/
import Derived.Test.YtcckljomjpfdaaaObj3
import Derived.Test.YtcckljomjpfdaaaHeld
namespace Go.Proofs.Ytcckljomjpfdaaa
open Go.RowKit Kit
set_option linter.unusedVariables false

theorem iVer : (Try.prog.info? 50).map (fun i => (i.zero, i.size, i.bytes)) = some (some (.agg #[.int .i64 0, .int .u64 0, .string ⟨#[]⟩, .bool false]), 4, 40) := by kernel_rfl
theorem iRVer : (Try.prog.info? 62).map (fun i => (i.zero, i.size, i.bytes)) = some (some (.agg #[.int .i64 0, .int .u64 0, .string ⟨#[]⟩, .bool false]), 4, 40) := by kernel_rfl

theorem heap_put' {w : World} {p : Nat} {cs : Array Value} {T : TypeId} {fr : Nat × Nat} (h : w.heap[p]? = some (.cells cs T fr)) (i : Nat) (u : Value) : (w.setCell ⟨p, i, none⟩ u).heap[p]? = some (.cells (cs.setIfInBounds i u) T fr) := by
  simp only [World.setCell, Array.getElem?_modify, if_true, h]
  rfl
set_option maxHeartbeats 2000000 in
set_option maxRecDepth 100000 in
theorem plain_any {S : Nat → Prop} (v : Value) (l : List Ver) (w : World) (h : RSl Rep.ver w S v l) (hl : l.length ≤ 1000) :
    Calls Try.prog 33 #[.agg #[v]] w fun e w' => ∃ v', e = .returned v' ∧ Mine Rep.ver 62 w w' v' l := by
  have HX := Lib.hid h
  obtain ⟨A, c, cs, rfl, d1, d2, _⟩ := h
  have d2' : c ≤ 9223372036854775807 := d2
  have hfull := Lib.hid (show l.take l.length = l from List.take_length)
  go_enter Try.func33, Try.ntmps33
  go_wp2_with fail
  go_loopw [3, 5, 9] (fun v3 x5 i wr => ∃ k : Nat, k ≤ l.length ∧ i = .int .i64 k ∧ Hid (Mine Rep.ver 62 w wr v3 (l.take k))) (fun _ _ i _ => l.length - (intOf i).toNat)
  case atStart => exact ⟨0, by omega, rfl, Lib.hid (Mine.nil w ((Upd.refl _ _).alloc _))⟩
  case round =>
    obtain ⟨k, hk, rfl, hM⟩ := hrel
    by_cases hlt : k < l.length
    · obtain ⟨g, o, rcs, rfl, hrep, hcs, hg⟩ := HX.out.cellN k hlt
      obtain ⟨hr1, hr2, hr3, hr4⟩ := hrep
      subst hr1
      have c0 : wr.cell? ⟨g, o + k * 4, none⟩ = some (.int .i64 l[k].at_) := hM.out.2.cell (hcs 0 _ rfl) (fun h => h)
      have c1 : wr.cell? ⟨g, o + k * 4 + 1, none⟩ = some (.int .u64 l[k].num) := hM.out.2.cell (hcs 1 _ rfl) (fun h => h)
      have c2 : wr.cell? ⟨g, o + k * 4 + 2, none⟩ = some (.string l[k].val) := hM.out.2.cell (hcs 2 _ rfl) (fun h => h)
      have c3 : wr.cell? ⟨g, o + k * 4 + 3, none⟩ = some (.bool l[k].gone) := hM.out.2.cell (hcs 3 _ rfl) (fun h => h)
      have hq := Lib.hid (show l.take (k + 1) = l.take k ++ [l[k]] from List.take_succ_eq_append_getElem hlt)
      have hall : ((l.take k).length + 1) * 40 ≤ 140737488355328 := by rw [List.length_take]; omega
      generalize l[k] = x at *
      obtain ⟨wa, hwa⟩ : ∃ wa, wr.alloc (.cells #[.int .i64 x.at_, .int .u64 x.num, .string x.val, .bool x.gone] 50) = wa := ⟨_, rfl⟩
      have hM1' := hM.out.upd ((Upd.refl NoB wr).alloc (.cells #[.int .i64 x.at_, .int .u64 x.num, .string x.val, .bool x.gone] 50))
      rw [hwa] at hM1'
      have hM1 := Lib.hid hM1'
      clear hM1'
      have hBa : wa.heap[wr.heap.size]? = some (.cells #[.int .i64 x.at_, .int .u64 x.num, .string x.val, .bool x.gone] 50 (0, 0)) := by rw [← hwa]; exact heap_alloc_new _ _
      have e0 : wa.cell? ⟨wr.heap.size, 0, none⟩ = some (.int .i64 x.at_) := by simp [World.cell?, hBa]
      have e1 : wa.cell? ⟨wr.heap.size, 1, none⟩ = some (.int .u64 x.num) := by simp [World.cell?, hBa]
      have e2 : wa.cell? ⟨wr.heap.size, 2, none⟩ = some (.string x.val) := by simp [World.cell?, hBa]
      have e3 : wa.cell? ⟨wr.heap.size, 3, none⟩ = some (.bool x.gone) := by simp [World.cell?, hBa]
      have hy := Lib.hid (show Rep.ver.rep wa NoB x #[.int .i64 x.at_, .int .u64 x.num, .string x.val, .bool x.gone].toList from ⟨rfl, hr2, hr3, hr4⟩)
      clear hBa
      have HO := Lib.hid hM1.out.1
      have HB := Lib.hid hM1.out.bd
      clear hcs hr2 hr3 hr4
      go_wp2_with (at_builtin; go_must (refine app_one (r := Rep.ver) (y := x) rfl _ _ 41 62 (.agg #[.int .i64 0, .int .u64 0, .string ⟨#[]⟩, .bool false]) 40 rfl Try.underlying41 iRVer rfl (by decide) rfl rfl HO.out HB.out hy.out (fun b hb => hb.elim) hall ?_))
      intro v1 w2 ho2 hu2
      have fin := Lib.hid (hM1.out.app ho2 hu2)
      clear ho2 hu2
      go_wp2_with fail
      go_roundw
      case measure => simp [intOf]; omega
      case rel => exact ⟨k + 1, by omega, by go_num, Lib.hid (by rw [hq.out]; exact fin.out)⟩
    · obtain rfl : k = l.length := by omega
      obtain ⟨A3, c3', _, rfl, _⟩ := hM.out.1.read
      go_wp2_with fail
      go_ret
      exact ⟨_, rfl, Eq.mp (congrArg (fun z => Mine Rep.ver 62 w wr _ z) hfull.out) hM.out⟩
/-- The loop's state: the object under way. -/
def OursAt (w wr : World) (l : List Ver) : Prop :=
  ∃ v, wr.heap[w.heap.size + 1]? = some (.cells #[v] 44 (0, 0)) ∧ wr.heap[w.heap.size]? = some (.cells #[.slice none 0 0] 44 (0, 0)) ∧ OSl Rep.ver 50 wr (New w wr [w.heap.size, w.heap.size + 1]) v l ∧ Upd NoB w wr
theorem OursAt.alloc {w wr : World} {l : List Ver} (h : OursAt w wr l) (o : Obj) : OursAt w (wr.alloc o) l := by
  obtain ⟨v, h1, h2, h3, h4⟩ := h
  have u : Upd NoB wr (wr.alloc o) := (Upd.refl NoB wr).alloc o
  exact ⟨v, u.heap h1 (fun h => h), u.heap h2 (fun h => h), h3.new_keep u (fun b hb => hb.elim), h4.trans u⟩

set_option maxHeartbeats 2000000 in
set_option maxRecDepth 100000 in
theorem ours_any {S : Nat → Prop} (v : Value) (l : List Ver) (w : World) (h : RSl Rep.ver w S v l) :
    Calls Try.prog 26 #[v] w fun e w' => ∃ v', e = .returned (.agg #[v']) ∧ Mine Rep.ver 50 w w' v' (l.take 20) := by
  have HX := Lib.hid h
  obtain ⟨A, c, cs, rfl, d1, d2, _⟩ := h
  have d2' : c ≤ 9223372036854775807 := d2
  have h00 : OursAt w ((w.alloc (.cells #[.slice none 0 0] 44)).alloc (.cells #[.slice none 0 0] 44)) [] := by
    have u : Upd NoB (w.alloc (.cells #[.slice none 0 0] 44)) ((w.alloc (.cells #[.slice none 0 0] 44)).alloc (.cells #[.slice none 0 0] 44)) := (Upd.refl _ _).alloc _
    have g := heap_alloc_new (w.alloc (.cells #[.slice none 0 0] 44)) (.cells #[.slice none 0 0] 44 (0, 0))
    rw [show (w.alloc (.cells #[.slice none 0 0] 44)).heap.size = w.heap.size + 1 by simp] at g
    exact ⟨_, g, u.heap (heap_alloc_new _ _) (fun h => h), OSl.nil _ _ _, ((Upd.refl _ _).alloc _).trans u⟩
  have H00 := Lib.hid h00
  clear h00
  go_enter Try.func26, Try.ntmps26
  go_wp2_with fail
  go_loopw [4, 5, 8] (fun x4 x5 i wr => ∃ k : Nat, k ≤ l.length ∧ i = .int .i64 k ∧ Hid (OursAt w wr ((l.take 20).take k))) (fun _ _ i _ => l.length - (intOf i).toNat)
  case atStart => exact ⟨0, by omega, rfl, Lib.hid (by simpa using H00.out)⟩
  case round =>
    obtain ⟨k, hk, rfl, hM⟩ := hrel
    by_cases hlt : k < l.length
    · obtain ⟨g, o, rcs, rfl, hrep, hcs, hg⟩ := HX.out.cellN k hlt
      obtain ⟨hr1, hr2, hr3, hr4⟩ := hrep
      subst hr1
      have hu := hM.out.choose_spec.2.2.2
      have c0 : wr.cell? ⟨g, o + k * 4, none⟩ = some (.int .i64 l[k].at_) := hu.cell (hcs 0 _ rfl) (fun h => h)
      have c1 : wr.cell? ⟨g, o + k * 4 + 1, none⟩ = some (.int .u64 l[k].num) := hu.cell (hcs 1 _ rfl) (fun h => h)
      have c2 : wr.cell? ⟨g, o + k * 4 + 2, none⟩ = some (.string l[k].val) := hu.cell (hcs 2 _ rfl) (fun h => h)
      have c3 : wr.cell? ⟨g, o + k * 4 + 3, none⟩ = some (.bool l[k].gone) := hu.cell (hcs 3 _ rfl) (fun h => h)
      have hall : (((l.take 20).take k).length + 1) * 40 ≤ 140737488355328 := by rw [List.length_take, List.length_take]; omega
      have hq1 := Lib.hid (show k < 20 → (l.take 20).take (k + 1) = (l.take 20).take k ++ [l[k]] from fun h => by
        rw [List.take_succ_eq_append_getElem (by rw [List.length_take]; omega), List.getElem_take])
      have hq2 := Lib.hid (show ¬ k < 20 → (l.take 20).take (k + 1) = (l.take 20).take k from fun h => by
        rw [List.take_take, List.take_take, show min (k + 1) 20 = min k 20 by omega])
      generalize l[k] = x at *
      obtain ⟨wa, hwa⟩ : ∃ wa, wr.alloc (.cells #[.int .i64 x.at_, .int .u64 x.num, .string x.val, .bool x.gone] 62) = wa := ⟨_, rfl⟩
      have hM1' := hM.out.alloc (.cells #[.int .i64 x.at_, .int .u64 x.num, .string x.val, .bool x.gone] 62)
      rw [hwa] at hM1'
      have hM1 := Lib.hid hM1'
      obtain ⟨vo, g1, g2, g3, g4⟩ := hM1'
      have hBa : wa.heap[wr.heap.size]? = some (.cells #[.int .i64 x.at_, .int .u64 x.num, .string x.val, .bool x.gone] 62 (0, 0)) := by rw [← hwa]; exact heap_alloc_new _ _
      have e0 : wa.cell? ⟨wr.heap.size, 0, none⟩ = some (.int .i64 x.at_) := by simp [World.cell?, hBa]
      have e1 : wa.cell? ⟨wr.heap.size, 1, none⟩ = some (.int .u64 x.num) := by simp [World.cell?, hBa]
      have e2 : wa.cell? ⟨wr.heap.size, 2, none⟩ = some (.string x.val) := by simp [World.cell?, hBa]
      have e3 : wa.cell? ⟨wr.heap.size, 3, none⟩ = some (.bool x.gone) := by simp [World.cell?, hBa]
      have e4 : wa.cell? ⟨w.heap.size + 1, 0, none⟩ = some vo := by simp [World.cell?, g1]
      by_cases h20 : k < 20
      · have hd20 : decide ((k : Int) < 20) = true := decide_eq_true (by omega)
        have hI20 : (k : Int) < 20 := by omega
        have hy := Lib.hid (show Rep.ver.rep wa NoB x #[.int .i64 x.at_, .int .u64 x.num, .string x.val, .bool x.gone].toList from ⟨rfl, hr2, hr3, hr4⟩)
        have HO := Lib.hid g3
        have HB := Lib.hid (New.bd w wa [w.heap.size, w.heap.size + 1])
        have G1 := Lib.hid g1
        have G2 := Lib.hid g2
        have G4 := Lib.hid g4
        have hsz : w.heap.size + 1 < wa.heap.size := lt_of_heap g1
        obtain ⟨Ax, cx, _, e5, _⟩ := g3.read
        subst e5
        generalize hvl : Value.slice Ax _ cx = vo at *
        clear g1 g2 g3 g4 hvl hcs hr2 hr3 hr4 hBa
        go_wp2_with (at_builtin; go_must (refine app_one (r := Rep.ver) (y := x) rfl _ _ 42 50 (.agg #[.int .i64 0, .int .u64 0, .string ⟨#[]⟩, .bool false]) 40 rfl Try.underlying42 iVer rfl (by decide) rfl rfl HO.out HB.out hy.out (fun b hb => hb.elim) hall ?_))
        intro v1 w2 ho2 hu2
        have hn1 : ¬ vo.ownBlock = some (w.heap.size + 1) := fun e => (HO.out.new_own _ e).2.2 (by simp)
        have hn0 : ¬ vo.ownBlock = some w.heap.size := fun e => (HO.out.new_own _ e).2.2 (by simp)
        have g1' := hu2.heap G1.out hn1
        have c0' : w2.cell? ⟨w.heap.size + 1, 0, none⟩ = some vo := by simp [World.cell?, g1']
        have f0' : w2.frozen? ⟨w.heap.size + 1, 0, none⟩ = false := by simp [World.frozen?, g1']
        have HN := Lib.hid (ho2.new_app G4.out.size (fun x hx => by simp at hx; omega))
        obtain ⟨A1, c1', _, e6, _⟩ := HN.out.read
        have hfin : ∀ v1', v1 = v1' → OursAt w (w2.setCell ⟨w.heap.size + 1, 0, none⟩ v1') ((l.take 20).take (k + 1)) := by
          rintro _ rfl
          have u3 : Upd (fun b => b = w.heap.size + 1) w2 (w2.setCell ⟨w.heap.size + 1, 0, none⟩ v1) := (Upd.refl (fun b => b = w.heap.size + 1) w2).setCell (p := ⟨w.heap.size + 1, 0, none⟩) (fun _ => rfl) v1
          refine ⟨v1, ?_, u3.heap (hu2.heap G2.out hn0) (fun e => by omega), ?_, (G4.out.then hu2 (fun i hi e => by have := (HO.out.new_own i e).1; omega)).then u3 (fun i hi e => by omega)⟩
          · have := heap_put' g1' 0 v1
            simpa using this
          · rw [hq1.out h20]
            exact HN.out.new_keep u3 (fun b hb => .inl (by rw [show b = _ from hb]; simp))
        rw [List.length_append, List.length_singleton, List.length_take, List.length_take] at e6
        have HF := Lib.hid (hfin _ e6)
        subst e6
        clear ho2 hu2 g1' hfin
        go_wp2_with fail
        go_roundw
        case measure => simp [intOf]; omega
        case rel => exact ⟨k + 1, by omega, by go_num, HF⟩
      · have hd20 : decide ((k : Int) < 20) = false := decide_eq_false (by omega)
        have hI20 : ¬ (k : Int) < 20 := by omega
        clear g1 g2 g3 g4 hcs hr2 hr3 hr4 hBa
        go_wp2_with fail
        go_roundw
        case measure => simp [intOf]; omega
        case rel => exact ⟨k + 1, by omega, by go_num, Lib.hid (by rw [hq2.out h20]; exact hM1.out)⟩
    · obtain rfl : k = l.length := by omega
      have hfull := Lib.hid (show (l.take 20).take l.length = l.take 20 from List.take_of_length_le (by rw [List.length_take]; omega))
      obtain ⟨vo, g1, g2, g3, g4⟩ := hM.out
      have e4 : wr.cell? ⟨w.heap.size + 1, 0, none⟩ = some vo := by simp [World.cell?, g1]
      have e5 : wr.cell? ⟨w.heap.size, 0, none⟩ = some (.slice none 0 0) := by simp [World.cell?, g2]
      have f5 : wr.frozen? ⟨w.heap.size, 0, none⟩ = false := by simp [World.frozen?, g2]
      have u3 : Upd (fun b => b = w.heap.size) wr (wr.setCell ⟨w.heap.size, 0, none⟩ vo) := (Upd.refl (fun b => b = w.heap.size) wr).setCell (p := ⟨w.heap.size, 0, none⟩) (fun _ => rfl) vo
      have fin := Lib.hid (show Mine Rep.ver 50 w (wr.setCell ⟨w.heap.size, 0, none⟩ vo) vo (l.take 20) from
        ⟨Eq.mp (congrArg (fun z => OSl Rep.ver 50 _ _ vo z) hfull.out) ((g3.new_keep u3 (fun b hb => .inl (by rw [show b = _ from hb]; simp))).mono (fun b hb => ⟨.inr hb.1, hb.2.1⟩)), g4.then u3 (fun i hi e => by omega)⟩)
      obtain ⟨Ax, cx, _, e7, _⟩ := g3.read
      subst e7
      generalize ((l.take 20).take l.length).length = n at *
      clear g1 g2 g3 g4 u3
      go_wp2_with fail
      refine bodyPost_ret (v := .agg #[.slice Ax n cx]) (by simp [results, Try.results26, go_sem, *]) rfl ⟨_, rfl, fin.out⟩
end Go.Proofs.Ytcckljomjpfdaaa
