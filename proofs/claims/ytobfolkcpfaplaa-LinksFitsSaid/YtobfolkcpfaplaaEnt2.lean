/- Entries of a log, any: a transaction as the program's, as the document's. -/
import Derived.Test.YtobfolkcpfaplaaEnt1
namespace Go.Proofs.Ytobfolkcpfaplaa
open Go.RowKit Kit
set_option linter.unusedVariables false
theorem iRd (T : TypeId) (hT : T = 128 ∨ T = 137) : (Try.prog.info? T).map (fun i => (i.zero, i.size, i.bytes)) = some (some (.agg #[.string ⟨#[]⟩, .int .u64 0]), 2, 24) := by
  rcases hT with rfl | rfl <;> kernel_rfl
theorem iWt (T : TypeId) (hT : T = 131 ∨ T = 138) : (Try.prog.info? T).map (fun i => (i.zero, i.size, i.bytes)) = some (some (.agg #[.string ⟨#[]⟩, .string ⟨#[]⟩, .bool false]), 3, 40) := by
  rcases hT with rfl | rfl <;> kernel_rfl
theorem OSl.self2 {α : Type} {r : Rep α} (hf : Flat r) {w : World} {S : Nat → Prop} {v : Value} {l : List α} {e : TypeId} (h : OSl r e w S v l) : OSl r e w (fun b => v.ownBlock = some b) v l := by
  obtain ⟨cs, h1, h2, h3⟩ := h
  exact ⟨cs, h1, fun k hk => hk, Rows.flat hf h3 _ _⟩
set_option maxHeartbeats 8000000 in
set_option maxRecDepth 100000 in
theorem ourtxn_any {S : Nat → Prop} (tc tq : Int) (pl : Bool) (rd : List Rd) (wt : List Wt) (A B : Option Addr) (c d : Nat) (w : World) (h1 : RSlW Rep.rd w S (.slice A rd.length c) rd) (h2 : RSlW Rep.wt w S (.slice B wt.length d) wt) (hn1 : rd.length ≤ 9223372036854775807) (hn2 : wt.length ≤ 9223372036854775807) :
    Calls Try.prog 77 #[.agg #[.int .i64 tc, .int .u64 tq, .bool pl, .slice A rd.length c, .slice B wt.length d]] w fun e w' => ∃ va vb, e = .returned (.agg #[.int .i64 tc, .int .u64 tq, .bool pl, va, vb]) ∧
      RSl Rep.rd w' (grow NoB w w') va (rd.take 10) ∧ RSl Rep.wt w' (grow NoB w w') vb (wt.take 10) ∧ Upd NoB w w' := by
  have HX := Lib.hid h1
  have HY := Lib.hid h2
  obtain ⟨_, _, e1, d1, d2⟩ := h1.shape
  cases e1
  obtain ⟨_, _, e2, d3, d4⟩ := h2.shape
  cases e2
  have d2' : c ≤ 9223372036854775807 := d2
  have d4' : d ≤ 9223372036854775807 := d4
  have H00 := Lib.hid (TxA.start w #[.int .i64 tc, .int .u64 tq, .bool pl, .slice A rd.length c, .slice B wt.length d] #[.int .i64 tc, .int .u64 tq, .bool pl, .slice none 0 0, .slice none 0 0] 70 63)
  clear h1 h2
  go_enter Try.func77, Try.ntmps77
  go_wp2_with fail
  go_loopw [16] (fun x16 wr => ∃ (k : Nat) (vr : Value), k ≤ rd.length ∧ x16 = .int .i64 k ∧ Hid (TxA w wr #[.int .i64 tc, .int .u64 tq, .bool pl, .slice A rd.length c, .slice B wt.length d] #[.int .i64 tc, .int .u64 tq, .bool pl, vr, .slice none 0 0] 70 63) ∧
    Hid (OSl Rep.rd 128 wr (New w wr [w.heap.size, w.heap.size + 1, w.heap.size + 2]) vr ((rd.take 10).take k))) (fun x16 _ => rd.length - (intOf x16).toNat)
  case atStart => exact ⟨0, _, by omega, rfl, H00, Lib.hid (by simpa using OSl.nil (r := Rep.rd) _ _ _)⟩
  case round =>
    clear H00
    obtain ⟨k, vr, hk, rfl, hT, hO⟩ := hrel
    by_cases hlt : k < rd.length
    · skip
      obtain ⟨g, o, rcs, rfl, hrep, hcs, _⟩ := HX.out.cellN k hlt
      obtain ⟨hr1, hr2⟩ := hrep
      subst hr1
      have hu := hT.out.upd
      have c0 : wr.cell? ⟨g, o + k * 2, none⟩ = some (.string rd[k].key) := hu.cell (hcs 0 _ rfl) (fun h => h)
      have c1 : wr.cell? ⟨g, o + k * 2 + 1, none⟩ = some (.int .u64 rd[k].num) := hu.cell (hcs 1 _ rfl) (fun h => h)
      have hq := Lib.hid (show k < 10 → (rd.take 10).take (k + 1) = (rd.take 10).take k ++ [rd[k]] from fun h => by
        rw [List.take_succ_eq_append_getElem (by rw [List.length_take]; omega), List.getElem_take])
      have hq2 := Lib.hid (show ¬ k < 10 → (rd.take 10).take (k + 1) = (rd.take 10).take k from fun h => by
        rw [List.take_take, List.take_take, show min (k + 1) 10 = min k 10 by omega])
      have hall : (((rd.take 10).take k).length + 1) * 24 ≤ 140737488355328 := by rw [List.length_take, List.length_take]; omega
      generalize rd[k] = x at *
      obtain ⟨wa, hwa⟩ : ∃ wa, wr.alloc (.cells #[.string x.key, .int .u64 x.num] 137) = wa := ⟨_, rfl⟩
      have hua : Upd NoB wr wa := by rw [← hwa]; exact (Upd.refl _ _).alloc _
      have HTa := Lib.hid (hT.out.keep hua)
      have HO := Lib.hid (hO.out.new_keep hua (fun _ h => h.elim))
      have hBa : wa.heap[wr.heap.size]? = some (.cells #[.string x.key, .int .u64 x.num] 137 (0, 0)) := by rw [← hwa]; exact heap_alloc_new _ _
      have e0 : wa.cell? ⟨wr.heap.size, 0, none⟩ = some (.string x.key) := by simp [World.cell?, hBa]
      have e1 : wa.cell? ⟨wr.heap.size, 1, none⟩ = some (.int .u64 x.num) := by simp [World.cell?, hBa]
      have hy := Lib.hid (show Rep.rd.rep wa NoB x #[.string x.key, .int .u64 x.num].toList from ⟨rfl, hr2⟩)
      obtain ⟨y0, y1, y2, y3, y4⟩ := five_cells2 HTa.out.obj
      clear hBa hua hu hcs hr2
      by_cases h10 : k < 10
      · have hd10 : decide ((k : Int) < 10) = true := decide_eq_true (by omega)
        have hI10 : (k : Int) < 10 := by omega
        obtain ⟨Av, cv, _, e5, _⟩ := HO.out.read
        subst e5
        have HB := Lib.hid (New.bd w wa [w.heap.size, w.heap.size + 1, w.heap.size + 2])
        generalize hvl : Value.slice Av _ cv = vr at *
        clear hvl
        go_wp2_with (at_builtin; go_must (refine app_one (r := Rep.rd) (y := x) rfl _ _ 60 128 (.agg #[.string ⟨#[]⟩, .int .u64 0]) 24 rfl Try.underlying60 (iRd _ (by decide)) rfl (by decide) rfl rfl HO.out HB.out hy.out (fun b hb => hb.elim) hall ?_))
        intro v1 w2 ho2 hu2
        have HT2 := Lib.hid (HTa.out.grew (by simp) HO.out hu2)
        have HN := Lib.hid (ho2.new_app HTa.out.upd.size (fun z hz => by have := lt_of_heap HTa.out.obj; simp at hz; omega))
        clear ho2 hu2
        obtain ⟨z0, z1, z2, z3, z4⟩ := five_cells2 HT2.out.obj
        have zf := five_frozen HT2.out.obj
        obtain ⟨A1, c1', _, e6, _⟩ := HN.out.read
        have HT3 := Lib.hid (show TxA w (w2.setCell ⟨w.heap.size + 2, 3, none⟩ v1) _ #[.int .i64 tc, .int .u64 tq, .bool pl, v1, .slice none 0 0] _ _ from by simpa using HT2.out.put 3 v1)
        have HO3 := Lib.hid (OSl.put2 HN.out (by simp) 3 v1)
        generalize List.length _ = nn at e6
        subst e6
        go_wp2_with fail
        go_roundw
        case measure => simp [intOf]; omega
        case rel => exact ⟨k + 1, _, by omega, by go_num, HT3, Lib.hid (by rw [hq.out h10]; exact HO3.out)⟩
      · have hd10 : decide ((k : Int) < 10) = false := decide_eq_false (by omega)
        have hI10 : ¬ (k : Int) < 10 := by omega
        go_wp2_with fail
        go_roundw
        case measure => simp [intOf]; omega
        case rel => exact ⟨k + 1, vr, by omega, by go_num, HTa, Lib.hid (by rw [hq2.out h10]; exact HO.out)⟩
    · obtain rfl : k = rd.length := by omega
      have hfull := Lib.hid (show (rd.take 10).take rd.length = (rd.take 10) from List.take_of_length_le (by rw [List.length_take]; omega))
      obtain ⟨x0, x1, x2, x3, x4⟩ := five_cells2 hT.out.box
      have hge := Lib.hid (fun b (hb : vr.ownBlock = some b) => show w.heap.size ≤ b ∧ (∀ y : Nat, w.heap.size ≤ y → wr.heap.size ≤ y → b < y) ∧ b ≠ w.heap.size + 2 from by
        have h9 := hO.out.new_own b hb
        refine ⟨h9.1, fun y _ hy => by omega, fun e => h9.2.2 (by simp [e])⟩)
      have hge1 := Lib.hid (fun b (hb : vr.ownBlock = some b) => show b ≠ w.heap.size + 1 from fun e => (hO.out.new_own b hb).2.2 (by simp [e]))
      have HRz := Lib.hid (show OSl Rep.rd 128 wr (fun b => vr.ownBlock = some b) vr (rd.take 10) from by
        have h9 := hO.out
        rw [hfull.out] at h9
        exact OSl.self2 flat_rd h9)
      have HTz := Lib.hid hT.out
      have H0z := Lib.hid (show OSl Rep.wt 131 wr (New w wr ([w.heap.size, w.heap.size + 1, w.heap.size + 2] ++ vr.ownBlock.toList)) (.slice none 0 0) ((wt.take 10).take 0) from by simpa using OSl.nil (r := Rep.wt) _ _ _)
      have HUz := Lib.hid (show Upd NoB wr wr from Upd.refl _ _)
      clear hO hT hlt hk
      go_wp2_with fail
      generalize wr = wy at *
      go_loopw [37] (fun x34 wr => ∃ (k : Nat) (vw : Value), k ≤ wt.length ∧ x34 = .int .i64 k ∧ Hid (TxA w wr #[.int .i64 tc, .int .u64 tq, .bool pl, .slice A rd.length c, .slice B wt.length d] #[.int .i64 tc, .int .u64 tq, .bool pl, vr, vw] 70 63) ∧
        Hid (OSl Rep.wt 131 wr (New w wr ([w.heap.size, w.heap.size + 1, w.heap.size + 2] ++ vr.ownBlock.toList)) vw ((wt.take 10).take k)) ∧ Hid (OSl Rep.rd 128 wr (fun b => vr.ownBlock = some b) vr (rd.take 10)) ∧ Hid (wy.heap.size ≤ wr.heap.size)) (fun x34 _ => wt.length - (intOf x34).toNat)
      case atStart => exact ⟨0, _, by omega, rfl, HTz, H0z, HRz, Lib.hid (Nat.le_refl _)⟩
      case round =>
        clear HTz H0z HRz x0 x1 x2 x3 x4
        obtain ⟨k, vw, hk, rfl, hT, hO, hR, hS⟩ := hrel
        by_cases hlt : k < wt.length
        · skip
          obtain ⟨g, o, rcs, rfl, hrep, hcs, _⟩ := HY.out.cellN k hlt
          obtain ⟨hr1, hr2, hr3⟩ := hrep
          subst hr1
          have hu := hT.out.upd
          have c0 : wr.cell? ⟨g, o + k * 3, none⟩ = some (.string wt[k].key) := hu.cell (hcs 0 _ rfl) (fun h => h)
          have c1 : wr.cell? ⟨g, o + k * 3 + 1, none⟩ = some (.string wt[k].val) := hu.cell (hcs 1 _ rfl) (fun h => h)
          have c2 : wr.cell? ⟨g, o + k * 3 + 2, none⟩ = some (.bool wt[k].gone) := hu.cell (hcs 2 _ rfl) (fun h => h)
          have hq := Lib.hid (show k < 10 → (wt.take 10).take (k + 1) = (wt.take 10).take k ++ [wt[k]] from fun h => by
            rw [List.take_succ_eq_append_getElem (by rw [List.length_take]; omega), List.getElem_take])
          have hq2 := Lib.hid (show ¬ k < 10 → (wt.take 10).take (k + 1) = (wt.take 10).take k from fun h => by
            rw [List.take_take, List.take_take, show min (k + 1) 10 = min k 10 by omega])
          have hall : (((wt.take 10).take k).length + 1) * 40 ≤ 140737488355328 := by rw [List.length_take, List.length_take]; omega
          generalize wt[k] = x at *
          obtain ⟨wa, hwa⟩ : ∃ wa, wr.alloc (.cells #[.string x.key, .string x.val, .bool x.gone] 138) = wa := ⟨_, rfl⟩
          have hua : Upd NoB wr wa := by rw [← hwa]; exact (Upd.refl _ _).alloc _
          have HTa := Lib.hid (hT.out.keep hua)
          have HRa := Lib.hid (hR.out.upd hua (fun _ _ h => h))
          have HUa := Lib.hid (Nat.le_trans hS.out hua.size)
          have HO := Lib.hid (hO.out.new_keep hua (fun _ h => h.elim))
          have hBa : wa.heap[wr.heap.size]? = some (.cells #[.string x.key, .string x.val, .bool x.gone] 138 (0, 0)) := by rw [← hwa]; exact heap_alloc_new _ _
          have e0 : wa.cell? ⟨wr.heap.size, 0, none⟩ = some (.string x.key) := by simp [World.cell?, hBa]
          have e1 : wa.cell? ⟨wr.heap.size, 1, none⟩ = some (.string x.val) := by simp [World.cell?, hBa]
          have e2 : wa.cell? ⟨wr.heap.size, 2, none⟩ = some (.bool x.gone) := by simp [World.cell?, hBa]
          have hy := Lib.hid (show Rep.wt.rep wa NoB x #[.string x.key, .string x.val, .bool x.gone].toList from ⟨rfl, hr2, hr3⟩)
          obtain ⟨y0, y1, y2, y3, y4⟩ := five_cells2 HTa.out.obj
          clear hBa hua hu hcs hr2 hr3
          by_cases h10 : k < 10
          · have hd10 : decide ((k : Int) < 10) = true := decide_eq_true (by omega)
            have hI10 : (k : Int) < 10 := by omega
            obtain ⟨Av, cv, _, e5, _⟩ := HO.out.read
            subst e5
            have HB := Lib.hid (New.bd w wa ([w.heap.size, w.heap.size + 1, w.heap.size + 2] ++ vr.ownBlock.toList))
            generalize hvl : Value.slice Av _ cv = vw at *
            clear hvl
            go_wp2_with (at_builtin; go_must (refine app_one (r := Rep.wt) (y := x) rfl _ _ 61 131 (.agg #[.string ⟨#[]⟩, .string ⟨#[]⟩, .bool false]) 40 rfl Try.underlying61 (iWt _ (by decide)) rfl (by decide) rfl rfl HO.out HB.out hy.out (fun b hb => hb.elim) hall ?_))
            intro v1 w2 ho2 hu2
            have HT2 := Lib.hid (HTa.out.grew (by simp) HO.out hu2)
            have HU2 := Lib.hid hu2.size
            have HR2 := Lib.hid (HRa.out.upd hu2 (fun b hb f => (HO.out.new_own b f).2.2 (by simp [show vr.ownBlock = some b from hb])))
            have HN := Lib.hid (ho2.new_app HTa.out.upd.size (fun z hz => by
              have := lt_of_heap HTa.out.obj
              simp at hz
              rcases hz with hz | hz | hz | hz
              · omega
              · omega
              · omega
              · exact (hge.out z hz).2.1 _ HTa.out.upd.size HUa.out))
            clear ho2 hu2
            obtain ⟨z0, z1, z2, z3, z4⟩ := five_cells2 HT2.out.obj
            have zf := five_frozen HT2.out.obj
            obtain ⟨A1, c1', _, e6, _⟩ := HN.out.read
            have HT3 := Lib.hid (show TxA w (w2.setCell ⟨w.heap.size + 2, 4, none⟩ v1) _ #[.int .i64 tc, .int .u64 tq, .bool pl, vr, v1] _ _ from by simpa using HT2.out.put 4 v1)
            have HO3 := Lib.hid (OSl.put2 HN.out (by simp) 4 v1)
            have HS3 := Lib.hid (show wy.heap.size ≤ (w2.setCell ⟨w.heap.size + 2, 4, none⟩ v1).heap.size from Nat.le_trans HUa.out (Nat.le_trans HU2.out (by simp [World.setCell])))
            have HR3 := Lib.hid (HR2.out.upd ((Upd.refl (fun b => b = w.heap.size + 2) w2).setCell (p := ⟨w.heap.size + 2, 4, none⟩) (fun _ => rfl) v1) (fun b hb f => (hge.out b hb).2.2 f))
            generalize List.length _ = nn at e6
            subst e6
            go_wp2_with fail
            go_roundw
            case measure => simp [intOf]; omega
            case rel => exact ⟨k + 1, _, by omega, by go_num, HT3, Lib.hid (by rw [hq.out h10]; exact HO3.out), HR3, HS3⟩
          · have hd10 : decide ((k : Int) < 10) = false := decide_eq_false (by omega)
            have hI10 : ¬ (k : Int) < 10 := by omega
            go_wp2_with fail
            go_roundw
            case measure => simp [intOf]; omega
            case rel => exact ⟨k + 1, vw, by omega, by go_num, HTa, Lib.hid (by rw [hq2.out h10]; exact HO.out), HRa, HUa⟩
        · obtain rfl : k = wt.length := by omega
          have hfull2 := Lib.hid (show (wt.take 10).take wt.length = (wt.take 10) from List.take_of_length_le (by rw [List.length_take]; omega))
          obtain ⟨y0, y1, y2, y3, y4⟩ := five_cells2 hT.out.obj
          obtain ⟨z0, z1, z2, z3, z4⟩ := five_cells2 hT.out.res
          have zf := five_frozen hT.out.res
          have hg4 := Lib.hid (fun b (hb : vw.ownBlock = some b) => hO.out.new_own b hb)
          have HO9 := Lib.hid (show OSl Rep.wt 131 wr (fun b => vw.ownBlock = some b) vw (wt.take 10) from by
            have h9 := hO.out
            rw [hfull2.out] at h9
            exact OSl.self2 flat_wt h9)
          have F1 := Lib.hid (fun x (hx : Upd (fun b => b = w.heap.size + 1) wr x) => show RSl Rep.rd x (grow NoB w x) vr (rd.take 10) from
            ((hR.out.upd hx (fun b hb f => hge1.out b hb f)).mono (fun b hb => ⟨.inr (hge.out b hb).1, Nat.lt_of_lt_of_le ((hge.out b hb).2.1 _ hT.out.upd.size hS.out) hx.size⟩)).read)
          have F2 := Lib.hid (fun x (hx : Upd (fun b => b = w.heap.size + 1) wr x) => show RSl Rep.wt x (grow NoB w x) vw (wt.take 10) from
            ((HO9.out.upd hx (fun b hb f => (hg4.out b hb).2.2 (by simp [show b = w.heap.size + 1 from f]))).mono (fun b hb => ⟨.inr (hg4.out b hb).1, Nat.lt_of_lt_of_le (hg4.out b hb).2.1 hx.size⟩)).read)
          have F3 := Lib.hid (fun x (hx : Upd (fun b => b = w.heap.size + 1) wr x) => show Upd NoB w x from hT.out.upd.then hx (fun i hi e => by have e' : i = w.heap.size + 1 := e; omega))
          have hsg := Lib.hid (fun (x y : World) (hx : Upd (fun b => b = w.heap.size + 1) x y) (i : Nat) (u : Value) => hx.setCell (p := ⟨w.heap.size + 1, i, none⟩) (fun _ => rfl) u)
          have U5 := Lib.hid (fun a0 a1 a2 a3 a4 => hsg.out _ _ (hsg.out _ _ (hsg.out _ _ (hsg.out _ _ (hsg.out _ _ (Upd.refl _ wr) 0 a0) 1 a1) 2 a2) 3 a3) 4 a4)
          obtain ⟨A1, c1, _, e6, _⟩ := hR.out.read
          obtain ⟨A2, c2, _, e7, _⟩ := HO9.out.read
          clear hO hT hR HO9 hlt hk
          generalize (rd.take 10).length = n1 at *
          generalize (wt.take 10).length = n2 at *
          subst e6 e7
          go_wp2_with fail
          exact bodyPost_ret (v := .agg #[.int .i64 tc, .int .u64 tq, .bool pl, .slice A1 n1 c1, .slice A2 n2 c2]) (by simp [results, Try.results77, go_sem, *]) rfl ⟨_, _, rfl, F1.out _ (U5.out _ _ _ _ _), F2.out _ (U5.out _ _ _ _ _), F3.out _ (U5.out _ _ _ _ _)⟩
set_option maxHeartbeats 8000000 in
set_option maxRecDepth 100000 in
theorem plaintx_any {S : Nat → Prop} (tc tq : Int) (pl : Bool) (rd : List Rd) (wt : List Wt) (A B : Option Addr) (c d : Nat) (w : World) (h1 : RSlW Rep.rd w S (.slice A rd.length c) rd) (h2 : RSlW Rep.wt w S (.slice B wt.length d) wt) (hn1 : rd.length ≤ 100000) (hn2 : wt.length ≤ 100000) :
    Calls Try.prog 61 #[.agg #[.int .i64 tc, .int .u64 tq, .bool pl, .slice A rd.length c, .slice B wt.length d]] w fun e w' => ∃ va vb, e = .returned (.agg #[.int .i64 tc, .int .u64 tq, .bool pl, va, vb]) ∧
      RSl Rep.rd w' (grow NoB w w') va rd ∧ RSl Rep.wt w' (grow NoB w w') vb wt ∧ Upd NoB w w' := by
  have HX := Lib.hid h1
  have HY := Lib.hid h2
  obtain ⟨_, _, e1, d1, d2⟩ := h1.shape
  cases e1
  obtain ⟨_, _, e2, d3, d4⟩ := h2.shape
  cases e2
  have d2' : c ≤ 9223372036854775807 := d2
  have d4' : d ≤ 9223372036854775807 := d4
  have H00 := Lib.hid (TxA.start w #[.int .i64 tc, .int .u64 tq, .bool pl, .slice A rd.length c, .slice B wt.length d] #[.int .i64 tc, .int .u64 tq, .bool pl, .slice none 0 0, .slice none 0 0] 63 70)
  clear h1 h2
  go_enter Try.func61, Try.ntmps61
  go_wp2_with fail
  go_loopw [16] (fun x16 wr => ∃ (k : Nat) (vr : Value), k ≤ rd.length ∧ x16 = .int .i64 k ∧ Hid (TxA w wr #[.int .i64 tc, .int .u64 tq, .bool pl, .slice A rd.length c, .slice B wt.length d] #[.int .i64 tc, .int .u64 tq, .bool pl, vr, .slice none 0 0] 63 70) ∧
    Hid (OSl Rep.rd 137 wr (New w wr [w.heap.size, w.heap.size + 1, w.heap.size + 2]) vr (rd.take k))) (fun x16 _ => rd.length - (intOf x16).toNat)
  case atStart => exact ⟨0, _, by omega, rfl, H00, Lib.hid (by simpa using OSl.nil (r := Rep.rd) _ _ _)⟩
  case round =>
    clear H00
    obtain ⟨k, vr, hk, rfl, hT, hO⟩ := hrel
    by_cases hlt : k < rd.length
    · skip
      obtain ⟨g, o, rcs, rfl, hrep, hcs, _⟩ := HX.out.cellN k hlt
      obtain ⟨hr1, hr2⟩ := hrep
      subst hr1
      have hu := hT.out.upd
      have c0 : wr.cell? ⟨g, o + k * 2, none⟩ = some (.string rd[k].key) := hu.cell (hcs 0 _ rfl) (fun h => h)
      have c1 : wr.cell? ⟨g, o + k * 2 + 1, none⟩ = some (.int .u64 rd[k].num) := hu.cell (hcs 1 _ rfl) (fun h => h)
      have hq := Lib.hid (show k < rd.length → rd.take (k + 1) = rd.take k ++ [rd[k]] from fun h => List.take_succ_eq_append_getElem h)
      have hall : ((rd.take k).length + 1) * 24 ≤ 140737488355328 := by rw [List.length_take]; omega
      generalize rd[k] = x at *
      obtain ⟨wa, hwa⟩ : ∃ wa, wr.alloc (.cells #[.string x.key, .int .u64 x.num] 128) = wa := ⟨_, rfl⟩
      have hua : Upd NoB wr wa := by rw [← hwa]; exact (Upd.refl _ _).alloc _
      have HTa := Lib.hid (hT.out.keep hua)
      have HO := Lib.hid (hO.out.new_keep hua (fun _ h => h.elim))
      have hBa : wa.heap[wr.heap.size]? = some (.cells #[.string x.key, .int .u64 x.num] 128 (0, 0)) := by rw [← hwa]; exact heap_alloc_new _ _
      have e0 : wa.cell? ⟨wr.heap.size, 0, none⟩ = some (.string x.key) := by simp [World.cell?, hBa]
      have e1 : wa.cell? ⟨wr.heap.size, 1, none⟩ = some (.int .u64 x.num) := by simp [World.cell?, hBa]
      have hy := Lib.hid (show Rep.rd.rep wa NoB x #[.string x.key, .int .u64 x.num].toList from ⟨rfl, hr2⟩)
      obtain ⟨y0, y1, y2, y3, y4⟩ := five_cells2 HTa.out.obj
      clear hBa hua hu hcs hr2
      have hlt' := hlt
      obtain ⟨Av, cv, _, e5, _⟩ := HO.out.read
      subst e5
      have HB := Lib.hid (New.bd w wa [w.heap.size, w.heap.size + 1, w.heap.size + 2])
      generalize hvl : Value.slice Av _ cv = vr at *
      clear hvl
      go_wp2_with (at_builtin; go_must (refine app_one (r := Rep.rd) (y := x) rfl _ _ 67 137 (.agg #[.string ⟨#[]⟩, .int .u64 0]) 24 rfl Try.underlying67 (iRd _ (by decide)) rfl (by decide) rfl rfl HO.out HB.out hy.out (fun b hb => hb.elim) hall ?_))
      intro v1 w2 ho2 hu2
      have HT2 := Lib.hid (HTa.out.grew (by simp) HO.out hu2)
      have HN := Lib.hid (ho2.new_app HTa.out.upd.size (fun z hz => by have := lt_of_heap HTa.out.obj; simp at hz; omega))
      clear ho2 hu2
      obtain ⟨z0, z1, z2, z3, z4⟩ := five_cells2 HT2.out.obj
      have zf := five_frozen HT2.out.obj
      obtain ⟨A1, c1', _, e6, _⟩ := HN.out.read
      have HT3 := Lib.hid (show TxA w (w2.setCell ⟨w.heap.size + 2, 3, none⟩ v1) _ #[.int .i64 tc, .int .u64 tq, .bool pl, v1, .slice none 0 0] _ _ from by simpa using HT2.out.put 3 v1)
      have HO3 := Lib.hid (OSl.put2 HN.out (by simp) 3 v1)
      generalize List.length _ = nn at e6
      subst e6
      go_wp2_with fail
      go_roundw
      case measure => simp [intOf]; omega
      case rel => exact ⟨k + 1, _, by omega, by go_num, HT3, Lib.hid (by rw [hq.out hlt]; exact HO3.out)⟩
    · obtain rfl : k = rd.length := by omega
      have hfull := Lib.hid (show rd.take rd.length = rd from List.take_of_length_le (by omega))
      obtain ⟨x0, x1, x2, x3, x4⟩ := five_cells2 hT.out.box
      have hge := Lib.hid (fun b (hb : vr.ownBlock = some b) => show w.heap.size ≤ b ∧ (∀ y : Nat, w.heap.size ≤ y → wr.heap.size ≤ y → b < y) ∧ b ≠ w.heap.size + 2 from by
        have h9 := hO.out.new_own b hb
        refine ⟨h9.1, fun y _ hy => by omega, fun e => h9.2.2 (by simp [e])⟩)
      have hge1 := Lib.hid (fun b (hb : vr.ownBlock = some b) => show b ≠ w.heap.size + 1 from fun e => (hO.out.new_own b hb).2.2 (by simp [e]))
      have HRz := Lib.hid (show OSl Rep.rd 137 wr (fun b => vr.ownBlock = some b) vr rd from by
        have h9 := hO.out
        rw [hfull.out] at h9
        exact OSl.self2 flat_rd h9)
      have HTz := Lib.hid hT.out
      have H0z := Lib.hid (show OSl Rep.wt 138 wr (New w wr ([w.heap.size, w.heap.size + 1, w.heap.size + 2] ++ vr.ownBlock.toList)) (.slice none 0 0) (wt.take 0) from by simpa using OSl.nil (r := Rep.wt) _ _ _)
      have HUz := Lib.hid (show Upd NoB wr wr from Upd.refl _ _)
      clear hO hT hlt hk
      go_wp2_with fail
      generalize wr = wy at *
      go_loopw [34] (fun x34 wr => ∃ (k : Nat) (vw : Value), k ≤ wt.length ∧ x34 = .int .i64 k ∧ Hid (TxA w wr #[.int .i64 tc, .int .u64 tq, .bool pl, .slice A rd.length c, .slice B wt.length d] #[.int .i64 tc, .int .u64 tq, .bool pl, vr, vw] 63 70) ∧
        Hid (OSl Rep.wt 138 wr (New w wr ([w.heap.size, w.heap.size + 1, w.heap.size + 2] ++ vr.ownBlock.toList)) vw (wt.take k)) ∧ Hid (OSl Rep.rd 137 wr (fun b => vr.ownBlock = some b) vr rd) ∧ Hid (wy.heap.size ≤ wr.heap.size)) (fun x34 _ => wt.length - (intOf x34).toNat)
      case atStart => exact ⟨0, _, by omega, rfl, HTz, H0z, HRz, Lib.hid (Nat.le_refl _)⟩
      case round =>
        clear HTz H0z HRz x0 x1 x2 x3 x4
        obtain ⟨k, vw, hk, rfl, hT, hO, hR, hS⟩ := hrel
        by_cases hlt : k < wt.length
        · skip
          obtain ⟨g, o, rcs, rfl, hrep, hcs, _⟩ := HY.out.cellN k hlt
          obtain ⟨hr1, hr2, hr3⟩ := hrep
          subst hr1
          have hu := hT.out.upd
          have c0 : wr.cell? ⟨g, o + k * 3, none⟩ = some (.string wt[k].key) := hu.cell (hcs 0 _ rfl) (fun h => h)
          have c1 : wr.cell? ⟨g, o + k * 3 + 1, none⟩ = some (.string wt[k].val) := hu.cell (hcs 1 _ rfl) (fun h => h)
          have c2 : wr.cell? ⟨g, o + k * 3 + 2, none⟩ = some (.bool wt[k].gone) := hu.cell (hcs 2 _ rfl) (fun h => h)
          have hq := Lib.hid (show k < wt.length → wt.take (k + 1) = wt.take k ++ [wt[k]] from fun h => List.take_succ_eq_append_getElem h)
          have hall : ((wt.take k).length + 1) * 40 ≤ 140737488355328 := by rw [List.length_take]; omega
          generalize wt[k] = x at *
          obtain ⟨wa, hwa⟩ : ∃ wa, wr.alloc (.cells #[.string x.key, .string x.val, .bool x.gone] 131) = wa := ⟨_, rfl⟩
          have hua : Upd NoB wr wa := by rw [← hwa]; exact (Upd.refl _ _).alloc _
          have HTa := Lib.hid (hT.out.keep hua)
          have HRa := Lib.hid (hR.out.upd hua (fun _ _ h => h))
          have HUa := Lib.hid (Nat.le_trans hS.out hua.size)
          have HO := Lib.hid (hO.out.new_keep hua (fun _ h => h.elim))
          have hBa : wa.heap[wr.heap.size]? = some (.cells #[.string x.key, .string x.val, .bool x.gone] 131 (0, 0)) := by rw [← hwa]; exact heap_alloc_new _ _
          have e0 : wa.cell? ⟨wr.heap.size, 0, none⟩ = some (.string x.key) := by simp [World.cell?, hBa]
          have e1 : wa.cell? ⟨wr.heap.size, 1, none⟩ = some (.string x.val) := by simp [World.cell?, hBa]
          have e2 : wa.cell? ⟨wr.heap.size, 2, none⟩ = some (.bool x.gone) := by simp [World.cell?, hBa]
          have hy := Lib.hid (show Rep.wt.rep wa NoB x #[.string x.key, .string x.val, .bool x.gone].toList from ⟨rfl, hr2, hr3⟩)
          obtain ⟨y0, y1, y2, y3, y4⟩ := five_cells2 HTa.out.obj
          clear hBa hua hu hcs hr2 hr3
          have hlt' := hlt
          obtain ⟨Av, cv, _, e5, _⟩ := HO.out.read
          subst e5
          have HB := Lib.hid (New.bd w wa ([w.heap.size, w.heap.size + 1, w.heap.size + 2] ++ vr.ownBlock.toList))
          generalize hvl : Value.slice Av _ cv = vw at *
          clear hvl
          go_wp2_with (at_builtin; go_must (refine app_one (r := Rep.wt) (y := x) rfl _ _ 68 138 (.agg #[.string ⟨#[]⟩, .string ⟨#[]⟩, .bool false]) 40 rfl Try.underlying68 (iWt _ (by decide)) rfl (by decide) rfl rfl HO.out HB.out hy.out (fun b hb => hb.elim) hall ?_))
          intro v1 w2 ho2 hu2
          have HT2 := Lib.hid (HTa.out.grew (by simp) HO.out hu2)
          have HU2 := Lib.hid hu2.size
          have HR2 := Lib.hid (HRa.out.upd hu2 (fun b hb f => (HO.out.new_own b f).2.2 (by simp [show vr.ownBlock = some b from hb])))
          have HN := Lib.hid (ho2.new_app HTa.out.upd.size (fun z hz => by
            have := lt_of_heap HTa.out.obj
            simp at hz
            rcases hz with hz | hz | hz | hz
            · omega
            · omega
            · omega
            · exact (hge.out z hz).2.1 _ HTa.out.upd.size HUa.out))
          clear ho2 hu2
          obtain ⟨z0, z1, z2, z3, z4⟩ := five_cells2 HT2.out.obj
          have zf := five_frozen HT2.out.obj
          obtain ⟨A1, c1', _, e6, _⟩ := HN.out.read
          have HT3 := Lib.hid (show TxA w (w2.setCell ⟨w.heap.size + 2, 4, none⟩ v1) _ #[.int .i64 tc, .int .u64 tq, .bool pl, vr, v1] _ _ from by simpa using HT2.out.put 4 v1)
          have HO3 := Lib.hid (OSl.put2 HN.out (by simp) 4 v1)
          have HS3 := Lib.hid (show wy.heap.size ≤ (w2.setCell ⟨w.heap.size + 2, 4, none⟩ v1).heap.size from Nat.le_trans HUa.out (Nat.le_trans HU2.out (by simp [World.setCell])))
          have HR3 := Lib.hid (HR2.out.upd ((Upd.refl (fun b => b = w.heap.size + 2) w2).setCell (p := ⟨w.heap.size + 2, 4, none⟩) (fun _ => rfl) v1) (fun b hb f => (hge.out b hb).2.2 f))
          generalize List.length _ = nn at e6
          subst e6
          go_wp2_with fail
          go_roundw
          case measure => simp [intOf]; omega
          case rel => exact ⟨k + 1, _, by omega, by go_num, HT3, Lib.hid (by rw [hq.out hlt]; exact HO3.out), HR3, HS3⟩
        · obtain rfl : k = wt.length := by omega
          have hfull2 := Lib.hid (show wt.take wt.length = wt from List.take_of_length_le (by omega))
          obtain ⟨y0, y1, y2, y3, y4⟩ := five_cells2 hT.out.obj
          obtain ⟨z0, z1, z2, z3, z4⟩ := five_cells2 hT.out.res
          have zf := five_frozen hT.out.res
          have hg4 := Lib.hid (fun b (hb : vw.ownBlock = some b) => hO.out.new_own b hb)
          have HO9 := Lib.hid (show OSl Rep.wt 138 wr (fun b => vw.ownBlock = some b) vw wt from by
            have h9 := hO.out
            rw [hfull2.out] at h9
            exact OSl.self2 flat_wt h9)
          have F1 := Lib.hid (fun x (hx : Upd (fun b => b = w.heap.size + 1) wr x) => show RSl Rep.rd x (grow NoB w x) vr rd from
            ((hR.out.upd hx (fun b hb f => hge1.out b hb f)).mono (fun b hb => ⟨.inr (hge.out b hb).1, Nat.lt_of_lt_of_le ((hge.out b hb).2.1 _ hT.out.upd.size hS.out) hx.size⟩)).read)
          have F2 := Lib.hid (fun x (hx : Upd (fun b => b = w.heap.size + 1) wr x) => show RSl Rep.wt x (grow NoB w x) vw wt from
            ((HO9.out.upd hx (fun b hb f => (hg4.out b hb).2.2 (by simp [show b = w.heap.size + 1 from f]))).mono (fun b hb => ⟨.inr (hg4.out b hb).1, Nat.lt_of_lt_of_le (hg4.out b hb).2.1 hx.size⟩)).read)
          have F3 := Lib.hid (fun x (hx : Upd (fun b => b = w.heap.size + 1) wr x) => show Upd NoB w x from hT.out.upd.then hx (fun i hi e => by have e' : i = w.heap.size + 1 := e; omega))
          have hsg := Lib.hid (fun (x y : World) (hx : Upd (fun b => b = w.heap.size + 1) x y) (i : Nat) (u : Value) => hx.setCell (p := ⟨w.heap.size + 1, i, none⟩) (fun _ => rfl) u)
          have U5 := Lib.hid (fun a0 a1 a2 a3 a4 => hsg.out _ _ (hsg.out _ _ (hsg.out _ _ (hsg.out _ _ (hsg.out _ _ (Upd.refl _ wr) 0 a0) 1 a1) 2 a2) 3 a3) 4 a4)
          obtain ⟨A1, c1, _, e6, _⟩ := hR.out.read
          obtain ⟨A2, c2, _, e7, _⟩ := HO9.out.read
          clear hO hT hR HO9 hlt hk
          generalize rd.length = n1 at *
          generalize wt.length = n2 at *
          subst e6 e7
          go_wp2_with fail
          exact bodyPost_ret (v := .agg #[.int .i64 tc, .int .u64 tq, .bool pl, .slice A1 n1 c1, .slice A2 n2 c2]) (by simp [results, Try.results61, go_sem, *]) rfl ⟨_, _, rfl, F1.out _ (U5.out _ _ _ _ _), F2.out _ (U5.out _ _ _ _ _), F3.out _ (U5.out _ _ _ _ _)⟩
end Go.Proofs.Ytobfolkcpfaplaa
