/- Entries of a log, any: may a transaction be (the document's)? -/
import Derived.Test.YtobfolkcpfaplaaEnt9
namespace Go.Proofs.Ytobfolkcpfaplaa
open Go.RowKit Kit
set_option linter.unusedVariables false
theorem toList_beq (a b : ByteArray) : (a.toList == b.toList) = decide (a = b) := by
  by_cases e : a = b
  · subst e; simp
  · rw [decide_eq_false e]
    refine beq_eq_false_iff_ne.2 (fun h => e ?_)
    rw [ByteArray.toList_eq, ByteArray.toList_eq] at h
    exact str_data_inj h
theorem keys_get {α : Type} (f : α → ByteArray) (l : List α) (k : Nat) (hk : k < l.length) : (l.map f)[k]'(by rw [List.length_map]; exact hk) = f l[k] := by simp
theorem okK_map {α : Type} (f : α → ByteArray) (l : List α) (k : Nat) (hk : k < l.length) : okK (l.map f) k = (keyO (f l[k]) && !(((l.map f).take k).any fun y => decide (y = f l[k]))) := by
  rw [okK_at (show k < (l.map f).length by rw [List.length_map]; exact hk), keys_get]
theorem any_map_succ {α : Type} (f : α → ByteArray) (l : List α) (j : Nat) (hj : j < l.length) (s : ByteArray) : ((l.map f).take (j + 1)).any (fun y => decide (y = s)) = (((l.map f).take j).any (fun y => decide (y = s)) || decide (f l[j] = s)) := by
  rw [any_take_succ _ j (show j < (l.map f).length by rw [List.length_map]; exact hj) s, keys_get]
theorem any_map_hit {α : Type} (f : α → ByteArray) (l : List α) (j k : Nat) (hjk : j < k) (hk : k ≤ l.length) (s : ByteArray) (h : f (l[j]'(by omega)) = s) : ((l.map f).take k).any (fun y => decide (y = s)) = true := by
  rw [List.any_eq_true]
  refine ⟨s, ?_, by simp⟩
  rw [List.mem_take_iff_getElem]
  exact ⟨j, by rw [List.length_map]; omega, by rw [keys_get _ _ _ (by omega)]; exact h⟩
set_option maxHeartbeats 8000000 in
set_option maxRecDepth 100000 in
theorem reftxn_any {S : Nat → Prop} (tc tq : Int) (pl : Bool) (rd : List Rd) (wt : List Wt) (A B : Option Addr) (c d : Nat) (w : World) (h1 : RSl Rep.rd w S (.slice A rd.length c) rd) (h2 : RSl Rep.wt w S (.slice B wt.length d) wt) (hq : 0 ≤ tq) (hn : rd.length ≤ 100000) (hm : wt.length ≤ 100000) :
    Calls Try.prog 86 #[.agg #[.int .i64 tc, .int .u64 tq, .bool pl, .slice A rd.length c, .slice B wt.length d]] w fun e w' => e = .returned (.bool (txnB tc tq pl rd wt)) ∧ Upd NoB w w' := by
  obtain ⟨wa, hwa⟩ : ∃ wa, w.alloc (.cells #[.int .i64 tc, .int .u64 tq, .bool pl, .slice A rd.length c, .slice B wt.length d] 70) = wa := ⟨_, rfl⟩
  have hua : Upd NoB w wa := by rw [← hwa]; exact (Upd.refl _ _).alloc _
  have hB0 : wa.heap[w.heap.size]? = some (.cells #[.int .i64 tc, .int .u64 tq, .bool pl, .slice A rd.length c, .slice B wt.length d] 70 (0, 0)) := by rw [← hwa]; exact heap_alloc_new _ _
  have HUa := Lib.hid hua
  have hb := Lib.hid (fun x (hx : Upd NoB wa x) => five_cells2 (hx.heap hB0 (fun h => h)))
  have hid := Lib.hid (fun z => refrid_any tc tq z hq)
  have HX := Lib.hid (h1.upd hua (fun _ _ h => h))
  have HY := Lib.hid (h2.upd hua (fun _ _ h => h))
  have HU0 := Lib.hid (Upd.refl NoB wa)
  obtain ⟨_, _, _, e1, g1, g2, _⟩ := h1
  cases e1
  obtain ⟨_, _, _, e2, g3, g4, _⟩ := h2
  cases e2
  have g2' : c ≤ 9223372036854775807 := g2
  have g4' : d ≤ 9223372036854775807 := g4
  clear hua hB0 hq
  by_cases hall : idB tc tq = true ∧ rd.length ≤ 8 ∧ wt.length ≤ 8 ∧ ¬ rd.length + wt.length = 0 ∧ (pl = true → rd.length = 0 ∧ wt.length = 1)
  · obtain ⟨hI, k1, k2, k3, k4⟩ := hall
    have hpass := Lib.hid (show txnB tc tq pl rd wt = (allB (okK (rd.map fun x => x.key)) rd.length && (allB (okK (wt.map fun x => x.key)) wt.length && allB (okV wt) wt.length)) from by
      unfold txnB
      rw [hI, decide_eq_true k1, decide_eq_true k2, decide_eq_false k3]
      cases pl
      · rfl
      · rw [decide_eq_true (k4 rfl).1, decide_eq_true (k4 rfl).2]; rfl)
    rw [hI] at hid
    have d8 : decide ((8 : Int) < (rd.length : Int)) = false := decide_eq_false (by omega)
    have d9 : decide ((8 : Int) < (wt.length : Int)) = false := decide_eq_false (by omega)
    have d0 : ((rd.length : Int) + (wt.length : Int) == 0) = false := beq_eq_false_iff_ne.2 (by omega)
    have hws : IntKind.i64.wrap ((rd.length : Int) + wt.length) = (rd.length : Int) + wt.length := by simp only [IntKind.wrap_i64]; omega
    cases pl
    · clear hI k1 k2 k3 k4
      skip
      obtain ⟨y0, y1, y2, y3, y4⟩ := hb.out _ HU0.out
      go_enter Try.func86, Try.ntmps86
      go_wp2_with fail
      refine (hid.out _).mono ?_
      rintro e w1 ⟨rfl, hu⟩
      have HU1 := Lib.hid (HU0.out.trans hu)
      clear hu y0 y1 y2 y3 y4
      obtain ⟨y0, y1, y2, y3, y4⟩ := hb.out _ HU1.out
      go_wp2_with fail
      go_wp2_with fail
      go_loopw [54] (fun x54 wr => ∃ k : Nat, k ≤ rd.length ∧ x54 = .int .i64 k ∧ Hid (allB (okK (rd.map fun x => x.key)) k = true) ∧ Hid (Upd NoB wa wr)) (fun x54 _ => rd.length - (intOf x54).toNat)
      case atStart => exact ⟨0, by omega, rfl, Lib.hid rfl, HU1⟩
      case round =>
        clear HU1 y0 y1 y2 y3 y4
        obtain ⟨k, hk, rfl, hA, hU⟩ := hrel
        by_cases hlt : k < rd.length
        · obtain ⟨g, o, rcs, rfl, hrep, hcs, _⟩ := HX.out.cellN k hlt
          obtain ⟨hr1, hr2⟩ := hrep
          subst hr1
          have c0 : wr.cell? ⟨g, o + k * 2, none⟩ = some (.string rd[k].key) := hU.out.cell (hcs 0 _ rfl) (fun h => h)
          have c1 : wr.cell? ⟨g, o + k * 2 + 1, none⟩ = some (.int .u64 rd[k].num) := hU.out.cell (hcs 1 _ rfl) (fun h => h)
          have hok := Lib.hid (okK_map (fun x => x.key) rd k hlt)
          have hkr := Lib.hid (fun z => refkeyo_any rd[k].key z hr2)
          generalize rd[k] = x at *
          obtain ⟨ky, kn⟩ := x
          simp only at c0 c1
          dsimp only at hok hkr
          obtain ⟨wb, hwb⟩ : ∃ wb, wr.alloc (.cells #[.string ky, .int .u64 kn] 137) = wb := ⟨_, rfl⟩
          have hub : Upd NoB wr wb := by rw [← hwb]; exact (Upd.refl _ _).alloc _
          have hBb := Lib.hid (show wb.heap[wr.heap.size]? = some (.cells #[.string ky, .int .u64 kn] 137 (0, 0)) by rw [← hwb]; exact heap_alloc_new _ _)
          have HUb := Lib.hid (hU.out.trans hub)
          obtain ⟨y0, y1, y2, y3, y4⟩ := hb.out _ HUb.out
          have hkc : k ≤ c := by omega
          clear hub hcs hr2
          go_wp2_with fail
          generalize wr.heap.size = pb at *
          clear hwb c0 c1 y0 y1 y2 y3 y4
          go_loopw [64] (fun x64 wv => ∃ j : Nat, j ≤ k ∧ x64 = .int .i64 j ∧ Hid (((rd.map fun x => x.key).take j).any (fun y => decide (y = ky)) = false) ∧ Hid (Upd NoB wb wv)) (fun x64 _ => k - (intOf x64).toNat)
          case atStart => exact ⟨0, by omega, rfl, Lib.hid (by simp), Lib.hid (Upd.refl _ _)⟩
          case round =>
            obtain ⟨j, hj, rfl, hD, hV⟩ := hrel
            by_cases hjk : j < k
            · have djk : decide (j < k) = true := decide_eq_true hjk
              obtain ⟨gj, oj, rcsj, ej, hrepj, hcsj, _⟩ := HX.out.cellN j (by omega)
              cases ej
              have hr1j := hrepj.1
              subst hr1j
              have huv := (HUb.out.trans hV.out)
              have c0 : wr.cell? ⟨g, o + j * 2, none⟩ = some (.string rd[j].key) := huv.cell (hcsj 0 _ rfl) (fun h => h); have c1 : wr.cell? ⟨g, o + j * 2 + 1, none⟩ = some (.int .u64 rd[j].num) := huv.cell (hcsj 1 _ rfl) (fun h => h)
              have hany := any_map_succ (fun x => x.key) rd j (by omega) ky
              have hhit := Lib.hid (fun (h : rd[j].key = ky) => allB_no (n := rd.length) (show okK (rd.map fun x => x.key) k = false by rw [hok.out, any_map_hit (fun x => x.key) rd j k hjk (by omega) ky h]; simp) hlt)
              rw [hD.out, Bool.false_or] at hany
              have hb9 := hV.out.heap hBb.out (fun h => h)
              have hanyj := Lib.hid hany
              generalize rd[j] = z at *
              obtain ⟨zk, zn⟩ := z
              simp only at c0 c1
              dsimp only at hhit hanyj
              obtain ⟨wc, hwc⟩ : ∃ wc, wr.alloc (.cells #[.string zk, .int .u64 zn] 137) = wc := ⟨_, rfl⟩
              have huc : Upd NoB wr wc := by rw [← hwc]; exact (Upd.refl _ _).alloc _
              have hBc : wc.heap[wr.heap.size]? = some (.cells #[.string zk, .int .u64 zn] 137 (0, 0)) := by rw [← hwc]; exact heap_alloc_new _ _
              have z0 : wc.cell? ⟨wr.heap.size, 0, none⟩ = some (.string zk) := by simp [World.cell?, hBc]
              have hb10 := huc.heap hb9 (fun h => h)
              have z1 : wc.cell? ⟨pb, 0, none⟩ = some (.string ky) := by simp [World.cell?, hb10]
              have HVc := Lib.hid (hV.out.trans huc)
              have HUc := Lib.hid (HUb.out.trans HVc.out)
              clear huc hBc hb9 hb10 huv hrepj hcsj hany
              by_cases heq : zk = ky
              · have heqb : (zk.toList == ky.toList) = true := by rw [toList_beq]; exact decide_eq_true heq
                have hf := Lib.hid (hhit.out heq)
                clear heq hhit
                go_wp2_with fail
                go_ret
                exact ⟨by rw [hpass.out, hf.out, Bool.false_and]; rfl, HUa.out.trans HUc.out⟩
              · have heqb : (zk.toList == ky.toList) = false := by rw [toList_beq]; exact decide_eq_false heq
                have hD2 := Lib.hid (show ((rd.map fun x => x.key).take (j + 1)).any (fun y => decide (y = ky)) = false by rw [hanyj.out]; exact decide_eq_false heq)
                clear heq hhit
                go_wp2_with fail
                go_roundw
                case measure => simp [intOf]; omega
                case rel => exact ⟨j + 1, by omega, by go_num, hD2, HVc⟩
            · obtain rfl : j = k := by omega
              have djk : decide (j < j) = false := by simp
              have hb9 := hV.out.heap hBb.out (fun h => h)
              have q0 : wr.cell? ⟨pb, 0, none⟩ = some (.string ky) := by simp [World.cell?, hb9]
              have HUv := Lib.hid (HUb.out.trans hV.out)
              clear hb9
              rw [hD.out] at hok
              cases hkb : keyO ky
              · rw [hkb] at hok hkr
                have hf := Lib.hid (allB_no (n := rd.length) hok.out hlt)
                clear hkb
                go_wp2_with fail
                refine (hkr.out _).mono ?_
                rintro e w9 ⟨rfl, rfl⟩
                go_wp2_with fail
                go_ret
                exact ⟨by rw [hpass.out, hf.out, Bool.false_and]; rfl, HUa.out.trans HUv.out⟩
              · rw [hkb] at hok hkr
                have hA2 := Lib.hid (allB_succ hA.out hok.out)
                clear hkb
                go_wp2_with fail
                refine (hkr.out _).mono ?_
                rintro e w9 ⟨rfl, rfl⟩
                go_wp2_with fail
                go_roundw
                case measure => simp [intOf]; omega
                case rel =>
                  first
                  | exact ⟨j + 1, by omega, by go_num, hA2, HUv⟩
                  | ((repeat apply Exists.intro)
                     refine ⟨⟨j + 1, by omega, ?_, hA2, HUv⟩, rfl⟩
                     go_num)
        · obtain rfl : k = rd.length := by omega
          skip
          have hA0 := Lib.hid hA.out
          obtain ⟨y0, y1, y2, y3, y4⟩ := hb.out _ hU.out
          clear hA hlt hk
          go_wp2_with fail
          go_loopw [82] (fun x82 wr => ∃ k : Nat, k ≤ wt.length ∧ x82 = .int .i64 k ∧ Hid (allB (okK (wt.map fun x => x.key)) k = true) ∧ Hid (allB (okV wt) k = true) ∧ Hid (Upd NoB wa wr)) (fun x82 _ => wt.length - (intOf x82).toNat)
          case atStart => exact ⟨0, by omega, rfl, Lib.hid rfl, Lib.hid rfl, hU⟩
          case round =>
            clear hU y0 y1 y2 y3 y4
            obtain ⟨k, hk, rfl, hA, hAv, hU⟩ := hrel
            by_cases hlt : k < wt.length
            · obtain ⟨g, o, rcs, rfl, hrep, hcs, _⟩ := HY.out.cellN k hlt
              obtain ⟨hr1, hr2, hr3⟩ := hrep
              subst hr1
              have c0 : wr.cell? ⟨g, o + k * 3, none⟩ = some (.string wt[k].key) := hU.out.cell (hcs 0 _ rfl) (fun h => h)
              have c1 : wr.cell? ⟨g, o + k * 3 + 1, none⟩ = some (.string wt[k].val) := hU.out.cell (hcs 1 _ rfl) (fun h => h)
              have c2 : wr.cell? ⟨g, o + k * 3 + 2, none⟩ = some (.bool wt[k].gone) := hU.out.cell (hcs 2 _ rfl) (fun h => h)
              have hok := Lib.hid (okK_map (fun x => x.key) wt k hlt)
              have hokv := Lib.hid (okV_at hlt)
              have hkr := Lib.hid (fun z => refkeyo_any wt[k].key z hr2)
              have hvr := Lib.hid (fun z => refrightval_any wt[k].val z hr3)
              generalize wt[k] = x at *
              obtain ⟨ky, vl, gn⟩ := x
              simp only at c0 c1 c2
              dsimp only at hok hkr hokv hvr
              obtain ⟨wb, hwb⟩ : ∃ wb, wr.alloc (.cells #[.string ky, .string vl, .bool gn] 138) = wb := ⟨_, rfl⟩
              have hub : Upd NoB wr wb := by rw [← hwb]; exact (Upd.refl _ _).alloc _
              have hBb := Lib.hid (show wb.heap[wr.heap.size]? = some (.cells #[.string ky, .string vl, .bool gn] 138 (0, 0)) by rw [← hwb]; exact heap_alloc_new _ _)
              have HUb := Lib.hid (hU.out.trans hub)
              obtain ⟨y0, y1, y2, y3, y4⟩ := hb.out _ HUb.out
              have hkc : k ≤ d := by omega
              clear hub hcs hr2 hr3
              go_wp2_with fail
              generalize wr.heap.size = pb at *
              clear hwb c0 c1 c2 y0 y1 y2 y3 y4
              go_loopw [92] (fun x64 wv => ∃ j : Nat, j ≤ k ∧ x64 = .int .i64 j ∧ Hid (((wt.map fun x => x.key).take j).any (fun y => decide (y = ky)) = false) ∧ Hid (Upd NoB wb wv)) (fun x64 _ => k - (intOf x64).toNat)
              case atStart => exact ⟨0, by omega, rfl, Lib.hid (by simp), Lib.hid (Upd.refl _ _)⟩
              case round =>
                obtain ⟨j, hj, rfl, hD, hV⟩ := hrel
                by_cases hjk : j < k
                · have djk : decide (j < k) = true := decide_eq_true hjk
                  obtain ⟨gj, oj, rcsj, ej, hrepj, hcsj, _⟩ := HY.out.cellN j (by omega)
                  cases ej
                  have hr1j := hrepj.1
                  subst hr1j
                  have huv := (HUb.out.trans hV.out)
                  have c0 : wr.cell? ⟨g, o + j * 3, none⟩ = some (.string wt[j].key) := huv.cell (hcsj 0 _ rfl) (fun h => h); have c1 : wr.cell? ⟨g, o + j * 3 + 1, none⟩ = some (.string wt[j].val) := huv.cell (hcsj 1 _ rfl) (fun h => h); have c2 : wr.cell? ⟨g, o + j * 3 + 2, none⟩ = some (.bool wt[j].gone) := huv.cell (hcsj 2 _ rfl) (fun h => h)
                  have hany := any_map_succ (fun x => x.key) wt j (by omega) ky
                  have hhit := Lib.hid (fun (h : wt[j].key = ky) => allB_no (n := wt.length) (show okK (wt.map fun x => x.key) k = false by rw [hok.out, any_map_hit (fun x => x.key) wt j k hjk (by omega) ky h]; simp) hlt)
                  rw [hD.out, Bool.false_or] at hany
                  have hb9 := hV.out.heap hBb.out (fun h => h)
                  have hanyj := Lib.hid hany
                  generalize wt[j] = z at *
                  obtain ⟨zk, zv, zg⟩ := z
                  simp only at c0 c1 c2
                  dsimp only at hhit hanyj
                  obtain ⟨wc, hwc⟩ : ∃ wc, wr.alloc (.cells #[.string zk, .string zv, .bool zg] 138) = wc := ⟨_, rfl⟩
                  have huc : Upd NoB wr wc := by rw [← hwc]; exact (Upd.refl _ _).alloc _
                  have hBc : wc.heap[wr.heap.size]? = some (.cells #[.string zk, .string zv, .bool zg] 138 (0, 0)) := by rw [← hwc]; exact heap_alloc_new _ _
                  have z0 : wc.cell? ⟨wr.heap.size, 0, none⟩ = some (.string zk) := by simp [World.cell?, hBc]
                  have hb10 := huc.heap hb9 (fun h => h)
                  have z1 : wc.cell? ⟨pb, 0, none⟩ = some (.string ky) := by simp [World.cell?, hb10]
                  have HVc := Lib.hid (hV.out.trans huc)
                  have HUc := Lib.hid (HUb.out.trans HVc.out)
                  clear huc hBc hb9 hb10 huv hrepj hcsj hany
                  by_cases heq : zk = ky
                  · have heqb : (zk.toList == ky.toList) = true := by rw [toList_beq]; exact decide_eq_true heq
                    have hf := Lib.hid (hhit.out heq)
                    clear heq hhit
                    go_wp2_with fail
                    go_ret
                    exact ⟨by rw [hpass.out, hA0.out, hf.out]; rfl, HUa.out.trans HUc.out⟩
                  · have heqb : (zk.toList == ky.toList) = false := by rw [toList_beq]; exact decide_eq_false heq
                    have hD2 := Lib.hid (show ((wt.map fun x => x.key).take (j + 1)).any (fun y => decide (y = ky)) = false by rw [hanyj.out]; exact decide_eq_false heq)
                    clear heq hhit
                    go_wp2_with fail
                    go_roundw
                    case measure => simp [intOf]; omega
                    case rel => exact ⟨j + 1, by omega, by go_num, hD2, HVc⟩
                · obtain rfl : j = k := by omega
                  have djk : decide (j < j) = false := by simp
                  have hb9 := hV.out.heap hBb.out (fun h => h)
                  have q0 : wr.cell? ⟨pb, 0, none⟩ = some (.string ky) := by simp [World.cell?, hb9]
                  have q1 : wr.cell? ⟨pb, 1, none⟩ = some (.string vl) := by simp [World.cell?, hb9]
                  have q2 : wr.cell? ⟨pb, 2, none⟩ = some (.bool gn) := by simp [World.cell?, hb9]
                  have HUv := Lib.hid (HUb.out.trans hV.out)
                  obtain ⟨n1, n2⟩ := str_nil vl
                  clear hb9
                  rw [hD.out] at hok
                  cases hkb : keyO ky
                  · rw [hkb] at hok hkr
                    have hf := Lib.hid (allB_no (n := wt.length) hok.out hlt)
                    clear hkb n1 n2
                    go_wp2_with fail
                    refine (hkr.out _).mono ?_
                    rintro e w9 ⟨rfl, rfl⟩
                    go_wp2_with fail
                    go_ret
                    exact ⟨by rw [hpass.out, hA0.out, hf.out]; rfl, HUa.out.trans HUv.out⟩
                  · rw [hkb] at hok hkr
                    have hA2 := Lib.hid (allB_succ hA.out hok.out)
                    clear hkb
                    cases hz : valO vl
                    · rw [hz] at hokv hvr
                      have hf := Lib.hid (allB_no (n := wt.length) (show okV wt j = false by rw [hokv.out]; rfl) hlt)
                      clear hz n1 n2
                      go_wp2_with fail
                      refine (hkr.out _).mono ?_
                      rintro e w9 ⟨rfl, rfl⟩
                      go_wp2_with fail
                      refine (hvr.out _).mono ?_
                      rintro e w9 ⟨rfl, rfl⟩
                      go_wp2_with fail
                      go_ret
                      exact ⟨by rw [hpass.out, hA0.out, hf.out, Bool.and_false]; rfl, HUa.out.trans HUv.out⟩
                    · rw [hz] at hokv hvr
                      clear hz
                      cases gn
                      · have hV2 := Lib.hid (allB_succ hAv.out (show okV wt j = true by rw [hokv.out]; rfl))
                        clear n1 n2
                        go_wp2_with fail
                        refine (hkr.out _).mono ?_
                        rintro e w9 ⟨rfl, rfl⟩
                        go_wp2_with fail
                        refine (hvr.out _).mono ?_
                        rintro e w9 ⟨rfl, rfl⟩
                        go_wp2_with fail
                        go_roundw
                        case measure => simp [intOf]; omega
                        case rel =>
                          first
                          | exact ⟨j + 1, by omega, by go_num, hA2, hV2, HUv⟩
                          | ((repeat apply Exists.intro)
                             refine ⟨⟨j + 1, by omega, ?_, hA2, hV2, HUv⟩, rfl⟩
                             go_num)
                      · by_cases hgone : vl.size = 0
                        · have hgd : decide (vl.size = 0) = true := decide_eq_true hgone
                          rw [hgd] at n1 n2
                          have hV2 := Lib.hid (allB_succ hAv.out (show okV wt j = true by rw [hokv.out, hgd]; rfl))
                          go_wp2_with fail
                          refine (hkr.out _).mono ?_
                          rintro e w9 ⟨rfl, rfl⟩
                          go_wp2_with fail
                          refine (hvr.out _).mono ?_
                          rintro e w9 ⟨rfl, rfl⟩
                          go_wp2_with fail
                          go_roundw
                          case measure => simp [intOf]; omega
                          case rel =>
                            first
                            | exact ⟨j + 1, by omega, by go_num, hA2, hV2, HUv⟩
                            | ((repeat apply Exists.intro)
                               refine ⟨⟨j + 1, by omega, ?_, hA2, hV2, HUv⟩, rfl⟩
                               go_num)
                        · have hgd : decide (vl.size = 0) = false := decide_eq_false hgone
                          rw [hgd] at n1 n2
                          have hf := Lib.hid (allB_no (n := wt.length) (show okV wt j = false by rw [hokv.out, hgd]; rfl) hlt)
                          go_wp2_with fail
                          refine (hkr.out _).mono ?_
                          rintro e w9 ⟨rfl, rfl⟩
                          go_wp2_with fail
                          refine (hvr.out _).mono ?_
                          rintro e w9 ⟨rfl, rfl⟩
                          go_wp2_with fail
                          go_ret
                          exact ⟨by rw [hpass.out, hA0.out, hf.out, Bool.and_false]; rfl, HUa.out.trans HUv.out⟩
            · obtain rfl : k = wt.length := by omega
              go_wp2_with fail
              go_ret
              exact ⟨by rw [hpass.out, hA0.out, hA.out, hAv.out]; rfl, HUa.out.trans hU.out⟩
    · obtain ⟨k5, k6⟩ := k4 rfl
      have dr : decide ((0 : Int) < (rd.length : Int)) = false := decide_eq_false (by omega); have drn : decide (0 < rd.length) = false := decide_eq_false (by omega)
      have dw : ((wt.length : Int) == 1) = true := beq_iff_eq.2 (by omega)
      have dw2 : ((wt.length : Int) != 1) = false := by rw [bne, dw]; rfl
      clear hI k1 k2 k3 k5 k6 k4
      skip
      obtain ⟨y0, y1, y2, y3, y4⟩ := hb.out _ HU0.out
      go_enter Try.func86, Try.ntmps86
      go_wp2_with fail
      refine (hid.out _).mono ?_
      rintro e w1 ⟨rfl, hu⟩
      have HU1 := Lib.hid (HU0.out.trans hu)
      clear hu y0 y1 y2 y3 y4
      obtain ⟨y0, y1, y2, y3, y4⟩ := hb.out _ HU1.out
      go_wp2_with fail
      go_wp2_with fail
      go_loopw [54] (fun x54 wr => ∃ k : Nat, k ≤ rd.length ∧ x54 = .int .i64 k ∧ Hid (allB (okK (rd.map fun x => x.key)) k = true) ∧ Hid (Upd NoB wa wr)) (fun x54 _ => rd.length - (intOf x54).toNat)
      case atStart => exact ⟨0, by omega, rfl, Lib.hid rfl, HU1⟩
      case round =>
        clear HU1 y0 y1 y2 y3 y4
        obtain ⟨k, hk, rfl, hA, hU⟩ := hrel
        by_cases hlt : k < rd.length
        · obtain ⟨g, o, rcs, rfl, hrep, hcs, _⟩ := HX.out.cellN k hlt
          obtain ⟨hr1, hr2⟩ := hrep
          subst hr1
          have c0 : wr.cell? ⟨g, o + k * 2, none⟩ = some (.string rd[k].key) := hU.out.cell (hcs 0 _ rfl) (fun h => h)
          have c1 : wr.cell? ⟨g, o + k * 2 + 1, none⟩ = some (.int .u64 rd[k].num) := hU.out.cell (hcs 1 _ rfl) (fun h => h)
          have hok := Lib.hid (okK_map (fun x => x.key) rd k hlt)
          have hkr := Lib.hid (fun z => refkeyo_any rd[k].key z hr2)
          generalize rd[k] = x at *
          obtain ⟨ky, kn⟩ := x
          simp only at c0 c1
          dsimp only at hok hkr
          obtain ⟨wb, hwb⟩ : ∃ wb, wr.alloc (.cells #[.string ky, .int .u64 kn] 137) = wb := ⟨_, rfl⟩
          have hub : Upd NoB wr wb := by rw [← hwb]; exact (Upd.refl _ _).alloc _
          have hBb := Lib.hid (show wb.heap[wr.heap.size]? = some (.cells #[.string ky, .int .u64 kn] 137 (0, 0)) by rw [← hwb]; exact heap_alloc_new _ _)
          have HUb := Lib.hid (hU.out.trans hub)
          obtain ⟨y0, y1, y2, y3, y4⟩ := hb.out _ HUb.out
          have hkc : k ≤ c := by omega
          clear hub hcs hr2
          go_wp2_with fail
          generalize wr.heap.size = pb at *
          clear hwb c0 c1 y0 y1 y2 y3 y4
          go_loopw [64] (fun x64 wv => ∃ j : Nat, j ≤ k ∧ x64 = .int .i64 j ∧ Hid (((rd.map fun x => x.key).take j).any (fun y => decide (y = ky)) = false) ∧ Hid (Upd NoB wb wv)) (fun x64 _ => k - (intOf x64).toNat)
          case atStart => exact ⟨0, by omega, rfl, Lib.hid (by simp), Lib.hid (Upd.refl _ _)⟩
          case round =>
            obtain ⟨j, hj, rfl, hD, hV⟩ := hrel
            by_cases hjk : j < k
            · have djk : decide (j < k) = true := decide_eq_true hjk
              obtain ⟨gj, oj, rcsj, ej, hrepj, hcsj, _⟩ := HX.out.cellN j (by omega)
              cases ej
              have hr1j := hrepj.1
              subst hr1j
              have huv := (HUb.out.trans hV.out)
              have c0 : wr.cell? ⟨g, o + j * 2, none⟩ = some (.string rd[j].key) := huv.cell (hcsj 0 _ rfl) (fun h => h); have c1 : wr.cell? ⟨g, o + j * 2 + 1, none⟩ = some (.int .u64 rd[j].num) := huv.cell (hcsj 1 _ rfl) (fun h => h)
              have hany := any_map_succ (fun x => x.key) rd j (by omega) ky
              have hhit := Lib.hid (fun (h : rd[j].key = ky) => allB_no (n := rd.length) (show okK (rd.map fun x => x.key) k = false by rw [hok.out, any_map_hit (fun x => x.key) rd j k hjk (by omega) ky h]; simp) hlt)
              rw [hD.out, Bool.false_or] at hany
              have hb9 := hV.out.heap hBb.out (fun h => h)
              have hanyj := Lib.hid hany
              generalize rd[j] = z at *
              obtain ⟨zk, zn⟩ := z
              simp only at c0 c1
              dsimp only at hhit hanyj
              obtain ⟨wc, hwc⟩ : ∃ wc, wr.alloc (.cells #[.string zk, .int .u64 zn] 137) = wc := ⟨_, rfl⟩
              have huc : Upd NoB wr wc := by rw [← hwc]; exact (Upd.refl _ _).alloc _
              have hBc : wc.heap[wr.heap.size]? = some (.cells #[.string zk, .int .u64 zn] 137 (0, 0)) := by rw [← hwc]; exact heap_alloc_new _ _
              have z0 : wc.cell? ⟨wr.heap.size, 0, none⟩ = some (.string zk) := by simp [World.cell?, hBc]
              have hb10 := huc.heap hb9 (fun h => h)
              have z1 : wc.cell? ⟨pb, 0, none⟩ = some (.string ky) := by simp [World.cell?, hb10]
              have HVc := Lib.hid (hV.out.trans huc)
              have HUc := Lib.hid (HUb.out.trans HVc.out)
              clear huc hBc hb9 hb10 huv hrepj hcsj hany
              by_cases heq : zk = ky
              · have heqb : (zk.toList == ky.toList) = true := by rw [toList_beq]; exact decide_eq_true heq
                have hf := Lib.hid (hhit.out heq)
                clear heq hhit
                go_wp2_with fail
                go_ret
                exact ⟨by rw [hpass.out, hf.out, Bool.false_and]; rfl, HUa.out.trans HUc.out⟩
              · have heqb : (zk.toList == ky.toList) = false := by rw [toList_beq]; exact decide_eq_false heq
                have hD2 := Lib.hid (show ((rd.map fun x => x.key).take (j + 1)).any (fun y => decide (y = ky)) = false by rw [hanyj.out]; exact decide_eq_false heq)
                clear heq hhit
                go_wp2_with fail
                go_roundw
                case measure => simp [intOf]; omega
                case rel => exact ⟨j + 1, by omega, by go_num, hD2, HVc⟩
            · obtain rfl : j = k := by omega
              have djk : decide (j < j) = false := by simp
              have hb9 := hV.out.heap hBb.out (fun h => h)
              have q0 : wr.cell? ⟨pb, 0, none⟩ = some (.string ky) := by simp [World.cell?, hb9]
              have HUv := Lib.hid (HUb.out.trans hV.out)
              clear hb9
              rw [hD.out] at hok
              cases hkb : keyO ky
              · rw [hkb] at hok hkr
                have hf := Lib.hid (allB_no (n := rd.length) hok.out hlt)
                clear hkb
                go_wp2_with fail
                refine (hkr.out _).mono ?_
                rintro e w9 ⟨rfl, rfl⟩
                go_wp2_with fail
                go_ret
                exact ⟨by rw [hpass.out, hf.out, Bool.false_and]; rfl, HUa.out.trans HUv.out⟩
              · rw [hkb] at hok hkr
                have hA2 := Lib.hid (allB_succ hA.out hok.out)
                clear hkb
                go_wp2_with fail
                refine (hkr.out _).mono ?_
                rintro e w9 ⟨rfl, rfl⟩
                go_wp2_with fail
                go_roundw
                case measure => simp [intOf]; omega
                case rel =>
                  first
                  | exact ⟨j + 1, by omega, by go_num, hA2, HUv⟩
                  | ((repeat apply Exists.intro)
                     refine ⟨⟨j + 1, by omega, ?_, hA2, HUv⟩, rfl⟩
                     go_num)
        · obtain rfl : k = rd.length := by omega
          skip
          have hA0 := Lib.hid hA.out
          obtain ⟨y0, y1, y2, y3, y4⟩ := hb.out _ hU.out
          clear hA hlt hk
          go_wp2_with fail
          go_loopw [82] (fun x82 wr => ∃ k : Nat, k ≤ wt.length ∧ x82 = .int .i64 k ∧ Hid (allB (okK (wt.map fun x => x.key)) k = true) ∧ Hid (allB (okV wt) k = true) ∧ Hid (Upd NoB wa wr)) (fun x82 _ => wt.length - (intOf x82).toNat)
          case atStart => exact ⟨0, by omega, rfl, Lib.hid rfl, Lib.hid rfl, hU⟩
          case round =>
            clear hU y0 y1 y2 y3 y4
            obtain ⟨k, hk, rfl, hA, hAv, hU⟩ := hrel
            by_cases hlt : k < wt.length
            · obtain ⟨g, o, rcs, rfl, hrep, hcs, _⟩ := HY.out.cellN k hlt
              obtain ⟨hr1, hr2, hr3⟩ := hrep
              subst hr1
              have c0 : wr.cell? ⟨g, o + k * 3, none⟩ = some (.string wt[k].key) := hU.out.cell (hcs 0 _ rfl) (fun h => h)
              have c1 : wr.cell? ⟨g, o + k * 3 + 1, none⟩ = some (.string wt[k].val) := hU.out.cell (hcs 1 _ rfl) (fun h => h)
              have c2 : wr.cell? ⟨g, o + k * 3 + 2, none⟩ = some (.bool wt[k].gone) := hU.out.cell (hcs 2 _ rfl) (fun h => h)
              have hok := Lib.hid (okK_map (fun x => x.key) wt k hlt)
              have hokv := Lib.hid (okV_at hlt)
              have hkr := Lib.hid (fun z => refkeyo_any wt[k].key z hr2)
              have hvr := Lib.hid (fun z => refrightval_any wt[k].val z hr3)
              generalize wt[k] = x at *
              obtain ⟨ky, vl, gn⟩ := x
              simp only at c0 c1 c2
              dsimp only at hok hkr hokv hvr
              obtain ⟨wb, hwb⟩ : ∃ wb, wr.alloc (.cells #[.string ky, .string vl, .bool gn] 138) = wb := ⟨_, rfl⟩
              have hub : Upd NoB wr wb := by rw [← hwb]; exact (Upd.refl _ _).alloc _
              have hBb := Lib.hid (show wb.heap[wr.heap.size]? = some (.cells #[.string ky, .string vl, .bool gn] 138 (0, 0)) by rw [← hwb]; exact heap_alloc_new _ _)
              have HUb := Lib.hid (hU.out.trans hub)
              obtain ⟨y0, y1, y2, y3, y4⟩ := hb.out _ HUb.out
              have hkc : k ≤ d := by omega
              clear hub hcs hr2 hr3
              go_wp2_with fail
              generalize wr.heap.size = pb at *
              clear hwb c0 c1 c2 y0 y1 y2 y3 y4
              go_loopw [92] (fun x64 wv => ∃ j : Nat, j ≤ k ∧ x64 = .int .i64 j ∧ Hid (((wt.map fun x => x.key).take j).any (fun y => decide (y = ky)) = false) ∧ Hid (Upd NoB wb wv)) (fun x64 _ => k - (intOf x64).toNat)
              case atStart => exact ⟨0, by omega, rfl, Lib.hid (by simp), Lib.hid (Upd.refl _ _)⟩
              case round =>
                obtain ⟨j, hj, rfl, hD, hV⟩ := hrel
                by_cases hjk : j < k
                · have djk : decide (j < k) = true := decide_eq_true hjk
                  obtain ⟨gj, oj, rcsj, ej, hrepj, hcsj, _⟩ := HY.out.cellN j (by omega)
                  cases ej
                  have hr1j := hrepj.1
                  subst hr1j
                  have huv := (HUb.out.trans hV.out)
                  have c0 : wr.cell? ⟨g, o + j * 3, none⟩ = some (.string wt[j].key) := huv.cell (hcsj 0 _ rfl) (fun h => h); have c1 : wr.cell? ⟨g, o + j * 3 + 1, none⟩ = some (.string wt[j].val) := huv.cell (hcsj 1 _ rfl) (fun h => h); have c2 : wr.cell? ⟨g, o + j * 3 + 2, none⟩ = some (.bool wt[j].gone) := huv.cell (hcsj 2 _ rfl) (fun h => h)
                  have hany := any_map_succ (fun x => x.key) wt j (by omega) ky
                  have hhit := Lib.hid (fun (h : wt[j].key = ky) => allB_no (n := wt.length) (show okK (wt.map fun x => x.key) k = false by rw [hok.out, any_map_hit (fun x => x.key) wt j k hjk (by omega) ky h]; simp) hlt)
                  rw [hD.out, Bool.false_or] at hany
                  have hb9 := hV.out.heap hBb.out (fun h => h)
                  have hanyj := Lib.hid hany
                  generalize wt[j] = z at *
                  obtain ⟨zk, zv, zg⟩ := z
                  simp only at c0 c1 c2
                  dsimp only at hhit hanyj
                  obtain ⟨wc, hwc⟩ : ∃ wc, wr.alloc (.cells #[.string zk, .string zv, .bool zg] 138) = wc := ⟨_, rfl⟩
                  have huc : Upd NoB wr wc := by rw [← hwc]; exact (Upd.refl _ _).alloc _
                  have hBc : wc.heap[wr.heap.size]? = some (.cells #[.string zk, .string zv, .bool zg] 138 (0, 0)) := by rw [← hwc]; exact heap_alloc_new _ _
                  have z0 : wc.cell? ⟨wr.heap.size, 0, none⟩ = some (.string zk) := by simp [World.cell?, hBc]
                  have hb10 := huc.heap hb9 (fun h => h)
                  have z1 : wc.cell? ⟨pb, 0, none⟩ = some (.string ky) := by simp [World.cell?, hb10]
                  have HVc := Lib.hid (hV.out.trans huc)
                  have HUc := Lib.hid (HUb.out.trans HVc.out)
                  clear huc hBc hb9 hb10 huv hrepj hcsj hany
                  by_cases heq : zk = ky
                  · have heqb : (zk.toList == ky.toList) = true := by rw [toList_beq]; exact decide_eq_true heq
                    have hf := Lib.hid (hhit.out heq)
                    clear heq hhit
                    go_wp2_with fail
                    go_ret
                    exact ⟨by rw [hpass.out, hA0.out, hf.out]; rfl, HUa.out.trans HUc.out⟩
                  · have heqb : (zk.toList == ky.toList) = false := by rw [toList_beq]; exact decide_eq_false heq
                    have hD2 := Lib.hid (show ((wt.map fun x => x.key).take (j + 1)).any (fun y => decide (y = ky)) = false by rw [hanyj.out]; exact decide_eq_false heq)
                    clear heq hhit
                    go_wp2_with fail
                    go_roundw
                    case measure => simp [intOf]; omega
                    case rel => exact ⟨j + 1, by omega, by go_num, hD2, HVc⟩
                · obtain rfl : j = k := by omega
                  have djk : decide (j < j) = false := by simp
                  have hb9 := hV.out.heap hBb.out (fun h => h)
                  have q0 : wr.cell? ⟨pb, 0, none⟩ = some (.string ky) := by simp [World.cell?, hb9]
                  have q1 : wr.cell? ⟨pb, 1, none⟩ = some (.string vl) := by simp [World.cell?, hb9]
                  have q2 : wr.cell? ⟨pb, 2, none⟩ = some (.bool gn) := by simp [World.cell?, hb9]
                  have HUv := Lib.hid (HUb.out.trans hV.out)
                  obtain ⟨n1, n2⟩ := str_nil vl
                  clear hb9
                  rw [hD.out] at hok
                  cases hkb : keyO ky
                  · rw [hkb] at hok hkr
                    have hf := Lib.hid (allB_no (n := wt.length) hok.out hlt)
                    clear hkb n1 n2
                    go_wp2_with fail
                    refine (hkr.out _).mono ?_
                    rintro e w9 ⟨rfl, rfl⟩
                    go_wp2_with fail
                    go_ret
                    exact ⟨by rw [hpass.out, hA0.out, hf.out]; rfl, HUa.out.trans HUv.out⟩
                  · rw [hkb] at hok hkr
                    have hA2 := Lib.hid (allB_succ hA.out hok.out)
                    clear hkb
                    cases hz : valO vl
                    · rw [hz] at hokv hvr
                      have hf := Lib.hid (allB_no (n := wt.length) (show okV wt j = false by rw [hokv.out]; rfl) hlt)
                      clear hz n1 n2
                      go_wp2_with fail
                      refine (hkr.out _).mono ?_
                      rintro e w9 ⟨rfl, rfl⟩
                      go_wp2_with fail
                      refine (hvr.out _).mono ?_
                      rintro e w9 ⟨rfl, rfl⟩
                      go_wp2_with fail
                      go_ret
                      exact ⟨by rw [hpass.out, hA0.out, hf.out, Bool.and_false]; rfl, HUa.out.trans HUv.out⟩
                    · rw [hz] at hokv hvr
                      clear hz
                      cases gn
                      · have hV2 := Lib.hid (allB_succ hAv.out (show okV wt j = true by rw [hokv.out]; rfl))
                        clear n1 n2
                        go_wp2_with fail
                        refine (hkr.out _).mono ?_
                        rintro e w9 ⟨rfl, rfl⟩
                        go_wp2_with fail
                        refine (hvr.out _).mono ?_
                        rintro e w9 ⟨rfl, rfl⟩
                        go_wp2_with fail
                        go_roundw
                        case measure => simp [intOf]; omega
                        case rel =>
                          first
                          | exact ⟨j + 1, by omega, by go_num, hA2, hV2, HUv⟩
                          | ((repeat apply Exists.intro)
                             refine ⟨⟨j + 1, by omega, ?_, hA2, hV2, HUv⟩, rfl⟩
                             go_num)
                      · by_cases hgone : vl.size = 0
                        · have hgd : decide (vl.size = 0) = true := decide_eq_true hgone
                          rw [hgd] at n1 n2
                          have hV2 := Lib.hid (allB_succ hAv.out (show okV wt j = true by rw [hokv.out, hgd]; rfl))
                          go_wp2_with fail
                          refine (hkr.out _).mono ?_
                          rintro e w9 ⟨rfl, rfl⟩
                          go_wp2_with fail
                          refine (hvr.out _).mono ?_
                          rintro e w9 ⟨rfl, rfl⟩
                          go_wp2_with fail
                          go_roundw
                          case measure => simp [intOf]; omega
                          case rel =>
                            first
                            | exact ⟨j + 1, by omega, by go_num, hA2, hV2, HUv⟩
                            | ((repeat apply Exists.intro)
                               refine ⟨⟨j + 1, by omega, ?_, hA2, hV2, HUv⟩, rfl⟩
                               go_num)
                        · have hgd : decide (vl.size = 0) = false := decide_eq_false hgone
                          rw [hgd] at n1 n2
                          have hf := Lib.hid (allB_no (n := wt.length) (show okV wt j = false by rw [hokv.out, hgd]; rfl) hlt)
                          go_wp2_with fail
                          refine (hkr.out _).mono ?_
                          rintro e w9 ⟨rfl, rfl⟩
                          go_wp2_with fail
                          refine (hvr.out _).mono ?_
                          rintro e w9 ⟨rfl, rfl⟩
                          go_wp2_with fail
                          go_ret
                          exact ⟨by rw [hpass.out, hA0.out, hf.out, Bool.and_false]; rfl, HUa.out.trans HUv.out⟩
            · obtain rfl : k = wt.length := by omega
              go_wp2_with fail
              go_ret
              exact ⟨by rw [hpass.out, hA0.out, hA.out, hAv.out]; rfl, HUa.out.trans hU.out⟩
  · have hres := Lib.hid (show txnB tc tq pl rd wt = false from by
      cases ht : txnB tc tq pl rd wt
      · rfl
      · exfalso
        apply hall
        unfold txnB at ht
        simp only [Bool.and_eq_true, decide_eq_true_eq, Bool.not_eq_true', decide_eq_false_iff_not, Bool.and_eq_false_iff, Bool.or_eq_false_iff, Bool.not_eq_false'] at ht
        obtain ⟨a1, a2, a3, a4, a5, _⟩ := ht
        refine ⟨a1, a2, a3, a4, fun hp => ?_⟩
        rw [hp] at a5
        rcases a5 with a5 | a5
        · cases a5
        · exact a5)
    have hws : IntKind.i64.wrap ((rd.length : Int) + wt.length) = (rd.length : Int) + wt.length := by simp only [IntKind.wrap_i64]; omega
    cases hI : idB tc tq
    · rw [hI] at hid
      clear hall hI
      skip
      skip
      obtain ⟨y0, y1, y2, y3, y4⟩ := hb.out _ HU0.out
      go_enter Try.func86, Try.ntmps86
      go_wp2_with fail
      refine (hid.out _).mono ?_
      rintro e w1 ⟨rfl, hu⟩
      have HU1 := Lib.hid (HU0.out.trans hu)
      clear hu y0 y1 y2 y3 y4
      obtain ⟨y0, y1, y2, y3, y4⟩ := hb.out _ HU1.out
      go_wp2_with fail
      go_ret
      exact ⟨by rw [hres.out]; rfl, HUa.out.trans HU1.out⟩
    · rw [hI] at hid
      by_cases k1 : rd.length ≤ 8
      · have d8 : decide ((8 : Int) < (rd.length : Int)) = false := decide_eq_false (by omega)
        by_cases k2 : wt.length ≤ 8
        · have d9 : decide ((8 : Int) < (wt.length : Int)) = false := decide_eq_false (by omega)
          by_cases k3 : rd.length + wt.length = 0
          · have d0 : ((rd.length : Int) + (wt.length : Int) == 0) = true := beq_iff_eq.2 (by omega)
            clear hall hI k1 k2 k3
            skip
            obtain ⟨y0, y1, y2, y3, y4⟩ := hb.out _ HU0.out
            go_enter Try.func86, Try.ntmps86
            go_wp2_with fail
            refine (hid.out _).mono ?_
            rintro e w1 ⟨rfl, hu⟩
            have HU1 := Lib.hid (HU0.out.trans hu)
            clear hu y0 y1 y2 y3 y4
            obtain ⟨y0, y1, y2, y3, y4⟩ := hb.out _ HU1.out
            go_wp2_with fail
            go_ret
            exact ⟨by rw [hres.out]; rfl, HUa.out.trans HU1.out⟩
          · have d0 : ((rd.length : Int) + (wt.length : Int) == 0) = false := beq_eq_false_iff_ne.2 (by omega)
            cases pl
            · exact absurd ⟨hI, k1, k2, k3, fun h => by cases h⟩ hall
            · by_cases k5 : rd.length = 0
              · have k6 : ¬ wt.length = 1 := fun h => hall ⟨hI, k1, k2, k3, fun _ => ⟨k5, h⟩⟩
                have dr : decide ((0 : Int) < (rd.length : Int)) = false := decide_eq_false (by omega); have drn : decide (0 < rd.length) = false := decide_eq_false (by omega)
                have dw : ((wt.length : Int) == 1) = false := beq_eq_false_iff_ne.2 (by omega)
                have dw2 : ((wt.length : Int) != 1) = true := bne_iff_ne.2 (by omega)
                clear hall hI k1 k2 k3 k5 k6
                skip
                obtain ⟨y0, y1, y2, y3, y4⟩ := hb.out _ HU0.out
                go_enter Try.func86, Try.ntmps86
                go_wp2_with fail
                refine (hid.out _).mono ?_
                rintro e w1 ⟨rfl, hu⟩
                have HU1 := Lib.hid (HU0.out.trans hu)
                clear hu y0 y1 y2 y3 y4
                obtain ⟨y0, y1, y2, y3, y4⟩ := hb.out _ HU1.out
                go_wp2_with fail
                go_ret
                exact ⟨by rw [hres.out]; rfl, HUa.out.trans HU1.out⟩
              · have dr : decide ((0 : Int) < (rd.length : Int)) = true := decide_eq_true (by omega); have drn : decide (0 < rd.length) = true := decide_eq_true (by omega)
                clear hall hI k1 k2 k3 k5
                skip
                obtain ⟨y0, y1, y2, y3, y4⟩ := hb.out _ HU0.out
                go_enter Try.func86, Try.ntmps86
                go_wp2_with fail
                refine (hid.out _).mono ?_
                rintro e w1 ⟨rfl, hu⟩
                have HU1 := Lib.hid (HU0.out.trans hu)
                clear hu y0 y1 y2 y3 y4
                obtain ⟨y0, y1, y2, y3, y4⟩ := hb.out _ HU1.out
                go_wp2_with fail
                go_ret
                exact ⟨by rw [hres.out]; rfl, HUa.out.trans HU1.out⟩
        · have d9 : decide ((8 : Int) < (wt.length : Int)) = true := decide_eq_true (by omega)
          clear hall hI k1 k2
          skip
          obtain ⟨y0, y1, y2, y3, y4⟩ := hb.out _ HU0.out
          go_enter Try.func86, Try.ntmps86
          go_wp2_with fail
          refine (hid.out _).mono ?_
          rintro e w1 ⟨rfl, hu⟩
          have HU1 := Lib.hid (HU0.out.trans hu)
          clear hu y0 y1 y2 y3 y4
          obtain ⟨y0, y1, y2, y3, y4⟩ := hb.out _ HU1.out
          go_wp2_with fail
          go_ret
          exact ⟨by rw [hres.out]; rfl, HUa.out.trans HU1.out⟩
      · have d8 : decide ((8 : Int) < (rd.length : Int)) = true := decide_eq_true (by omega)
        clear hall hI k1
        skip
        obtain ⟨y0, y1, y2, y3, y4⟩ := hb.out _ HU0.out
        go_enter Try.func86, Try.ntmps86
        go_wp2_with fail
        refine (hid.out _).mono ?_
        rintro e w1 ⟨rfl, hu⟩
        have HU1 := Lib.hid (HU0.out.trans hu)
        clear hu y0 y1 y2 y3 y4
        obtain ⟨y0, y1, y2, y3, y4⟩ := hb.out _ HU1.out
        go_wp2_with fail
        go_ret
        exact ⟨by rw [hres.out]; rfl, HUa.out.trans HU1.out⟩
end Go.Proofs.Ytobfolkcpfaplaa
