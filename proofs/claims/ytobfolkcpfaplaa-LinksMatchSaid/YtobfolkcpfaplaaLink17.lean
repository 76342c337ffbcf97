/- Three logs that take pieces from one another (LinksMatch): the law's walk. -/
import Derived.Test.YtobfolkcpfaplaaLink16
import Derived.Deep.Cut
import Derived.Deep.CutRange
import Derived.Deep.CutBlock
namespace Go.Proofs.Ytobfolkcpfaplaa
open Go.RowKit Kit
set_option linter.unusedVariables false
set_option maxHeartbeats 16000000 in
set_option maxRecDepth 100000 in
theorem linksMatch_walk (v : Value) (ms : List Mv) (w : World) (h : RSl Rep.mv w (Old w) v ms) :
    Calls Try.prog 8 #[v] w fun e w' => e = .returned (.bool true) ∧ Upd NoB w w' := by
  have HX := Lib.hid h
  obtain ⟨A, cc, _, rfl, d1, d2, _⟩ := h
  have d2' : cc ≤ 9223372036854775807 := d2
  go_enter Try.func8, Try.ntmps8
  go_wp2_with fail
  refine (newlog_any _).mono ?_
  rintro e w1 ⟨p0, rfl, hp0, hu1, hl0⟩
  go_wp2_with fail
  refine (newlog_any _).mono ?_
  rintro e w2 ⟨p1, rfl, hp1, hu2, hl1⟩
  go_wp2_with fail
  refine (newlog_any _).mono ?_
  rintro e w3 ⟨p2, rfl, hp2, hu3, hl2⟩
  obtain ⟨wz, hwz0⟩ : ∃ wz, w3.alloc (.cells #[.pointer (some ⟨p0, 0, none⟩), .pointer (some ⟨p1, 0, none⟩), .pointer (some ⟨p2, 0, none⟩)] 54) = wz := ⟨_, rfl⟩
  have uz : Upd NoB w3 wz := by rw [← hwz0]; exact (Upd.refl _ _).alloc _
  have hA : wz.heap[w3.heap.size]? = some (.cells #[.pointer (some ⟨p0, 0, none⟩), .pointer (some ⟨p1, 0, none⟩), .pointer (some ⟨p2, 0, none⟩)] 54 (0, 0)) := by rw [← hwz0]; exact heap_alloc_new _ _
  have hwz := Lib.hid hwz0
  clear hwz0
  obtain ⟨P, hP0⟩ : ∃ P : Nat → Nat, P = fun i => if i = 0 then p0 else if i = 1 then p1 else p2 := ⟨_, rfl⟩
  have hl0' := fun w0 xs => ((hl0 w0 xs).keep hu2 (fun h => h) (fun _ h => h.elim)).keep (hu3.trans uz) (fun h => h) (fun _ h => h.elim)
  have hl1' := fun w0 xs => (hl1 w0 xs).keep (hu3.trans uz) (fun h => h) (fun _ h => h.elim)
  have hl2' := fun w0 xs => (hl2 w0 xs).keep uz (fun h => h) (fun _ h => h.elim)
  have s0 := (hl0 w []).lt
  have s1 := (hl1 w []).lt
  have s2 := (hl2 w []).lt
  have z1 := hu1.size
  have z2 := hu2.size
  have z3 := hu3.size
  have e0 : P 0 = p0 := by simp [hP0]
  have e1 : P 1 = p1 := by simp [hP0]
  have e2 : P 2 = p2 := by simp [hP0]
  have hge : ∀ i, i < 3 → w.heap.size ≤ P i ∧ P i < w3.heap.size := fun i hi => by
    rcases (show i = 0 ∨ i = 1 ∨ i = 2 by omega) with rfl | rfl | rfl <;> omega
  obtain ⟨V0, hst⟩ := Mst.start (w0 := wz) (P := P) (fun i hi w0 xs => by
    rcases (show i = 0 ∨ i = 1 ∨ i = 2 by omega) with rfl | rfl | rfl
    · rw [e0]; exact hl0' w0 xs
    · rw [e1]; exact hl1' w0 xs
    · rw [e2]; exact hl2' w0 xs) (fun i j hi hj hij => by
    rcases (show i = 0 ∨ i = 1 ∨ i = 2 by omega) with rfl | rfl | rfl <;> rcases (show j = 0 ∨ j = 1 ∨ j = 2 by omega) with rfl | rfl | rfl <;> omega)
  have HS := Lib.hid hst
  have huz := ((hu1.trans hu2).trans hu3).trans uz
  have HW := Lib.hid (fun x (hx : Upd (FP P) wz x) => show Upd NoB w x from huz.then hx (fun b hb e => by obtain ⟨j, hj, rfl⟩ := e; have := hge j hj; omega))
  have HC := Lib.hid (fun x (hx : Upd (FP P) wz x) => show ∀ i, i < 3 → x.cell? ⟨w3.heap.size, i, none⟩ = some (.pointer (some ⟨P i, 0, none⟩)) from fun i hi => by
    have hh := hx.heap hA (fun e => by obtain ⟨j, hj, e⟩ := e; have := hge j hj; omega)
    rcases (show i = 0 ∨ i = 1 ∨ i = 2 by omega) with rfl | rfl | rfl
    · rw [e0]; simp only [World.cell?, hh]; rfl
    · rw [e1]; simp only [World.cell?, hh]; rfl
    · rw [e2]; simp only [World.cell?, hh]; rfl)
  clear hl0 hl1 hl2 hl0' hl1' hl2' hu1 hu2 hu3 uz hA hst huz hge s0 s1 s2 z1 z2 z3 e0 e1 e2 hP0
  go_wp2_with fail
  rw [hwz.out]
  clear hwz
  generalize w3.heap.size = bs at *
  go_loopw [4, 5, 6, 20] (fun x4 x5 x6 x20 wr => ∃ k : Nat, k ≤ ms.length ∧ k ≤ 40 ∧ x20 = .int .i64 k ∧ ∃ (ld : Nat) (E sq : Int) (V : Nat → Value) (L : Nat → List Fin), x4 = .int .i64 ld ∧ x5 = .int .u64 E ∧ x6 = .int .u64 sq ∧ Hid (Mst wz wr P k ld E sq V L)) (fun _ _ _ x20 _ => ms.length - (intOf x20).toNat)
  case atStart => exact ⟨0, by omega, by omega, rfl, 0, 1, 0, V0, _, rfl, rfl, rfl, HS⟩
  case round =>
    clear HS
    obtain ⟨k, hk, hk40, rfl, ld, E, sq, V, L, rfl, rfl, rfl, hM⟩ := hrel
    by_cases hlt : k < ms.length
    · obtain ⟨g, o, rcs, rfl, hrep, hcell, hg⟩ := HX.out.cellN k hlt
      have hrep' : rcs = mvC (ms[k]'hlt) := hrep
      subst hrep'
      have hU := HW.out wr hM.out.upd
      have c0 : wr.cell? ⟨g, o + k * 5, none⟩ = some (.int .i64 ms[k].kd) := hU.cell (hcell 0 _ rfl) (fun h => h)
      have c1 : wr.cell? ⟨g, o + k * 5 + 1, none⟩ = some (.int .i64 ms[k].a) := hU.cell (hcell 1 _ rfl) (fun h => h)
      have c2 : wr.cell? ⟨g, o + k * 5 + 2, none⟩ = some (.int .i64 ms[k].b) := hU.cell (hcell 2 _ rfl) (fun h => h)
      have c3 : wr.cell? ⟨g, o + k * 5 + 3, none⟩ = some (.int .i64 ms[k].pv) := hU.cell (hcell 3 _ rfl) (fun h => h)
      have c4 : wr.cell? ⟨g, o + k * 5 + 4, none⟩ = some (.int .i64 ms[k].mo) := hU.cell (hcell 4 _ rfl) (fun h => h)
      generalize ms[k] = y at *
      obtain ⟨kd, ma, mb, pv, mo⟩ := y
      simp only at c0 c1 c2 c3 c4
      clear hcell hU hrep
      by_cases h40 : 40 ≤ k
      · have hI40 : (40 : Int) ≤ (k : Int) := by omega
        have hd40 : decide ((40 : Int) ≤ (k : Int)) = true := decide_eq_true hI40
        clear h40
        go_wp2_with fail
        refine (linksAwake_any _).mono ?_
        rintro e w99 ⟨rfl, hu⟩
        have HU99 := Lib.hid (((HW.out _ hM.out.upd).alloc _).trans hu)
        clear hu
        go_wp2_with fail
        go_ret
        exact ⟨rfl, HU99.out⟩
      · have hI40 : ¬ (40 : Int) ≤ (k : Int) := by omega
        have hd40 : decide ((40 : Int) ≤ (k : Int)) = false := decide_eq_false hI40
        obtain ⟨wa, hwa⟩ : ∃ wa, wr.alloc (.cells #[.int .i64 kd, .int .i64 ma, .int .i64 mb, .int .i64 pv, .int .i64 mo] 82) = wa := ⟨_, rfl⟩
        have hua : Upd NoB wr wa := by rw [← hwa]; exact (Upd.refl _ _).alloc _
        have hB := Lib.hid (show wa.heap[wr.heap.size]? = some (.cells #[.int .i64 kd, .int .i64 ma, .int .i64 mb, .int .i64 pv, .int .i64 mo] 82 (0, 0)) by rw [← hwa]; exact heap_alloc_new _ _)
        have hBc := Lib.hid (fun x (hx : Upd NoB wa x) => mv_cells (hx.heap hB.out (fun h => h)))
        have hMa := Lib.hid (hM.out.keep hua)
        obtain ⟨x0, x1, x2, x3, x4⟩ := mv_cells hB.out
        clear hua h40 hM
        have hma := Lib.hid (fun x => mod_any ma 3 x (by decide) (by decide))
        have hmb := Lib.hid (fun x => mod_any mb 3 x (by decide) (by decide))
        obtain ⟨i, hi, ei⟩ : ∃ i : Nat, i < 3 ∧ modI ma 3 = i := ⟨(modI ma 3).toNat, by have := modI_lt (k := ma) (n := 3) (by decide); omega, by have := modI_lt (k := ma) (n := 3) (by decide); omega⟩
        obtain ⟨j, hj, ej⟩ : ∃ j : Nat, j < 3 ∧ modI mb 3 = j := ⟨(modI mb 3).toNat, by have := modI_lt (k := mb) (n := 3) (by decide); omega, by have := modI_lt (k := mb) (n := 3) (by decide); omega⟩
        rw [ei] at hma
        rw [ej] at hmb
        clear ei ej
        have HI := Lib.hid (fun x (hx : Upd NoB wa x) => HC.out x (hMa.out.keep hx).upd i hi)
        have HJ := Lib.hid (fun x (hx : Upd NoB wa x) => HC.out x (hMa.out.keep hx).upd j hj)
        have i3 : (i : Int) < 3 := by omega
        have j3 : (j : Int) < 3 := by omega
        have hk40' := Lib.hid hk40
        go_wp2_with fail
        clear x0 x1 x2 x3 x4 c0 c1 c2 c3 c4 hwa
        generalize wr.heap.size = pb at *
        refine sched_begin NoB (by kernel_rfl) ?_
        have HUd := Lib.hid (Upd.refl NoB wa).drew
        refine sched_take 0 rfl (by kernel_rfl) (by kernel_rfl) (by kernel_rfl) (fun _ _ _ h => h) rfl (fun x hx => by go_simp; rfl) ?_
        go_simp
        refine sched_take 1 rfl (by kernel_rfl) (by kernel_rfl) (by kernel_rfl) (fun _ _ _ h => h) rfl (fun x hx => by go_simp; rfl) ?_
        go_simp
        refine sched_take 2 rfl (by kernel_rfl) (by kernel_rfl) (by kernel_rfl) (fun _ _ _ h => h) rfl (fun x hx => by obtain ⟨y0, y1, y2, y3, y4⟩ := hBc.out x (HUd.out.trans hx); go_simp; rfl) ?_
        go_simp
        refine sched_take 6 rfl (by kernel_rfl) (by kernel_rfl) (by kernel_rfl) (fun _ _ _ h => h) rfl (fun x hx => by go_simp; rfl) ?_
        go_simp
        refine sched_take 7 rfl (by kernel_rfl) (by kernel_rfl) (by kernel_rfl) (fun _ _ _ h => h) rfl (fun x hx => by go_simp; rfl) ?_
        go_simp
        refine sched_take 8 rfl (by kernel_rfl) (by kernel_rfl) (by kernel_rfl) (fun _ _ _ h => h) rfl (fun x hx => by obtain ⟨y0, y1, y2, y3, y4⟩ := hBc.out x (HUd.out.trans hx); go_simp; rfl) ?_
        go_simp
        refine sched_alone 3 (by kernel_rfl) rfl rfl ?_
        go_simp
        refine (hma.out _).mono ?_
        rintro e w5 ⟨rfl, hu⟩
        refine ⟨hu, ?_⟩
        have HU1 := Lib.hid (HUd.out.trans hu)
        clear hu
        go_simp
        refine sched_take 4 rfl (by kernel_rfl) (by kernel_rfl) (by kernel_rfl) (fun _ _ _ h => h) rfl (fun x hx => by go_simp; rfl) ?_
        go_simp
        refine sched_take 5 rfl (by kernel_rfl) (by kernel_rfl) (by kernel_rfl) (fun _ _ _ h => h) rfl (fun x hx => by have y := HI.out x (HU1.out.trans hx); go_simp; rfl) ?_
        go_simp
        refine sched_alone 9 (by kernel_rfl) rfl rfl ?_
        go_simp
        refine (hmb.out _).mono ?_
        rintro e w6 ⟨rfl, hu⟩
        refine ⟨hu, ?_⟩
        have HU2 := Lib.hid (HU1.out.trans hu)
        clear hu
        go_simp
        refine sched_take 10 rfl (by kernel_rfl) (by kernel_rfl) (by kernel_rfl) (fun _ _ _ h => h) rfl (fun x hx => by go_simp; rfl) ?_
        go_simp
        refine sched_take 11 rfl (by kernel_rfl) (by kernel_rfl) (by kernel_rfl) (fun _ _ _ h => h) rfl (fun x hx => by have y := HJ.out x (HU2.out.trans hx); go_simp; rfl) ?_
        go_simp
        refine sched_take 12 rfl (by kernel_rfl) (by kernel_rfl) (by kernel_rfl) (fun _ _ _ h => h) rfl (fun x hx => by go_simp; rfl) ?_
        go_simp
        refine sched_take 13 rfl (by kernel_rfl) (by kernel_rfl) (by kernel_rfl) (fun _ _ _ h => h) rfl (fun x hx => by go_simp; rfl) ?_
        go_simp
        refine sched_done (by kernel_rfl) ?_
        have M6 := Lib.hid (hMa.out.keep HU2.out)
        have hma2 := hma
        clear hma hmb
        obtain ⟨y0, y1, y2, y3, y4⟩ := hBc.out _ HU2.out
        go_upto_block 2 with fail
        clear y0 y1 y2 y3 y4
        go_cut [4, 5, 6, 20] from 20 to 109 (fun x4 x5 x6 x20 wc => x20 = .int .i64 k ∧ ∃ (ld : Nat) (E sq : Int) (V : Nat → Value) (L : Nat → List Fin), x4 = .int .i64 ld ∧ x5 = .int .u64 E ∧ x6 = .int .u64 sq ∧ Hid (Mst wz wc P (k + 1) ld E sq V L))
        case first =>
          by_cases hk0 : kd = 0 ∨ kd = 1
          · rcases hk0 with rfl | rfl
            · skip
              have hsq := IntKind.wrap_u64 (sq + 1)
              have hsq1 : IntKind.u64.wrap (sq + 1) = sq + 1 := by
                have := M6.out.s0; have := M6.out.s1; rw [hsq]; omega
              clear hsq
              have ld3 : (ld : Int) < 3 := by have := M6.out.ldlt; omega
              have hld := HC.out w6 M6.out.upd ld M6.out.ldlt
              have hadd := Lib.hid (M6.out.add (by have := hk40'.out; omega))
              unfold finV at hadd
              go_wp2_with fail
              refine hadd.out.mono ?_
              rintro e w7 ⟨rfl, V', L', hM7⟩
              have HM7 := Lib.hid hM7
              clear hM7
              go_wp2_with fail
              go_meet
              exact ⟨rfl, ld, E, sq + 1, V', L', rfl, rfl, rfl, HM7⟩
            · skip
              have hsq := IntKind.wrap_u64 (sq + 1)
              have hsq1 : IntKind.u64.wrap (sq + 1) = sq + 1 := by
                have := M6.out.s0; have := M6.out.s1; rw [hsq]; omega
              clear hsq
              have ld3 : (ld : Int) < 3 := by have := M6.out.ldlt; omega
              have hld := HC.out w6 M6.out.upd ld M6.out.ldlt
              have hadd := Lib.hid (M6.out.add (by have := hk40'.out; omega))
              unfold finV at hadd
              go_wp2_with fail
              refine hadd.out.mono ?_
              rintro e w7 ⟨rfl, V', L', hM7⟩
              have HM7 := Lib.hid hM7
              clear hM7
              go_wp2_with fail
              go_meet
              exact ⟨rfl, ld, E, sq + 1, V', L', rfl, rfl, rfl, HM7⟩
          · have n0 : (kd == 0) = false := by simp; omega
            have n1 : (kd == 1) = false := by simp; omega
            clear hk0
            by_cases hk2 : kd = 2 ∨ kd = 3 ∨ kd = 4
            · rcases hk2 with rfl | rfl | rfl
              · clear n0 n1
                have hlj : (L j).length ≤ 40 := by have := M6.out.len j; have := hk40'.out; omega
                have hlen := Lib.hid (fun x (hx : Upd NoB w6 x) => len_any wz _ (P j) (L j) x ((M6.out.keep hx).log j hj))
                have hwl : IntKind.i64.wrap ((L j).length + 1) = (((L j).length + 1 : Nat) : Int) := by simp only [IntKind.wrap_i64]; omega
                have hmp := Lib.hid (fun x => mod_any pv (((L j).length + 1 : Nat) : Int) x (by omega) (by omega))
                obtain ⟨a, hal, ea⟩ : ∃ a : Nat, a ≤ (L j).length ∧ modI pv (((L j).length + 1 : Nat) : Int) = a := ⟨(modI pv (((L j).length + 1 : Nat) : Int)).toNat, by have := modI_lt (k := pv) (n := (((L j).length + 1 : Nat) : Int)) (by omega); omega, by have := modI_lt (k := pv) (n := (((L j).length + 1 : Nat) : Int)) (by omega); omega⟩
                rw [ea] at hmp
                have HA := Lib.hid hal
                clear ea hal hlj
                go_wp2_with fail
                refine sched_begin NoB (by kernel_rfl) ?_
                have HUe := Lib.hid (HU2.out.drew)
                have HVe := Lib.hid (Upd.refl NoB w6).drew
                refine sched_take 0 rfl (by kernel_rfl) (by kernel_rfl) (by kernel_rfl) (fun _ _ _ h => h) rfl (fun x hx => by go_simp; rfl) ?_
                go_simp
                refine sched_take 1 rfl (by kernel_rfl) (by kernel_rfl) (by kernel_rfl) (fun _ _ _ h => h) rfl (fun x hx => by obtain ⟨y0, y1, y2, y3, y4⟩ := hBc.out x (HUe.out.trans hx); go_simp; rfl) ?_
                go_simp
                refine sched_take 2 rfl (by kernel_rfl) (by kernel_rfl) (by kernel_rfl) (fun _ _ _ h => h) rfl (fun x hx => by go_simp; rfl) ?_
                go_simp
                refine sched_alone 3 (by kernel_rfl) rfl rfl ?_
                go_simp
                refine (hlen.out _ HVe.out).mono ?_
                rintro e w7 ⟨rfl, hu⟩
                refine ⟨hu, ?_⟩
                have HV7 := Lib.hid (HVe.out.trans hu)
                clear hu
                go_simp
                refine sched_take 4 rfl (by kernel_rfl) (by kernel_rfl) (by kernel_rfl) (fun _ _ _ h => h) rfl (fun x hx => by go_simp; rfl) ?_
                go_simp
                refine sched_alone 5 (by kernel_rfl) rfl rfl ?_
                go_simp
                refine (hmp.out _).mono ?_
                rintro e w8 ⟨rfl, hu⟩
                refine ⟨hu, ?_⟩
                have HV8 := Lib.hid (HV7.out.trans hu)
                clear hu
                go_simp
                refine sched_take 6 rfl (by kernel_rfl) (by kernel_rfl) (by kernel_rfl) (fun _ _ _ h => h) rfl (fun x hx => by go_simp; rfl) ?_
                go_simp
                refine sched_done (by kernel_rfl) ?_
                obtain ⟨y0, y1, y2, y3, y4⟩ := hBc.out _ (HU2.out.trans HV8.out)
                by_cases hil : i = ld
                · have hne1 : ((i : Int) == (ld : Int)) = true := by simp [hil]
                  have hne2 : ((i : Int) != (ld : Int)) = false := by simp [hil]
                  clear hil
                  go_wp2_with fail
                  refine (hma2.out _).mono ?_
                  rintro e w9 ⟨rfl, hu⟩
                  have HV9 := Lib.hid (HV8.out.trans hu)
                  clear hu
                  have HM9 := Lib.hid (M6.out.keep HV9.out).next
                  go_wp2_with fail
                  go_meet
                  exact ⟨rfl, ld, E, sq, V, L, rfl, rfl, rfl, HM9⟩
                · have hne1 : ((i : Int) == (ld : Int)) = false := by simp; omega
                  have hne2 : ((i : Int) != (ld : Int)) = true := by simp; omega
                  have HNE := Lib.hid hil
                  clear hil
                  go_wp2_with fail
                  refine (hma2.out _).mono ?_
                  rintro e w9 ⟨rfl, hu⟩
                  have HV9 := Lib.hid (HV8.out.trans hu)
                  clear hu y0 y1 y2 y3 y4
                  have hepc := Lib.hid (fun x (hx : Upd NoB w6 x) => epoch_any wz _ (P j) (L j) a x ((M6.out.keep hx).log j hj) (by have := M6.out.len j; have := hk40'.out; omega))
                  obtain ⟨m5, hm5, em⟩ : ∃ m : Nat, m < 5 ∧ modI mo 5 = m := ⟨(modI mo 5).toNat, by have := modI_lt (k := mo) (n := 5) (by decide); omega, by have := modI_lt (k := mo) (n := 5) (by decide); omega⟩
                  have hmo := Lib.hid (fun x => mod_any mo 5 x (by decide) (by decide))
                  rw [em] at hmo
                  have hwm : IntKind.i64.wrap (1 + m5) = 1 + m5 := by simp only [IntKind.wrap_i64]; omega
                  have hfrm := Lib.hid (fun x (hx : Upd NoB w6 x) => from_any wz _ (P j) (L j) a (1 + m5) x ((M6.out.keep hx).log j hj) (by have := M6.out.len j; have := hk40'.out; omega))
                  have htk := Lib.hid (fun v x y (hx : Upd NoB w6 x) (hu : Upd NoB x y) ho hv => (M6.out.keep hx).take (by have := hk40'.out; omega) i j hi hj HNE.out a (1 + m5) HA.out v y hu ho hv)
                  clear em hm5
                  go_wp2_with fail
                  refine sched2_begin NoB (fun _ => True) [12] (by kernel_rfl) ?_
                  have HVd := Lib.hid (HV9.out.drew)
                  refine sched2_take 0 rfl (by kernel_rfl) (by kernel_rfl) (by kernel_rfl) (by kernel_rfl) (by kernel_rfl) (fun _ _ _ h => h) (.inl ⟨rfl, fun x hx => by go_simp; rfl⟩) ?_
                  go_simp
                  refine sched2_take 1 rfl (by kernel_rfl) (by kernel_rfl) (by kernel_rfl) (by kernel_rfl) (by kernel_rfl) (fun _ _ _ h => h) (.inl ⟨rfl, fun x hx => by go_simp; rfl⟩) ?_
                  go_simp
                  refine sched2_take 2 rfl (by kernel_rfl) (by kernel_rfl) (by kernel_rfl) (by kernel_rfl) (by kernel_rfl) (fun _ _ _ h => h) (.inl ⟨rfl, fun x hx => by go_simp; rfl⟩) ?_
                  go_simp
                  refine sched2_take 3 rfl (by kernel_rfl) (by kernel_rfl) (by kernel_rfl) (by kernel_rfl) (by kernel_rfl) (fun _ _ _ h => h) (.inl ⟨rfl, fun x hx => by go_simp; rfl⟩) ?_
                  go_simp
                  refine sched2_take 5 rfl (by kernel_rfl) (by kernel_rfl) (by kernel_rfl) (by kernel_rfl) (by kernel_rfl) (fun _ _ _ h => h) (.inl ⟨rfl, fun x hx => by go_simp; rfl⟩) ?_
                  go_simp
                  refine sched2_take 6 rfl (by kernel_rfl) (by kernel_rfl) (by kernel_rfl) (by kernel_rfl) (by kernel_rfl) (fun _ _ _ h => h) (.inl ⟨rfl, fun x hx => by go_simp; rfl⟩) ?_
                  go_simp
                  refine sched2_take 7 rfl (by kernel_rfl) (by kernel_rfl) (by kernel_rfl) (by kernel_rfl) (by kernel_rfl) (fun _ _ _ h => h) (.inl ⟨rfl, fun x hx => by go_simp; rfl⟩) ?_
                  go_simp
                  refine sched2_take 8 rfl (by kernel_rfl) (by kernel_rfl) (by kernel_rfl) (by kernel_rfl) (by kernel_rfl) (fun _ _ _ h => h) (.inl ⟨rfl, fun x hx => by obtain ⟨y0, y1, y2, y3, y4⟩ := hBc.out x (HU2.out.trans (HVd.out.trans hx)); go_simp; rfl⟩) ?_
                  go_simp
                  refine sched2_alone 4 (by kernel_rfl) rfl rfl ?_
                  go_simp
                  refine (hepc.out _ HVd.out).mono ?_
                  rintro e w10 ⟨rfl, hu⟩
                  refine ⟨both hu (fun _ _ => trivial), ?_⟩
                  have HV10 := Lib.hid (HVd.out.trans hu)
                  clear hu
                  go_simp
                  refine sched2_alone 9 (by kernel_rfl) rfl rfl ?_
                  go_simp
                  refine (hmo.out _).mono ?_
                  rintro e w11 ⟨rfl, hu⟩
                  refine ⟨both hu (fun _ _ => trivial), ?_⟩
                  have HV11 := Lib.hid (HV10.out.trans hu)
                  clear hu
                  go_simp
                  refine sched2_take 10 rfl (by kernel_rfl) (by kernel_rfl) (by kernel_rfl) (by kernel_rfl) (by kernel_rfl) (fun _ _ _ h => h) (.inl ⟨rfl, fun x hx => by go_simp; rfl⟩) ?_
                  go_simp
                  refine sched2_alone 11 (by kernel_rfl) rfl rfl ?_
                  go_simp
                  refine (hfrm.out _ HV11.out).mono ?_
                  rintro e w12 ⟨v', rfl, hMi⟩
                  refine ⟨both hMi.2 (fun _ _ => trivial), ?_⟩
                  have hSf := Mine.self hMi
                  have htk2 := Lib.hid (htk.out v' w11 w12 HV11.out hMi.2 hSf.1 hSf.2)
                  clear hMi hSf
                  go_simp
                  refine sched2_alone 12 (by kernel_rfl) rfl rfl ?_
                  go_simp
                  refine htk2.out.mono ?_
                  rintro e w13 ⟨rfl, ⟨V', L', hM'⟩, hu⟩
                  refine ⟨⟨hu.mono (fun _ _ _ => trivial), fun hn => ?_⟩, ?_⟩
                  · have := hn 12 (by simp)
                    simp at this
                  have HM13 := Lib.hid hM'
                  clear hM' hu
                  go_simp
                  refine sched2_done (by kernel_rfl) ?_
                  go_wp2_with fail
                  go_meet
                  exact ⟨rfl, ld, E, sq, V', L', rfl, rfl, rfl, HM13⟩
              · clear n0 n1
                have hlj : (L j).length ≤ 40 := by have := M6.out.len j; have := hk40'.out; omega
                have hlen := Lib.hid (fun x (hx : Upd NoB w6 x) => len_any wz _ (P j) (L j) x ((M6.out.keep hx).log j hj))
                have hwl : IntKind.i64.wrap ((L j).length + 1) = (((L j).length + 1 : Nat) : Int) := by simp only [IntKind.wrap_i64]; omega
                have hmp := Lib.hid (fun x => mod_any pv (((L j).length + 1 : Nat) : Int) x (by omega) (by omega))
                obtain ⟨a, hal, ea⟩ : ∃ a : Nat, a ≤ (L j).length ∧ modI pv (((L j).length + 1 : Nat) : Int) = a := ⟨(modI pv (((L j).length + 1 : Nat) : Int)).toNat, by have := modI_lt (k := pv) (n := (((L j).length + 1 : Nat) : Int)) (by omega); omega, by have := modI_lt (k := pv) (n := (((L j).length + 1 : Nat) : Int)) (by omega); omega⟩
                rw [ea] at hmp
                have HA := Lib.hid hal
                clear ea hal hlj
                go_wp2_with fail
                refine sched_begin NoB (by kernel_rfl) ?_
                have HUe := Lib.hid (HU2.out.drew)
                have HVe := Lib.hid (Upd.refl NoB w6).drew
                refine sched_take 0 rfl (by kernel_rfl) (by kernel_rfl) (by kernel_rfl) (fun _ _ _ h => h) rfl (fun x hx => by go_simp; rfl) ?_
                go_simp
                refine sched_take 1 rfl (by kernel_rfl) (by kernel_rfl) (by kernel_rfl) (fun _ _ _ h => h) rfl (fun x hx => by obtain ⟨y0, y1, y2, y3, y4⟩ := hBc.out x (HUe.out.trans hx); go_simp; rfl) ?_
                go_simp
                refine sched_take 2 rfl (by kernel_rfl) (by kernel_rfl) (by kernel_rfl) (fun _ _ _ h => h) rfl (fun x hx => by go_simp; rfl) ?_
                go_simp
                refine sched_alone 3 (by kernel_rfl) rfl rfl ?_
                go_simp
                refine (hlen.out _ HVe.out).mono ?_
                rintro e w7 ⟨rfl, hu⟩
                refine ⟨hu, ?_⟩
                have HV7 := Lib.hid (HVe.out.trans hu)
                clear hu
                go_simp
                refine sched_take 4 rfl (by kernel_rfl) (by kernel_rfl) (by kernel_rfl) (fun _ _ _ h => h) rfl (fun x hx => by go_simp; rfl) ?_
                go_simp
                refine sched_alone 5 (by kernel_rfl) rfl rfl ?_
                go_simp
                refine (hmp.out _).mono ?_
                rintro e w8 ⟨rfl, hu⟩
                refine ⟨hu, ?_⟩
                have HV8 := Lib.hid (HV7.out.trans hu)
                clear hu
                go_simp
                refine sched_take 6 rfl (by kernel_rfl) (by kernel_rfl) (by kernel_rfl) (fun _ _ _ h => h) rfl (fun x hx => by go_simp; rfl) ?_
                go_simp
                refine sched_done (by kernel_rfl) ?_
                obtain ⟨y0, y1, y2, y3, y4⟩ := hBc.out _ (HU2.out.trans HV8.out)
                by_cases hil : i = ld
                · have hne1 : ((i : Int) == (ld : Int)) = true := by simp [hil]
                  have hne2 : ((i : Int) != (ld : Int)) = false := by simp [hil]
                  clear hil
                  go_wp2_with fail
                  refine (hma2.out _).mono ?_
                  rintro e w9 ⟨rfl, hu⟩
                  have HV9 := Lib.hid (HV8.out.trans hu)
                  clear hu
                  have HM9 := Lib.hid (M6.out.keep HV9.out).next
                  go_wp2_with fail
                  go_meet
                  exact ⟨rfl, ld, E, sq, V, L, rfl, rfl, rfl, HM9⟩
                · have hne1 : ((i : Int) == (ld : Int)) = false := by simp; omega
                  have hne2 : ((i : Int) != (ld : Int)) = true := by simp; omega
                  have HNE := Lib.hid hil
                  clear hil
                  go_wp2_with fail
                  refine (hma2.out _).mono ?_
                  rintro e w9 ⟨rfl, hu⟩
                  have HV9 := Lib.hid (HV8.out.trans hu)
                  clear hu y0 y1 y2 y3 y4
                  have hepc := Lib.hid (fun x (hx : Upd NoB w6 x) => epoch_any wz _ (P j) (L j) a x ((M6.out.keep hx).log j hj) (by have := M6.out.len j; have := hk40'.out; omega))
                  obtain ⟨m5, hm5, em⟩ : ∃ m : Nat, m < 5 ∧ modI mo 5 = m := ⟨(modI mo 5).toNat, by have := modI_lt (k := mo) (n := 5) (by decide); omega, by have := modI_lt (k := mo) (n := 5) (by decide); omega⟩
                  have hmo := Lib.hid (fun x => mod_any mo 5 x (by decide) (by decide))
                  rw [em] at hmo
                  have hwm : IntKind.i64.wrap (1 + m5) = 1 + m5 := by simp only [IntKind.wrap_i64]; omega
                  have hfrm := Lib.hid (fun x (hx : Upd NoB w6 x) => from_any wz _ (P j) (L j) a (1 + m5) x ((M6.out.keep hx).log j hj) (by have := M6.out.len j; have := hk40'.out; omega))
                  have htk := Lib.hid (fun v x y (hx : Upd NoB w6 x) (hu : Upd NoB x y) ho hv => (M6.out.keep hx).take (by have := hk40'.out; omega) i j hi hj HNE.out a (1 + m5) HA.out v y hu ho hv)
                  clear em hm5
                  go_wp2_with fail
                  refine sched2_begin NoB (fun _ => True) [12] (by kernel_rfl) ?_
                  have HVd := Lib.hid (HV9.out.drew)
                  refine sched2_take 0 rfl (by kernel_rfl) (by kernel_rfl) (by kernel_rfl) (by kernel_rfl) (by kernel_rfl) (fun _ _ _ h => h) (.inl ⟨rfl, fun x hx => by go_simp; rfl⟩) ?_
                  go_simp
                  refine sched2_take 1 rfl (by kernel_rfl) (by kernel_rfl) (by kernel_rfl) (by kernel_rfl) (by kernel_rfl) (fun _ _ _ h => h) (.inl ⟨rfl, fun x hx => by go_simp; rfl⟩) ?_
                  go_simp
                  refine sched2_take 2 rfl (by kernel_rfl) (by kernel_rfl) (by kernel_rfl) (by kernel_rfl) (by kernel_rfl) (fun _ _ _ h => h) (.inl ⟨rfl, fun x hx => by go_simp; rfl⟩) ?_
                  go_simp
                  refine sched2_take 3 rfl (by kernel_rfl) (by kernel_rfl) (by kernel_rfl) (by kernel_rfl) (by kernel_rfl) (fun _ _ _ h => h) (.inl ⟨rfl, fun x hx => by go_simp; rfl⟩) ?_
                  go_simp
                  refine sched2_take 5 rfl (by kernel_rfl) (by kernel_rfl) (by kernel_rfl) (by kernel_rfl) (by kernel_rfl) (fun _ _ _ h => h) (.inl ⟨rfl, fun x hx => by go_simp; rfl⟩) ?_
                  go_simp
                  refine sched2_take 6 rfl (by kernel_rfl) (by kernel_rfl) (by kernel_rfl) (by kernel_rfl) (by kernel_rfl) (fun _ _ _ h => h) (.inl ⟨rfl, fun x hx => by go_simp; rfl⟩) ?_
                  go_simp
                  refine sched2_take 7 rfl (by kernel_rfl) (by kernel_rfl) (by kernel_rfl) (by kernel_rfl) (by kernel_rfl) (fun _ _ _ h => h) (.inl ⟨rfl, fun x hx => by go_simp; rfl⟩) ?_
                  go_simp
                  refine sched2_take 8 rfl (by kernel_rfl) (by kernel_rfl) (by kernel_rfl) (by kernel_rfl) (by kernel_rfl) (fun _ _ _ h => h) (.inl ⟨rfl, fun x hx => by obtain ⟨y0, y1, y2, y3, y4⟩ := hBc.out x (HU2.out.trans (HVd.out.trans hx)); go_simp; rfl⟩) ?_
                  go_simp
                  refine sched2_alone 4 (by kernel_rfl) rfl rfl ?_
                  go_simp
                  refine (hepc.out _ HVd.out).mono ?_
                  rintro e w10 ⟨rfl, hu⟩
                  refine ⟨both hu (fun _ _ => trivial), ?_⟩
                  have HV10 := Lib.hid (HVd.out.trans hu)
                  clear hu
                  go_simp
                  refine sched2_alone 9 (by kernel_rfl) rfl rfl ?_
                  go_simp
                  refine (hmo.out _).mono ?_
                  rintro e w11 ⟨rfl, hu⟩
                  refine ⟨both hu (fun _ _ => trivial), ?_⟩
                  have HV11 := Lib.hid (HV10.out.trans hu)
                  clear hu
                  go_simp
                  refine sched2_take 10 rfl (by kernel_rfl) (by kernel_rfl) (by kernel_rfl) (by kernel_rfl) (by kernel_rfl) (fun _ _ _ h => h) (.inl ⟨rfl, fun x hx => by go_simp; rfl⟩) ?_
                  go_simp
                  refine sched2_alone 11 (by kernel_rfl) rfl rfl ?_
                  go_simp
                  refine (hfrm.out _ HV11.out).mono ?_
                  rintro e w12 ⟨v', rfl, hMi⟩
                  refine ⟨both hMi.2 (fun _ _ => trivial), ?_⟩
                  have hSf := Mine.self hMi
                  have htk2 := Lib.hid (htk.out v' w11 w12 HV11.out hMi.2 hSf.1 hSf.2)
                  clear hMi hSf
                  go_simp
                  refine sched2_alone 12 (by kernel_rfl) rfl rfl ?_
                  go_simp
                  refine htk2.out.mono ?_
                  rintro e w13 ⟨rfl, ⟨V', L', hM'⟩, hu⟩
                  refine ⟨⟨hu.mono (fun _ _ _ => trivial), fun hn => ?_⟩, ?_⟩
                  · have := hn 12 (by simp)
                    simp at this
                  have HM13 := Lib.hid hM'
                  clear hM' hu
                  go_simp
                  refine sched2_done (by kernel_rfl) ?_
                  go_wp2_with fail
                  go_meet
                  exact ⟨rfl, ld, E, sq, V', L', rfl, rfl, rfl, HM13⟩
              · clear n0 n1
                have hlj : (L j).length ≤ 40 := by have := M6.out.len j; have := hk40'.out; omega
                have hlen := Lib.hid (fun x (hx : Upd NoB w6 x) => len_any wz _ (P j) (L j) x ((M6.out.keep hx).log j hj))
                have hwl : IntKind.i64.wrap ((L j).length + 1) = (((L j).length + 1 : Nat) : Int) := by simp only [IntKind.wrap_i64]; omega
                have hmp := Lib.hid (fun x => mod_any pv (((L j).length + 1 : Nat) : Int) x (by omega) (by omega))
                obtain ⟨a, hal, ea⟩ : ∃ a : Nat, a ≤ (L j).length ∧ modI pv (((L j).length + 1 : Nat) : Int) = a := ⟨(modI pv (((L j).length + 1 : Nat) : Int)).toNat, by have := modI_lt (k := pv) (n := (((L j).length + 1 : Nat) : Int)) (by omega); omega, by have := modI_lt (k := pv) (n := (((L j).length + 1 : Nat) : Int)) (by omega); omega⟩
                rw [ea] at hmp
                have HA := Lib.hid hal
                clear ea hal hlj
                go_wp2_with fail
                refine sched_begin NoB (by kernel_rfl) ?_
                have HUe := Lib.hid (HU2.out.drew)
                have HVe := Lib.hid (Upd.refl NoB w6).drew
                refine sched_take 0 rfl (by kernel_rfl) (by kernel_rfl) (by kernel_rfl) (fun _ _ _ h => h) rfl (fun x hx => by go_simp; rfl) ?_
                go_simp
                refine sched_take 1 rfl (by kernel_rfl) (by kernel_rfl) (by kernel_rfl) (fun _ _ _ h => h) rfl (fun x hx => by obtain ⟨y0, y1, y2, y3, y4⟩ := hBc.out x (HUe.out.trans hx); go_simp; rfl) ?_
                go_simp
                refine sched_take 2 rfl (by kernel_rfl) (by kernel_rfl) (by kernel_rfl) (fun _ _ _ h => h) rfl (fun x hx => by go_simp; rfl) ?_
                go_simp
                refine sched_alone 3 (by kernel_rfl) rfl rfl ?_
                go_simp
                refine (hlen.out _ HVe.out).mono ?_
                rintro e w7 ⟨rfl, hu⟩
                refine ⟨hu, ?_⟩
                have HV7 := Lib.hid (HVe.out.trans hu)
                clear hu
                go_simp
                refine sched_take 4 rfl (by kernel_rfl) (by kernel_rfl) (by kernel_rfl) (fun _ _ _ h => h) rfl (fun x hx => by go_simp; rfl) ?_
                go_simp
                refine sched_alone 5 (by kernel_rfl) rfl rfl ?_
                go_simp
                refine (hmp.out _).mono ?_
                rintro e w8 ⟨rfl, hu⟩
                refine ⟨hu, ?_⟩
                have HV8 := Lib.hid (HV7.out.trans hu)
                clear hu
                go_simp
                refine sched_take 6 rfl (by kernel_rfl) (by kernel_rfl) (by kernel_rfl) (fun _ _ _ h => h) rfl (fun x hx => by go_simp; rfl) ?_
                go_simp
                refine sched_done (by kernel_rfl) ?_
                obtain ⟨y0, y1, y2, y3, y4⟩ := hBc.out _ (HU2.out.trans HV8.out)
                by_cases hil : i = ld
                · have hne1 : ((i : Int) == (ld : Int)) = true := by simp [hil]
                  have hne2 : ((i : Int) != (ld : Int)) = false := by simp [hil]
                  clear hil
                  go_wp2_with fail
                  refine (hma2.out _).mono ?_
                  rintro e w9 ⟨rfl, hu⟩
                  have HV9 := Lib.hid (HV8.out.trans hu)
                  clear hu
                  have HM9 := Lib.hid (M6.out.keep HV9.out).next
                  go_wp2_with fail
                  go_meet
                  exact ⟨rfl, ld, E, sq, V, L, rfl, rfl, rfl, HM9⟩
                · have hne1 : ((i : Int) == (ld : Int)) = false := by simp; omega
                  have hne2 : ((i : Int) != (ld : Int)) = true := by simp; omega
                  have HNE := Lib.hid hil
                  clear hil
                  go_wp2_with fail
                  refine (hma2.out _).mono ?_
                  rintro e w9 ⟨rfl, hu⟩
                  have HV9 := Lib.hid (HV8.out.trans hu)
                  clear hu y0 y1 y2 y3 y4
                  have hepc := Lib.hid (fun x (hx : Upd NoB w6 x) => epoch_any wz _ (P j) (L j) a x ((M6.out.keep hx).log j hj) (by have := M6.out.len j; have := hk40'.out; omega))
                  obtain ⟨m5, hm5, em⟩ : ∃ m : Nat, m < 5 ∧ modI mo 5 = m := ⟨(modI mo 5).toNat, by have := modI_lt (k := mo) (n := 5) (by decide); omega, by have := modI_lt (k := mo) (n := 5) (by decide); omega⟩
                  have hmo := Lib.hid (fun x => mod_any mo 5 x (by decide) (by decide))
                  rw [em] at hmo
                  have hwm : IntKind.i64.wrap (1 + m5) = 1 + m5 := by simp only [IntKind.wrap_i64]; omega
                  have hfrm := Lib.hid (fun x (hx : Upd NoB w6 x) => from_any wz _ (P j) (L j) a (1 + m5) x ((M6.out.keep hx).log j hj) (by have := M6.out.len j; have := hk40'.out; omega))
                  have htk := Lib.hid (fun v x y (hx : Upd NoB w6 x) (hu : Upd NoB x y) ho hv => (M6.out.keep hx).take (by have := hk40'.out; omega) i j hi hj HNE.out a (1 + m5) HA.out v y hu ho hv)
                  clear em hm5
                  go_wp2_with fail
                  refine sched2_begin NoB (fun _ => True) [12] (by kernel_rfl) ?_
                  have HVd := Lib.hid (HV9.out.drew)
                  refine sched2_take 0 rfl (by kernel_rfl) (by kernel_rfl) (by kernel_rfl) (by kernel_rfl) (by kernel_rfl) (fun _ _ _ h => h) (.inl ⟨rfl, fun x hx => by go_simp; rfl⟩) ?_
                  go_simp
                  refine sched2_take 1 rfl (by kernel_rfl) (by kernel_rfl) (by kernel_rfl) (by kernel_rfl) (by kernel_rfl) (fun _ _ _ h => h) (.inl ⟨rfl, fun x hx => by go_simp; rfl⟩) ?_
                  go_simp
                  refine sched2_take 2 rfl (by kernel_rfl) (by kernel_rfl) (by kernel_rfl) (by kernel_rfl) (by kernel_rfl) (fun _ _ _ h => h) (.inl ⟨rfl, fun x hx => by go_simp; rfl⟩) ?_
                  go_simp
                  refine sched2_take 3 rfl (by kernel_rfl) (by kernel_rfl) (by kernel_rfl) (by kernel_rfl) (by kernel_rfl) (fun _ _ _ h => h) (.inl ⟨rfl, fun x hx => by go_simp; rfl⟩) ?_
                  go_simp
                  refine sched2_take 5 rfl (by kernel_rfl) (by kernel_rfl) (by kernel_rfl) (by kernel_rfl) (by kernel_rfl) (fun _ _ _ h => h) (.inl ⟨rfl, fun x hx => by go_simp; rfl⟩) ?_
                  go_simp
                  refine sched2_take 6 rfl (by kernel_rfl) (by kernel_rfl) (by kernel_rfl) (by kernel_rfl) (by kernel_rfl) (fun _ _ _ h => h) (.inl ⟨rfl, fun x hx => by go_simp; rfl⟩) ?_
                  go_simp
                  refine sched2_take 7 rfl (by kernel_rfl) (by kernel_rfl) (by kernel_rfl) (by kernel_rfl) (by kernel_rfl) (fun _ _ _ h => h) (.inl ⟨rfl, fun x hx => by go_simp; rfl⟩) ?_
                  go_simp
                  refine sched2_take 8 rfl (by kernel_rfl) (by kernel_rfl) (by kernel_rfl) (by kernel_rfl) (by kernel_rfl) (fun _ _ _ h => h) (.inl ⟨rfl, fun x hx => by obtain ⟨y0, y1, y2, y3, y4⟩ := hBc.out x (HU2.out.trans (HVd.out.trans hx)); go_simp; rfl⟩) ?_
                  go_simp
                  refine sched2_alone 4 (by kernel_rfl) rfl rfl ?_
                  go_simp
                  refine (hepc.out _ HVd.out).mono ?_
                  rintro e w10 ⟨rfl, hu⟩
                  refine ⟨both hu (fun _ _ => trivial), ?_⟩
                  have HV10 := Lib.hid (HVd.out.trans hu)
                  clear hu
                  go_simp
                  refine sched2_alone 9 (by kernel_rfl) rfl rfl ?_
                  go_simp
                  refine (hmo.out _).mono ?_
                  rintro e w11 ⟨rfl, hu⟩
                  refine ⟨both hu (fun _ _ => trivial), ?_⟩
                  have HV11 := Lib.hid (HV10.out.trans hu)
                  clear hu
                  go_simp
                  refine sched2_take 10 rfl (by kernel_rfl) (by kernel_rfl) (by kernel_rfl) (by kernel_rfl) (by kernel_rfl) (fun _ _ _ h => h) (.inl ⟨rfl, fun x hx => by go_simp; rfl⟩) ?_
                  go_simp
                  refine sched2_alone 11 (by kernel_rfl) rfl rfl ?_
                  go_simp
                  refine (hfrm.out _ HV11.out).mono ?_
                  rintro e w12 ⟨v', rfl, hMi⟩
                  refine ⟨both hMi.2 (fun _ _ => trivial), ?_⟩
                  have hSf := Mine.self hMi
                  have htk2 := Lib.hid (htk.out v' w11 w12 HV11.out hMi.2 hSf.1 hSf.2)
                  clear hMi hSf
                  go_simp
                  refine sched2_alone 12 (by kernel_rfl) rfl rfl ?_
                  go_simp
                  refine htk2.out.mono ?_
                  rintro e w13 ⟨rfl, ⟨V', L', hM'⟩, hu⟩
                  refine ⟨⟨hu.mono (fun _ _ _ => trivial), fun hn => ?_⟩, ?_⟩
                  · have := hn 12 (by simp)
                    simp at this
                  have HM13 := Lib.hid hM'
                  clear hM' hu
                  go_simp
                  refine sched2_done (by kernel_rfl) ?_
                  go_wp2_with fail
                  go_meet
                  exact ⟨rfl, ld, E, sq, V', L', rfl, rfl, rfl, HM13⟩
            · have n2 : (kd == 2) = false := by simp; omega
              have n3 : (kd == 3) = false := by simp; omega
              have n4 : (kd == 4) = false := by simp; omega
              clear hk2
              by_cases hk5 : kd = 5
              · subst hk5
                clear n0 n1 n2 n3 n4
                have hE1 : IntKind.u64.wrap (E + 1) = E + 1 := by
                  have := M6.out.e0; have := M6.out.e1; rw [IntKind.wrap_u64]; omega
                obtain ⟨y0, y1, y2, y3, y4⟩ := hBc.out _ HU2.out
                go_wp2_with fail
                refine (hma2.out _).mono ?_
                rintro e w7 ⟨rfl, hu⟩
                have HM7 := Lib.hid ((M6.out.keep hu).epoch i hi)
                clear hu
                go_wp2_with fail
                go_meet
                exact ⟨rfl, i, E + 1, sq, V, L, rfl, rfl, rfl, HM7⟩
              · have n5 : (kd == 5) = false := by simp [hk5]
                clear hk5
                go_wp2_with fail
                go_meet
                exact ⟨rfl, ld, E, sq, V, L, rfl, rfl, rfl, Lib.hid M6.out.next⟩
        case rest =>
          obtain ⟨rfl, ld', E', sq', V', L', rfl, rfl, rfl, hM'⟩ := hcut
          have hk41 := hk40'.out
          clear hBc hMa HI HJ HU2 M6 hma2 HUd HU1
          go_wp2_with fail
          go_loopw [12] (fun x12 wy => ∃ x : Nat, x ≤ 3 ∧ x12 = .int .i64 x ∧ Hid (Mst wz wy P (k + 1) ld' E' sq' V' L')) (fun x12 _ => 3 - (intOf x12).toNat)
          case atStart => exact ⟨0, by omega, rfl, hM'⟩
          case round =>
            clear hM'
            obtain ⟨x, hx3, rfl, hMx⟩ := hrel
            by_cases hxl : x < 3
            · have dx : decide (x < 3) = true := decide_eq_true hxl
              have dxi : (x : Int) < 3 := by omega
              go_wp2_with fail
              go_loopw [13] (fun x13 wv => ∃ y : Nat, y ≤ x ∧ x13 = .int .i64 y ∧ Hid (Mst wz wv P (k + 1) ld' E' sq' V' L')) (fun x13 _ => x - (intOf x13).toNat)
              case atStart => exact ⟨0, by omega, rfl, hMx⟩
              case round =>
                clear hMx
                obtain ⟨y, hyx, rfl, hMy⟩ := hrel
                by_cases hyl : y < x
                · have dy : decide (y < x) = true := decide_eq_true hyl
                  have dyi : (y : Int) < 3 := by omega
                  have hmt := Lib.hid (fun z (hz : Upd NoB _ z) => (hMy.out.keep hz).matched (by omega) x y hxl (by omega))
                  have HXc := Lib.hid (fun z (hz : Upd NoB _ z) => HC.out z (hMy.out.keep hz).upd x hxl)
                  have HYc := Lib.hid (fun z (hz : Upd NoB _ z) => HC.out z (hMy.out.keep hz).upd y (by omega))
                  go_wp2_with fail
                  refine sched_begin NoB (by kernel_rfl) ?_
                  have HVd := Lib.hid (Upd.refl NoB wr).drew
                  refine sched_take 0 rfl (by kernel_rfl) (by kernel_rfl) (by kernel_rfl) (fun _ _ _ h => h) rfl (fun x hx => by go_simp; rfl) ?_
                  go_simp
                  refine sched_take 1 rfl (by kernel_rfl) (by kernel_rfl) (by kernel_rfl) (fun _ _ _ h => h) rfl (fun x hx => by go_simp; rfl) ?_
                  go_simp
                  refine sched_take 2 rfl (by kernel_rfl) (by kernel_rfl) (by kernel_rfl) (fun _ _ _ h => h) rfl (fun x hx => by go_simp; rfl) ?_
                  go_simp
                  refine sched_take 3 rfl (by kernel_rfl) (by kernel_rfl) (by kernel_rfl) (fun _ _ _ h => h) rfl (fun x hx => by have yy := HXc.out x (HVd.out.trans hx); go_simp; rfl) ?_
                  go_simp
                  refine sched_take 4 rfl (by kernel_rfl) (by kernel_rfl) (by kernel_rfl) (fun _ _ _ h => h) rfl (fun x hx => by go_simp; rfl) ?_
                  go_simp
                  refine sched_take 5 rfl (by kernel_rfl) (by kernel_rfl) (by kernel_rfl) (fun _ _ _ h => h) rfl (fun x hx => by go_simp; rfl) ?_
                  go_simp
                  refine sched_take 6 rfl (by kernel_rfl) (by kernel_rfl) (by kernel_rfl) (fun _ _ _ h => h) rfl (fun x hx => by go_simp; rfl) ?_
                  go_simp
                  refine sched_take 7 rfl (by kernel_rfl) (by kernel_rfl) (by kernel_rfl) (fun _ _ _ h => h) rfl (fun x hx => by have yy := HYc.out x (HVd.out.trans hx); go_simp; rfl) ?_
                  go_simp
                  refine sched_alone 8 (by kernel_rfl) rfl rfl ?_
                  go_simp
                  refine (hmt.out _ HVd.out).mono ?_
                  rintro e wu ⟨rfl, hu⟩
                  refine ⟨hu, ?_⟩
                  have hMu := Lib.hid (hMy.out.keep (HVd.out.trans hu))
                  clear hu
                  go_simp
                  refine sched_take 9 rfl (by kernel_rfl) (by kernel_rfl) (by kernel_rfl) (fun _ _ _ h => h) rfl (fun x hx => by go_simp; rfl) ?_
                  go_simp
                  refine sched_done (by kernel_rfl) ?_
                  go_wp2_with fail
                  go_roundw
                  case measure => simp [intOf]; omega
                  case rel => exact ⟨y + 1, by omega, by go_num, hMu⟩
                · have dy : decide (y < x) = false := decide_eq_false hyl
                  go_wp2_with fail
                  go_roundw
                  case measure => simp [intOf]; omega
                  case rel =>
                    first
                    | exact ⟨x + 1, by omega, by go_num, hMy⟩
                    | ((repeat apply Exists.intro)
                       refine ⟨⟨x + 1, by omega, ?_, hMy⟩, rfl⟩
                       go_num)
            · have dx : decide (x < 3) = false := decide_eq_false hxl
              have dxi : ¬ (x : Int) < 3 := by omega
              go_wp2_with fail
              go_roundw
              case measure => simp [intOf]; omega
              case rel =>
                first
                | exact ⟨k + 1, by omega, by omega, by go_num, ld', E', sq', V', L', rfl, rfl, rfl, hMx⟩
                | ((repeat apply Exists.intro)
                   refine ⟨⟨k + 1, by omega, by omega, ?_, ld', E', sq', V', L', rfl, rfl, rfl, hMx⟩, rfl⟩
                   go_num)
    · obtain rfl : k = ms.length := by omega
      go_wp2_with fail
      refine (linksAwake_any _).mono ?_
      rintro e w99 ⟨rfl, hu⟩
      have HU99 := Lib.hid ((HW.out _ hM.out.upd).trans hu)
      clear hu
      go_wp2_with fail
      go_ret
      exact ⟨rfl, HU99.out⟩
end Go.Proofs.Ytobfolkcpfaplaa
