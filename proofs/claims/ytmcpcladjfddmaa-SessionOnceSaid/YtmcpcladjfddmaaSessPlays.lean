/- Whatever is opened and done, a table answers, and has, what the chapter says (SessionPlays): the law's walk. -/
import Derived.Test.YtmcpcladjfddmaaSessS
namespace Go.Proofs.Ytmcpcladjfddmaa
open Go.RowKit Kit
set_option linter.unusedVariables false

set_option maxHeartbeats 16000000 in
set_option maxRecDepth 100000 in
theorem sessionPlays_walk (v : Value) (ops : List Sop) (ic iq : Int) (w : World) (h : RSl Rep.sop w (Old w) v ops) (hic : (Lit.int .i64 ic).wf = true) :
    Calls Try.prog 7 #[v, .agg #[.int .i64 ic, .int .u64 iq]] w fun e w' => e = .returned (.bool true) ∧ Upd NoB w w' := by
  have HX := Lib.hid h
  obtain ⟨A, cc, _, rfl, d1, d2, _⟩ := h
  have d2' : cc ≤ 9223372036854775807 := d2
  obtain ⟨wb, hwb⟩ : ∃ wb, w.alloc (.cells #[.int .i64 ic, .int .u64 iq] 47) = wb := ⟨_, rfl⟩
  have hub : Upd NoB w wb := by rw [← hwb]; exact (Upd.refl _ _).alloc _
  have hBi := Lib.hid (show wb.heap[w.heap.size]? = some (.cells #[.int .i64 ic, .int .u64 iq] 47 (0, 0)) by rw [← hwb]; exact heap_alloc_new _ _)
  have HUb := Lib.hid hub
  have hbl := lt_of_heap hBi.out
  clear hub
  go_enter Try.func7, Try.ntmps7
  go_wp2_with fail
  refine (newtable_any _).mono ?_
  rintro e w1 ⟨p, b, rfl, hp, hb, hT, hu⟩
  obtain ⟨hpl, hbl1⟩ := hT.lt
  have u2 := (Upd.refl NoB w1).alloc (.cells #[.slice none 0 0] 53)
  have HT0 := Lib.hid (hT.keep u2 (fun h => h) (fun h => h))
  have HV0 := Lib.hid (hu.trans u2)
  have hqz := hu.size
  have HR0 := Lib.hid (show RSt wb (w1.alloc (.cells #[.slice none 0 0] 53)) [p, b, w1.heap.size] w1.heap.size [] from ⟨_, heap_alloc_new _ _, OSl.nil _ _ _⟩)
  clear hT hu u2
  go_wp2_with fail
  generalize hq : w1.heap.size = q at *
  generalize w1.alloc (.cells #[.slice none 0 0] 53) = w2 at *
  clear hq
  go_loopw [7, 8, 14] (fun x7 x8 i wr => ∃ k : Nat, k ≤ ops.length ∧ k ≤ 30 ∧ i = .int .i64 k ∧ ∃ (m : Tab) (L : List Srw), m.n ≤ k ∧ L.length ≤ k ∧ Hid (Tbl wr p b m) ∧ Hid (RSt wb wr [p, b, q] q L) ∧ Hid (Alike m L) ∧ Hid (Upd NoB wb wr)) (fun _ _ i _ => ops.length - (intOf i).toNat)
  case atStart => exact ⟨0, by omega, by omega, rfl, Tab.new, [], by simp [Tab.new], by simp, HT0, HR0, Lib.hid alike_new, HV0⟩
  case round =>
    obtain ⟨k, hk, hk30, rfl, m, L, hmn, hLl, hT, hR, hS, hV⟩ := hrel
    have hU := Lib.hid (HUb.out.trans hV.out)
    by_cases hlt : k < ops.length
    · obtain ⟨g, o, rcs, rfl, hrep, hcell, hg⟩ := HX.out.cellN k hlt
      obtain ⟨hr1, hwc, hwq, _⟩ := hrep
      subst hr1
      have c0 : wr.cell? ⟨g, o + k * 6, none⟩ = some (.int .i64 ops[k].kd) := hU.out.cell (hcell 0 _ rfl) (fun h => h)
      have c1 : wr.cell? ⟨g, o + k * 6 + 1, none⟩ = some (.int .i64 ops[k].cl) := hU.out.cell (hcell 1 _ rfl) (fun h => h)
      have c2 : wr.cell? ⟨g, o + k * 6 + 2, none⟩ = some (.int .u64 ops[k].sq) := hU.out.cell (hcell 2 _ rfl) (fun h => h)
      have c3 : wr.cell? ⟨g, o + k * 6 + 3, none⟩ = some (.int .i64 ops[k].a) := hU.out.cell (hcell 3 _ rfl) (fun h => h)
      have c4 : wr.cell? ⟨g, o + k * 6 + 4, none⟩ = some (.int .i64 ops[k].code) := hU.out.cell (hcell 4 _ rfl) (fun h => h)
      have c5 : wr.cell? ⟨g, o + k * 6 + 5, none⟩ = some (.int .u64 ops[k].num) := hU.out.cell (hcell 5 _ rfl) (fun h => h)
      generalize ops[k] = y at *
      obtain ⟨kd, c, sq, a, code, num⟩ := y
      simp only at c0 c1 c2 c3 c4 c5 hwc hwq
      have hsq : 0 ≤ sq := by simp [Lit.wf, IntKind.min, IntKind.max, IntKind.signed, IntKind.bits] at hwq; omega
      clear hcell
      by_cases h30 : 30 ≤ k
      · have hI30 : (30 : Int) ≤ (k : Int) := by omega
        have hd30 : decide ((30 : Int) ≤ (k : Int)) = true := decide_eq_true hI30
        clear h30
        go_wp2_with fail
        refine (sessAwake_any _).mono ?_
        rintro e w99 ⟨rfl, hu⟩
        have HU99 := Lib.hid ((hU.out.alloc _).trans hu)
        clear hu
        go_wp2_with fail
        go_ret
        exact ⟨rfl, HU99.out⟩
      · have hI30 : ¬ (30 : Int) ≤ (k : Int) := by omega
        have hd30 : decide ((30 : Int) ≤ (k : Int)) = false := decide_eq_false hI30
        obtain ⟨wa, hwa⟩ : ∃ wa, wr.alloc (.cells #[.int .i64 kd, .int .i64 c, .int .u64 sq, .int .i64 a, .int .i64 code, .int .u64 num] 55) = wa := ⟨_, rfl⟩
        have hua : Upd NoB wr wa := by rw [← hwa]; exact (Upd.refl _ _).alloc _
        have hTl := hT.out.lt
        have hRl := hR.out.lt
        have hwsz := hU.out.size
        have hvsz := hV.out.size
        obtain ⟨b0, hb0⟩ : ∃ b0, wr.heap.size = b0 := ⟨_, rfl⟩
        have hB := Lib.hid (show wa.heap[b0]? = some (.cells #[.int .i64 kd, .int .i64 c, .int .u64 sq, .int .i64 a, .int .i64 code, .int .u64 num] 55 (0, 0)) by rw [← hwa, ← hb0]; exact heap_alloc_new _ _)
        have hb0l := lt_of_heap hB.out
        have hRa := hR.out.out (.cells #[.int .i64 kd, .int .i64 c, .int .u64 sq, .int .i64 a, .int .i64 code, .int .u64 num] 55)
        rw [hwa, hb0] at hRa
        have HTd := Lib.hid ((hT.out.keep hua (fun h => h) (fun h => h)).keep (Upd.refl NoB wa).drew (fun h => h) (fun h => h))
        have HRd := Lib.hid (hRa.keep (Upd.refl NoB wa).drew (fun h => h) (fun _ h => h.elim))
        have HVd := Lib.hid ((hV.out.trans hua).trans (Upd.refl NoB wa).drew)
        have hFd := Lib.hid (fun x (hx : Upd (fun y => y ≠ b0 ∧ y ≠ w.heap.size) wa.drew x) => (⟨six_cells (hx.heap (show wa.drew.heap[b0]? = _ from hB.out) (fun h => h.1 rfl)), two_cells (hx.heap (HVd.out.heap hBi.out (fun h => h)) (fun h => h.2 rfl))⟩ : _ ∧ _))
        have hdz : wa.drew.heap.size = wa.heap.size := rfl
        have hgood := step_alike hS.out kd c sq a code num
        have hn1 := stepT_n kd c sq a code num m
        have hl1 := stepR_len kd c sq a code num m L
        have hst := fun (x : World) (h1 : Tbl x p b m) (h2 : RSt wb x [b0, p, b, q] q L) (hx : ∀ y ∈ [b0, p, b, q], y < x.heap.size) (hz : wb.heap.size ≤ x.heap.size) => sstep_any wb [b0, p, b, q] p b q m L kd c sq a code num x h1 h2 hS.out (by simp) (by simp) (by simp) hx hz (by omega) (by omega) hwc hsq
        generalize stepT kd c sq a code num m = m2 at *
        generalize stepR kd c sq a code num m L = L2 at *
        have HST := Lib.hid hst
        have HS2 := Lib.hid hgood
        have hli := Lib.hid (fun cc x (hc : (Lit.int .i64 cc).wf = true) (h1 : Tbl x p b m2) (h2 : RSt wb x [b0, p, b, q] q L2) => like_any wb [b0, p, b, q] p b q m2 L2 cc x h1 h2 hgood hc)
        have hho := Lib.hid (fun x (h1 : Tbl x p b m2) => how_any p b m2 ic iq x h1 hic)
        have hrh := Lib.hid (fun x (h2 : RSt wb x [b0, p, b, q] q L2) => by
          have := rhow_any wb [b0, p, b, q] q L2 ic iq x h2
          rw [← hgood.f, ← how_eq] at this
          exact this)
        have hle := Lib.hid (fun x (h1 : Tbl x p b m2) => tlen_any p b m2 x h1)
        have hrl := Lib.hid (fun x (h2 : RSt wb x [b0, p, b, q] q L2) => by
          have := slen_any wb [b0, p, b, q] q L2 x h2 (by omega)
          rw [← hgood.n] at this
          exact this)
        generalize m2.how ic iq = Ho at *
        clear hst hgood hua h30 hRa
        go_wp2_with fail
        refine sched_begin (fun y => y ≠ b0 ∧ y ≠ w.heap.size) (by kernel_rfl) ?_
        generalize wa.drew = wd at *
        refine sched_take 0 rfl (by kernel_rfl) (by kernel_rfl) (by kernel_rfl) (fun _ _ _ h => h) rfl (fun x hx => by go_simp; rfl) ?_
        go_simp
        refine sched_take 1 rfl (by kernel_rfl) (by kernel_rfl) (by kernel_rfl) (fun _ _ _ h => h) rfl (fun x hx => by go_simp; rfl) ?_
        go_simp
        refine sched_take 2 rfl (by kernel_rfl) (by kernel_rfl) (by kernel_rfl) (fun _ _ _ h => h) rfl (fun x hx => by obtain ⟨⟨x0, x1, x2, x3, x4, x5⟩, z0, z1⟩ := hFd.out _ hx; go_simp; rfl) ?_
        go_simp
        refine sched_alone 3 (by kernel_rfl) rfl rfl ?_
        go_simp
        refine (HST.out _ HTd.out HRd.out (by intro x hx; simp at hx; omega) (by omega)).mono ?_
        rintro e w3 ⟨rfl, hT3, hR3, hu⟩
        have hnF : ∀ y, (y = b ∨ y = q ∨ New wb wd [b0, p, b, q] y) → y ≠ b0 ∧ y ≠ w.heap.size ∧ wb.heap.size ≤ y := by
          intro y e
          rcases e with e | e | e
          · omega
          · omega
          · exact ⟨fun h => e.2.2 (by rw [h]; simp), by have := e.1; omega, e.1⟩
        refine ⟨hu.mono (fun y _ hy => ⟨(hnF y hy).1, (hnF y hy).2.1⟩), ?_⟩
        have HT3 := Lib.hid hT3
        have HR3 := Lib.hid hR3
        have HV3 := Lib.hid (HVd.out.then hu (fun y hy e => by have := (hnF y e).2.2; omega))
        have hF3 := Lib.hid (fun x (hx : Upd (fun y => y ≠ b0 ∧ y ≠ w.heap.size) w3 x) => hFd.out x ((hu.mono (G := fun y => y ≠ b0 ∧ y ≠ w.heap.size) (fun y _ hy => ⟨(hnF y hy).1, (hnF y hy).2.1⟩)).trans hx))
        clear hT3 hR3 hu hnF
        go_simp
        refine sched_take 4 rfl (by kernel_rfl) (by kernel_rfl) (by kernel_rfl) (fun _ _ _ h => h) rfl (fun x hx => by go_simp; rfl) ?_
        go_simp
        refine sched_take 5 rfl (by kernel_rfl) (by kernel_rfl) (by kernel_rfl) (fun _ _ _ h => h) rfl (fun x hx => by go_simp; rfl) ?_
        go_simp
        refine sched_take 6 rfl (by kernel_rfl) (by kernel_rfl) (by kernel_rfl) (fun _ _ _ h => h) rfl (fun x hx => by go_simp; rfl) ?_
        go_simp
        refine sched_take 7 rfl (by kernel_rfl) (by kernel_rfl) (by kernel_rfl) (fun _ _ _ h => h) rfl (fun x hx => by go_simp; rfl) ?_
        go_simp
        refine sched_take 8 rfl (by kernel_rfl) (by kernel_rfl) (by kernel_rfl) (fun _ _ _ h => h) rfl (fun x hx => by go_simp; rfl) ?_
        go_simp
        refine sched_take 9 rfl (by kernel_rfl) (by kernel_rfl) (by kernel_rfl) (fun _ _ _ h => h) rfl (fun x hx => by go_simp; rfl) ?_
        go_simp
        refine sched_take 10 rfl (by kernel_rfl) (by kernel_rfl) (by kernel_rfl) (fun _ _ _ h => h) rfl (fun x hx => by obtain ⟨⟨x0, x1, x2, x3, x4, x5⟩, z0, z1⟩ := hF3.out _ hx; go_simp; rfl) ?_
        go_simp
        refine sched_alone 11 (by kernel_rfl) rfl rfl ?_
        go_simp
        refine (hli.out c _ hwc HT3.out HR3.out).mono ?_
        rintro e w4 ⟨rfl, hu⟩
        refine ⟨hu.mono (fun _ _ h => h.elim), ?_⟩
        have HT4 := Lib.hid (HT3.out.keep hu (fun h => h) (fun h => h))
        have HR4 := Lib.hid (HR3.out.keep hu (fun h => h) (fun _ h => h.elim))
        have HV4 := Lib.hid (HV3.out.trans hu)
        have hF4 := Lib.hid (fun x (hx : Upd (fun y => y ≠ b0 ∧ y ≠ w.heap.size) w4 x) => hF3.out x ((hu.mono (fun _ _ h => h.elim)).trans hx))
        clear hu
        go_simp
        refine sched_take 12 rfl (by kernel_rfl) (by kernel_rfl) (by kernel_rfl) (fun _ _ _ h => h) rfl (fun x hx => by go_simp; rfl) ?_
        go_simp
        refine sched_take 13 rfl (by kernel_rfl) (by kernel_rfl) (by kernel_rfl) (fun _ _ _ h => h) rfl (fun x hx => by go_simp; rfl) ?_
        go_simp
        refine sched_take 14 rfl (by kernel_rfl) (by kernel_rfl) (by kernel_rfl) (fun _ _ _ h => h) rfl (fun x hx => by go_simp; rfl) ?_
        go_simp
        refine sched_take 15 rfl (by kernel_rfl) (by kernel_rfl) (by kernel_rfl) (fun _ _ _ h => h) rfl (fun x hx => by go_simp; rfl) ?_
        go_simp
        refine sched_take 16 rfl (by kernel_rfl) (by kernel_rfl) (by kernel_rfl) (fun _ _ _ h => h) rfl (fun x hx => by go_simp; rfl) ?_
        go_simp
        refine sched_take 17 rfl (by kernel_rfl) (by kernel_rfl) (by kernel_rfl) (fun _ _ _ h => h) rfl (fun x hx => by go_simp; rfl) ?_
        go_simp
        refine sched_take 18 rfl (by kernel_rfl) (by kernel_rfl) (by kernel_rfl) (fun _ _ _ h => h) rfl (fun x hx => by obtain ⟨⟨x0, x1, x2, x3, x4, x5⟩, z0, z1⟩ := hF4.out _ hx; go_simp; rfl) ?_
        go_simp
        refine sched_alone 19 (by kernel_rfl) rfl rfl ?_
        go_simp
        refine (hli.out ic _ hic HT4.out HR4.out).mono ?_
        rintro e w5 ⟨rfl, hu⟩
        refine ⟨hu.mono (fun _ _ h => h.elim), ?_⟩
        have HT5 := Lib.hid (HT4.out.keep hu (fun h => h) (fun h => h))
        have HR5 := Lib.hid (HR4.out.keep hu (fun h => h) (fun _ h => h.elim))
        have HV5 := Lib.hid (HV4.out.trans hu)
        have hF5 := Lib.hid (fun x (hx : Upd (fun y => y ≠ b0 ∧ y ≠ w.heap.size) w5 x) => hF4.out x ((hu.mono (fun _ _ h => h.elim)).trans hx))
        clear hu
        go_simp
        refine sched_take 20 rfl (by kernel_rfl) (by kernel_rfl) (by kernel_rfl) (fun _ _ _ h => h) rfl (fun x hx => by go_simp; rfl) ?_
        go_simp
        refine sched_take 21 rfl (by kernel_rfl) (by kernel_rfl) (by kernel_rfl) (fun _ _ _ h => h) rfl (fun x hx => by go_simp; rfl) ?_
        go_simp
        refine sched_take 22 rfl (by kernel_rfl) (by kernel_rfl) (by kernel_rfl) (fun _ _ _ h => h) rfl (fun x hx => by go_simp; rfl) ?_
        go_simp
        refine sched_take 23 rfl (by kernel_rfl) (by kernel_rfl) (by kernel_rfl) (fun _ _ _ h => h) rfl (fun x hx => by go_simp; rfl) ?_
        go_simp
        refine sched_take 24 rfl (by kernel_rfl) (by kernel_rfl) (by kernel_rfl) (fun _ _ _ h => h) rfl (fun x hx => by obtain ⟨⟨x0, x1, x2, x3, x4, x5⟩, z0, z1⟩ := hF5.out _ hx; go_simp; rfl) ?_
        go_simp
        refine sched_take 26 rfl (by kernel_rfl) (by kernel_rfl) (by kernel_rfl) (fun _ _ _ h => h) rfl (fun x hx => by go_simp; rfl) ?_
        go_simp
        refine sched_take 27 rfl (by kernel_rfl) (by kernel_rfl) (by kernel_rfl) (fun _ _ _ h => h) rfl (fun x hx => by obtain ⟨⟨x0, x1, x2, x3, x4, x5⟩, z0, z1⟩ := hF5.out _ hx; go_simp; rfl) ?_
        go_simp
        refine sched_alone 25 (by kernel_rfl) rfl rfl ?_
        go_simp
        refine (hho.out _ HT5.out).mono ?_
        rintro e w6 ⟨rfl, hu⟩
        refine ⟨hu.mono (fun _ _ h => h.elim), ?_⟩
        have HT6 := Lib.hid (HT5.out.keep hu (fun h => h) (fun h => h))
        have HR6 := Lib.hid (HR5.out.keep hu (fun h => h) (fun _ h => h.elim))
        have HV6 := Lib.hid (HV5.out.trans hu)
        have hF6 := Lib.hid (fun x (hx : Upd (fun y => y ≠ b0 ∧ y ≠ w.heap.size) w6 x) => hF5.out x ((hu.mono (fun _ _ h => h.elim)).trans hx))
        clear hu
        go_simp
        refine sched_alone 28 (by kernel_rfl) rfl rfl ?_
        go_simp
        refine (hrh.out _ HR6.out).mono ?_
        rintro e w7 ⟨rfl, hu⟩
        refine ⟨hu.mono (fun _ _ h => h.elim), ?_⟩
        have HT7 := Lib.hid (HT6.out.keep hu (fun h => h) (fun h => h))
        have HR7 := Lib.hid (HR6.out.keep hu (fun h => h) (fun _ h => h.elim))
        have HV7 := Lib.hid (HV6.out.trans hu)
        have hF7 := Lib.hid (fun x (hx : Upd (fun y => y ≠ b0 ∧ y ≠ w.heap.size) w7 x) => hF6.out x ((hu.mono (fun _ _ h => h.elim)).trans hx))
        clear hu
        go_simp
        refine sched_take 29 rfl (by kernel_rfl) (by kernel_rfl) (by kernel_rfl) (fun _ _ _ h => h) rfl (fun x hx => by go_simp; rfl) ?_
        go_simp
        refine sched_take 30 rfl (by kernel_rfl) (by kernel_rfl) (by kernel_rfl) (fun _ _ _ h => h) rfl (fun x hx => by go_simp; rfl) ?_
        go_simp
        refine sched_take 31 rfl (by kernel_rfl) (by kernel_rfl) (by kernel_rfl) (fun _ _ _ h => h) rfl (fun x hx => by go_simp; rfl) ?_
        go_simp
        refine sched_take 32 rfl (by kernel_rfl) (by kernel_rfl) (by kernel_rfl) (fun _ _ _ h => h) rfl (fun x hx => by go_simp; rfl) ?_
        go_simp
        refine sched_take 34 rfl (by kernel_rfl) (by kernel_rfl) (by kernel_rfl) (fun _ _ _ h => h) rfl (fun x hx => by go_simp; rfl) ?_
        go_simp
        refine sched_alone 33 (by kernel_rfl) rfl rfl ?_
        go_simp
        refine (hle.out _ HT7.out).mono ?_
        rintro e w8 ⟨rfl, hu⟩
        refine ⟨hu.mono (fun _ _ h => h.elim), ?_⟩
        have HT8 := Lib.hid (HT7.out.keep hu (fun h => h) (fun h => h))
        have HR8 := Lib.hid (HR7.out.keep hu (fun h => h) (fun _ h => h.elim))
        have HV8 := Lib.hid (HV7.out.trans hu)
        have hF8 := Lib.hid (fun x (hx : Upd (fun y => y ≠ b0 ∧ y ≠ w.heap.size) w8 x) => hF7.out x ((hu.mono (fun _ _ h => h.elim)).trans hx))
        clear hu
        go_simp
        refine sched_alone 35 (by kernel_rfl) rfl rfl ?_
        go_simp
        refine (hrl.out _ HR8.out).mono ?_
        rintro e w9 ⟨rfl, hu⟩
        refine ⟨hu.mono (fun _ _ h => h.elim), ?_⟩
        have HT9 := Lib.hid (HT8.out.keep hu (fun h => h) (fun h => h))
        have HR9 := Lib.hid (HR8.out.keep hu (fun h => h) (fun _ h => h.elim))
        have HV9 := Lib.hid (HV8.out.trans hu)
        have hF9 := Lib.hid (fun x (hx : Upd (fun y => y ≠ b0 ∧ y ≠ w.heap.size) w9 x) => hF8.out x ((hu.mono (fun _ _ h => h.elim)).trans hx))
        clear hu
        go_simp
        refine sched_take 36 rfl (by kernel_rfl) (by kernel_rfl) (by kernel_rfl) (fun _ _ _ h => h) rfl (fun x hx => by go_simp; rfl) ?_
        go_simp
        refine sched_take 37 rfl (by kernel_rfl) (by kernel_rfl) (by kernel_rfl) (fun _ _ _ h => h) rfl (fun x hx => by go_simp; rfl) ?_
        go_simp
        refine sched_done (by kernel_rfl) ?_
        have HRx := Lib.hid HR9.out.back
        go_wp2_with fail
        go_roundw
        case measure => simp [intOf]; omega
        case rel => exact ⟨k + 1, by omega, by omega, by go_num, m2, L2, by omega, by omega, HT9, HRx, HS2, HV9⟩
    · obtain rfl : k = ops.length := by omega
      go_wp2_with fail
      refine (sessAwake_any _).mono ?_
      rintro e w99 ⟨rfl, hu⟩
      have HU99 := Lib.hid (hU.out.trans hu)
      clear hu
      go_wp2_with fail
      go_ret
      exact ⟨rfl, HU99.out⟩
end Go.Proofs.Ytmcpcladjfddmaa
