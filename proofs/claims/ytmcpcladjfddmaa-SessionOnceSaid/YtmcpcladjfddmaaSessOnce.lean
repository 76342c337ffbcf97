/- What is done can't be done, or opened, again (SessionOnce): the law's walk. -/
import Derived.Test.YtmcpcladjfddmaaSessS
namespace Go.Proofs.Ytmcpcladjfddmaa
open Go.RowKit Kit
set_option linter.unusedVariables false

theorem once_law {m : Tab} {c q a code : Int} (h : m.may c q a true = 0) :
    ((m.put c ⟨q, false, a, code, 7⟩).get c = ⟨q, false, a, code, 7⟩ ∧ ((m.put c ⟨q, false, a, code, 7⟩).f c).isSome = true) ∧ (m.put c ⟨q, false, a, code, 7⟩).how c q = 1 ∧ ∀ e, (m.put c ⟨q, false, a, code, 7⟩).may c q a e = 7 := by
  have hr : ¬ rightID c q = false ∧ ¬ a < 1 := by
    unfold Tab.may at h
    split at h
    · cases h
    split at h
    · cases h
    · exact ⟨by assumption, by assumption⟩
  have hf : (m.put c ⟨q, false, a, code, 7⟩).f c = some ⟨q, false, a, code, 7⟩ := by simp [Tab.put]
  have hg : (m.put c ⟨q, false, a, code, 7⟩).get c = ⟨q, false, a, code, 7⟩ := by unfold Tab.get; rw [hf]; rfl
  have hh : (m.put c ⟨q, false, a, code, 7⟩).how c q = 1 := by
    unfold Tab.how
    rw [hf, hg]
    simp
  refine ⟨⟨hg, by rw [hf]; rfl⟩, hh, fun e => ?_⟩
  unfold Tab.may
  rw [if_neg hr.1, if_neg hr.2, hh, hg]
  simp
set_option maxHeartbeats 16000000 in
set_option maxRecDepth 100000 in
theorem sessionOnce_walk (v : Value) (ops : List Sop) (ic iq at_ code : Int) (w : World) (h : RSl Rep.sop w (Old w) v ops) (hic : (Lit.int .i64 ic).wf = true) :
    Calls Try.prog 9 #[v, .agg #[.int .i64 ic, .int .u64 iq], .int .i64 at_, .int .i64 code] w fun e w' => e = .returned (.bool true) ∧ Upd NoB w w' := by
  have HX := Lib.hid h
  obtain ⟨A, cc, _, rfl, d1, d2, _⟩ := h
  have d2' : cc ≤ 9223372036854775807 := d2
  generalize hcd : code = cd at *
  clear hcd
  obtain ⟨wb, hwb⟩ : ∃ wb, w.alloc (.cells #[.int .i64 ic, .int .u64 iq] 47) = wb := ⟨_, rfl⟩
  have hub : Upd NoB w wb := by rw [← hwb]; exact (Upd.refl _ _).alloc _
  have hBi := Lib.hid (show wb.heap[w.heap.size]? = some (.cells #[.int .i64 ic, .int .u64 iq] 47 (0, 0)) by rw [← hwb]; exact heap_alloc_new _ _)
  have HUb := Lib.hid hub
  have hbl := lt_of_heap hBi.out
  have hbi := Lib.hid (fun x (hx : Upd NoB wb x) => two_cells (hx.heap hBi.out (fun h => h)))
  clear hub
  go_enter Try.func9, Try.ntmps9
  go_wp2_with fail
  refine (newtable_any _).mono ?_
  rintro e w1 ⟨p, b, rfl, hp, hb, hT, hu⟩
  obtain ⟨hpl, hbl1⟩ := hT.lt
  have u2 := (Upd.refl NoB w1).alloc (.cells #[.slice none 0 0] 53)
  have HT0 := Lib.hid (hT.keep u2 (fun h => h) (fun h => h))
  have HV0 := Lib.hid (hu.trans u2)
  have hqz := hu.size
  have HR0 := Lib.hid (show RSt wb (w1.alloc (.cells #[.slice none 0 0] 53)) [p, b, w1.heap.size] w1.heap.size [] from ⟨_, heap_alloc_new _ _, OSl.nil _ _ _⟩)
  clear hT hu u2
  go_wp2_with fail
  generalize hq : w1.heap.size = q at *
  generalize w1.alloc (.cells #[.slice none 0 0] 53) = w2 at *
  clear hq
  go_loopw [11, 12, 20] (fun x11 x12 i wr => ∃ k : Nat, k ≤ ops.length ∧ i = .int .i64 k ∧ ∃ (m : Tab) (L : List Srw), m.n ≤ 15 ∧ L.length ≤ 15 ∧ m.n ≤ k ∧ L.length ≤ k ∧ Hid (Tbl wr p b m) ∧ Hid (RSt wb wr [p, b, q] q L) ∧ Hid (Alike m L) ∧ Hid (Upd NoB wb wr)) (fun _ _ i _ => ops.length - (intOf i).toNat)
  case atStart => exact ⟨0, by omega, rfl, Tab.new, [], by simp [Tab.new], by simp, by simp [Tab.new], by simp, HT0, HR0, Lib.hid alike_new, HV0⟩
  case round =>
    obtain ⟨k, hk, rfl, m, L, hmn, hLl, hmk, hLk, hT, hR, hS, hV⟩ := hrel
    have hU := Lib.hid (HUb.out.trans hV.out)
    by_cases hlt : k < ops.length
    · obtain ⟨g, o, rcs, rfl, hrep, hcell, hg⟩ := HX.out.cellN k hlt
      obtain ⟨hr1, hwc, hwq, _⟩ := hrep
      subst hr1
      have c0 : wr.cell? ⟨g, o + k * 6, none⟩ = some (.int .i64 ops[k].kd) := hU.out.cell (hcell 0 _ rfl) (fun h => h)
      have c1 : wr.cell? ⟨g, o + k * 6 + 1, none⟩ = some (.int .i64 ops[k].cl) := hU.out.cell (hcell 1 _ rfl) (fun h => h)
      have c2 : wr.cell? ⟨g, o + k * 6 + 2, none⟩ = some (.int .u64 ops[k].sq) := hU.out.cell (hcell 2 _ rfl) (fun h => h)
      have c3 : wr.cell? ⟨g, o + k * 6 + 3, none⟩ = some (.int .i64 ops[k].a) := hU.out.cell (hcell 3 _ rfl) (fun h => h)
      have c4 : wr.cell? ⟨g, o + k * 6 + 4, none⟩ = some (.int .i64 ops[k].code) := hU.out.cell (hcell 4 _ rfl) (fun h => h)
      have c5 : wr.cell? ⟨g, o + k * 6 + 5, none⟩ = some (.int .u64 ops[k].num) := hU.out.cell (hcell 5 _ rfl) (fun h => h)
      generalize ops[k] = y at *
      obtain ⟨kd, c, sq, a, code, num⟩ := y
      simp only at c0 c1 c2 c3 c4 c5 hwc hwq
      have hsq : 0 ≤ sq := by simp [Lit.wf, IntKind.min, IntKind.max, IntKind.signed, IntKind.bits] at hwq; omega
      clear hcell
      have hTl := hT.out.lt
      have hRl := hR.out.lt
      have hua := Lib.hid (fun o => (Upd.refl NoB wr).alloc o)
      by_cases h15 : k < 15
      · have hI15 : (k : Int) < 15 := by omega
        have hd15 : decide ((k : Int) < 15) = true := decide_eq_true hI15
        have hgood := step_alike hS.out kd c sq a code num
        have hn1 := stepT_n kd c sq a code num m
        have hl1 := stepR_len kd c sq a code num m L
        have hst := fun (o : Obj) => sstep_any wb [p, b, q] p b q m L kd c sq a code num (wr.alloc o) (hT.out.keep (hua.out o) (fun h => h) (fun h => h)) (hR.out.keep (hua.out o) (fun h => h) (fun _ h => h.elim)) hS.out (by simp) (by simp) (by simp) (by intro x hx; simp at hx; simp; omega) (by simp; have := hV.out.size; omega) (by omega) (by omega) hwc hsq
        generalize stepT kd c sq a code num m = m2 at *
        generalize stepR kd c sq a code num m L = L2 at *
        have HST := Lib.hid hst
        have HS2 := Lib.hid hgood
        clear hst hgood h15
        go_wp2_with fail
        refine (HST.out _).mono ?_
        rintro e w3 ⟨rfl, hT3, hR3, hu⟩
        have HT3 := Lib.hid hT3
        have HR3 := Lib.hid hR3
        have HV3 := Lib.hid ((hV.out.trans (hua.out _)).then hu (fun y hy e => by
          rcases e with e | e | e
          · omega
          · omega
          · have := e.1; omega))
        clear hT3 hR3 hu
        go_wp2_with fail
        go_roundw
        case measure => simp [intOf]; omega
        case rel => exact ⟨k + 1, by omega, by go_num, m2, L2, by omega, by omega, by omega, by omega, HT3, HR3, HS2, HV3⟩
      · have hI15 : ¬ (k : Int) < 15 := by omega
        have hd15 : decide ((k : Int) < 15) = false := decide_eq_false hI15
        have HTn := Lib.hid (fun o => hT.out.keep (hua.out o) (fun h => h) (fun h => h))
        have HRn := Lib.hid (fun o => hR.out.keep (hua.out o) (fun h => h) (fun _ h => h.elim))
        have HVn := Lib.hid (fun o => hV.out.trans (hua.out o))
        clear h15
        go_wp2_with fail
        go_roundw
        case measure => simp [intOf]; omega
        case rel => exact ⟨k + 1, by omega, by go_num, m, L, by omega, by omega, by omega, by omega, Lib.hid (HTn.out _), Lib.hid (HRn.out _), hS, Lib.hid (HVn.out _)⟩
    · obtain rfl : k = ops.length := by omega
      obtain ⟨i0, i1⟩ := hbi.out wr hV.out
      have hdn := show Calls Try.prog 33 #[.pointer (some ⟨p, 0, none⟩), .agg #[.int .i64 ic, .int .u64 iq], .int .i64 at_, .int .i64 cd, .int .u64 7] wr fun e w' => e = .returned (.int .i64 (m.may ic iq at_ true)) ∧ Tbl w' p b (if m.may ic iq at_ true = 0 then m.put ic ⟨iq, false, at_, cd, 7⟩ else m) ∧ Upd (fun y => y = b) wr w' from done_any p b m ic iq at_ cd 7 wr hT.out hic (by omega)
      by_cases hE : m.may ic iq at_ true = 0
      · rw [if_pos hE, hE] at hdn
        have HDN := Lib.hid hdn
        obtain ⟨⟨hg1, hg2⟩, hg3, hg4⟩ := once_law (code := cd) hE
        have hpn := put_n m ic ⟨iq, false, at_, cd, 7⟩
        generalize m.put ic ⟨iq, false, at_, cd, 7⟩ = m2 at *
        have hof := fun x (h : Tbl x p b m2) => of_any p b m2 ic x h hic
        rw [hg1, hg2] at hof
        have HOF := Lib.hid hof
        have hho := fun x (h : Tbl x p b m2) => how_any p b m2 ic iq x h hic
        rw [hg3] at hho
        have HHO := Lib.hid hho
        have hd2 := fun x (h : Tbl x p b m2) => show Calls Try.prog 33 #[.pointer (some ⟨p, 0, none⟩), .agg #[.int .i64 ic, .int .u64 iq], .int .i64 at_, .int .i64 0, .int .u64 1] x fun e w' => e = .returned (.int .i64 (m2.may ic iq at_ true)) ∧ Tbl w' p b (if m2.may ic iq at_ true = 0 then m2.put ic ⟨iq, false, at_, 0, 1⟩ else m2) ∧ Upd (fun y => y = b) x w' from done_any p b m2 ic iq at_ 0 1 x h hic (by omega)
        rw [hg4 true, if_neg (by decide)] at hd2
        have HD2 := Lib.hid hd2
        have ho2 := fun x (h : Tbl x p b m2) => show Calls Try.prog 32 #[.pointer (some ⟨p, 0, none⟩), .agg #[.int .i64 ic, .int .u64 iq], .int .i64 at_] x fun e w' => e = .returned (.int .i64 (m2.may ic iq at_ false)) ∧ Tbl w' p b (if m2.may ic iq at_ false = 0 then m2.put ic ⟨iq, true, at_, 0, 0⟩ else m2) ∧ Upd (fun y => y = b) x w' from open_any p b m2 ic iq at_ x h hic (by omega)
        rw [hg4 false, if_neg (by decide)] at ho2
        have HO2 := Lib.hid ho2
        have hbif := Lib.hid (fun x (hx : Upd (fun y => wb.heap.size ≤ y) wb x) => two_cells (hx.heap hBi.out (fun h => by have h' : wb.heap.size ≤ w.heap.size := h; omega)))
        have hVr := Lib.hid (hV.out.mono (G := fun y => wb.heap.size ≤ y) (fun _ _ h => h.elim))
        clear hdn hof hho hd2 ho2 hE hg1 hg2 hg3 hg4
        go_wp2_with fail
        refine HDN.out.mono ?_
        rintro e w3 ⟨rfl, hT3, hu⟩
        have HT3 := Lib.hid hT3
        have HV3 := Lib.hid (hVr.out.trans (hu.mono (G := fun y => wb.heap.size ≤ y) (fun y _ hy => by rw [show y = b from hy]; omega)))
        have HU3 := Lib.hid (hU.out.then hu (fun y hy e => by have e' : y = b := e; omega))
        obtain ⟨i0, i1⟩ := hbif.out _ HV3.out
        clear hT3 hu
        go_wp2_with fail
        refine (HOF.out _ HT3.out).mono ?_
        rintro e w4 ⟨rfl, hu⟩
        obtain ⟨i0, i1⟩ := hbif.out w4 (HV3.out.trans (hu.mono (fun _ _ h => h.elim)))
        have hz4 : w.heap.size < w4.heap.size := by have h1 := hU.out.size; have h2 := hV.out.size; have h3 := (HV3.out.trans (hu.mono (G := fun y => wb.heap.size ≤ y) (fun _ _ h => h.elim))).size; omega
        obtain ⟨bs, hbs⟩ : ∃ bs, w4.heap.size = bs := ⟨_, rfl⟩
        have hz4b : w.heap.size < bs := by omega
        have hz4c : w.heap.size ≠ bs := by omega
        have hal := Lib.hid (fun o => (Upd.refl NoB w4).alloc o)
        have hBs := Lib.hid (show (w4.alloc (.cells #[.int .u64 iq, .bool false, .int .i64 at_, .int .i64 cd, .int .u64 7] 61)).heap[bs]? = some (.cells #[.int .u64 iq, .bool false, .int .i64 at_, .int .i64 cd, .int .u64 7] 61 (0, 0)) by rw [← hbs]; exact heap_alloc_new _ _)
        have hbsb : b < bs := by have := HT3.out.lt.2; have := hu.size; omega
        have HT4 := Lib.hid (fun o => (HT3.out.keep hu (fun h => h) (fun h => h)).keep (hal.out o) (fun h => h) (fun h => h))
        have HV4 := Lib.hid (fun o => (HV3.out.trans (hu.mono (G := fun y => wb.heap.size ≤ y) (fun _ _ h => h.elim))).trans ((hal.out o).mono (G := fun y => wb.heap.size ≤ y) (fun _ _ h => h.elim)))
        have HU4 := Lib.hid (fun o => (HU3.out.trans hu).trans (hal.out o))
        clear hu
        go_wp2_with fail
        refine (HHO.out _ (HT4.out _)).mono ?_
        rintro e w5 ⟨rfl, hu⟩
        have HT5 := Lib.hid ((HT4.out _).keep hu (fun h => h) (fun h => h))
        have HV5 := Lib.hid ((HV4.out _).trans (hu.mono (G := fun y => wb.heap.size ≤ y) (fun _ _ h => h.elim)))
        have HU5 := Lib.hid ((HU4.out _).trans hu)
        have HB5 := Lib.hid (hu.heap hBs.out (fun h => h))
        obtain ⟨i0, i1⟩ := hbif.out _ HV5.out
        clear hu
        go_wp2_with fail
        refine (HD2.out _ HT5.out).mono ?_
        rintro e w6 ⟨rfl, hT6, hu⟩
        have HT6 := Lib.hid hT6
        have HV6 := Lib.hid (HV5.out.trans (hu.mono (G := fun y => wb.heap.size ≤ y) (fun y _ hy => by rw [show y = b from hy]; omega)))
        have HU6 := Lib.hid (HU5.out.then hu (fun y hy e => by have e' : y = b := e; omega))
        have HB6 := Lib.hid (hu.heap HB5.out (fun h => by have e' : bs = b := h; omega))
        obtain ⟨i0, i1⟩ := hbif.out _ HV6.out
        clear hT6 hu
        go_wp2_with fail
        refine (HO2.out _ HT6.out).mono ?_
        rintro e w7 ⟨rfl, hT7, hu⟩
        have HU7 := Lib.hid (HU6.out.then hu (fun y hy e => by have e' : y = b := e; omega))
        obtain ⟨z0, z1, z2, z3, z4⟩ := five_cells (hu.heap HB6.out (fun h => by have e' : bs = b := h; omega))
        clear hT7 hu
        go_wp2_with fail
        refine (sessAwake_any _).mono ?_
        rintro e w99 ⟨rfl, hu⟩
        have HU99 := Lib.hid (HU7.out.trans hu)
        clear hu
        go_wp2_with fail
        go_ret
        exact ⟨rfl, HU99.out⟩
      · rw [if_neg hE] at hdn
        have hEb : (m.may ic iq at_ true == 0) = false := by simpa using hE
        have hEn : (m.may ic iq at_ true != 0) = true := by simpa using hE
        generalize m.may ic iq at_ true = E at *
        have HDN := Lib.hid hdn
        clear hdn hE
        go_wp2_with fail
        refine HDN.out.mono ?_
        rintro e w3 ⟨rfl, hT3, hu⟩
        have HU3 := Lib.hid (hU.out.then hu (fun y hy e => by have e' : y = b := e; omega))
        clear hT3 hu
        go_wp2_with fail
        refine (sessAwake_any _).mono ?_
        rintro e w99 ⟨rfl, hu⟩
        have HU99 := Lib.hid (HU3.out.trans hu)
        clear hu
        go_wp2_with fail
        go_ret
        exact ⟨rfl, HU99.out⟩
end Go.Proofs.Ytmcpcladjfddmaa
