/- Whatever is added and cut, a log answers, has, and tells, what the chapter says (LinksPlays): the law's walk. -/
import Derived.Test.YtobfolkcpfaplaaEnt22
import Derived.Test.YtobfolkcpfaplaaLink5
namespace Go.Proofs.Ytobfolkcpfaplaa
open Go.RowKit Kit
set_option linter.unusedVariables false
theorem fromE_mem {l : List Ent} {prev most : Int} {x : Ent} (h : x ∈ fromE l prev most) : x ∈ l := by
  unfold fromE at h
  split at h
  · cases h
  · exact List.mem_of_mem_drop (List.mem_of_mem_take h)
theorem fromE_len (l : List Ent) (prev most : Int) : (fromE l prev most).length ≤ l.length := by
  unfold fromE
  split
  · simp
  · rw [List.length_take, List.length_drop]; omega
set_option maxHeartbeats 16000000 in
set_option maxRecDepth 100000 in
theorem linksPlays_walk (v : Value) (ops : List Eop) (i most : Int) (w : World) (h : RSl Rep.eop w (Old w) v ops) :
    Calls Try.prog 10 #[v, .int .i64 i, .int .i64 most] w fun e w' => e = .returned (.bool true) ∧ Upd NoB w w' := by
  have HO := Lib.hid h
  obtain ⟨A, c, _, rfl, d1, d2, _⟩ := h
  go_enter Try.func10, Try.ntmps10
  go_wp2_with fail
  refine (newlog_any _).mono ?_
  rintro e w1 ⟨p, rfl, hp, hu1, hl1⟩
  have HL := Lib.hid (Lg.new (w := w) hl1)
  have HU1 := Lib.hid hu1
  have hpl := Lib.hid hp
  have hplay := Lib.hid (play_any p (.slice A ops.length c) ops 30 w1 (by omega) HL.out (HO.out.upd hu1 (fun _ _ h => h)) (fun e => by have e' : p < w.heap.size := e; omega))
  clear hl1 hu1 hp
  go_wp2_with fail
  refine hplay.out.mono ?_
  rintro e w2 ⟨vw, l, S, F, rfl, hP, hl30⟩
  obtain ⟨Aw, cw, _, rfl, _⟩ := id hP.rf
  have HP2 := Lib.hid hP
  have HU2 := Lib.hid (HU1.out.then hP.upd (fun j hj e => by have e' : j = p := e; have := hpl.out; omega))
  have hsm := Lib.hid hP.sm
  have hl9 := Lib.hid hl30
  have hsf := Lib.hid (fun x (hx : x ∈ fromE l i most) => hP.sm x (fromE_mem hx))
  clear hP
  go_wp2_with fail
  refine (eall_any p l _ HP2.out.lg.read (by have := hl9.out; omega) hsm.out).mono ?_
  rintro e w3 ⟨v3, rfl, hM3⟩
  have HM3 := Lib.hid hM3.1.read
  have HP3 := Lib.hid (HP2.out.keep hM3.2)
  have HU3 := Lib.hid (HU2.out.trans hM3.2)
  clear hM3
  go_wp2_with fail
  refine (eplainl_any v3 l _ HM3.out (by have := hl9.out; omega) hsm.out).mono ?_
  rintro e w4 ⟨v4, rfl, hM4⟩
  have HM4 := Lib.hid hM4.1.read
  have HP4 := Lib.hid (HP3.out.keep hM4.2)
  have HU4 := Lib.hid (HU3.out.trans hM4.2)
  clear hM4
  go_wp2_with fail
  refine (ealike_any v4 _ l _ HM4.out HP4.out.rf (by have := hl9.out; omega) hsm.out).mono ?_
  rintro e w5 ⟨rfl, hu5⟩
  have HP5 := Lib.hid (HP4.out.keep hu5)
  have HU5 := Lib.hid (HU4.out.trans hu5)
  clear hu5
  go_wp2_with fail
  refine (efrom_any p l i most _ HP5.out.lg.read (by have := hl9.out; omega) hsm.out).mono ?_
  rintro e w6 ⟨v6, rfl, hM6⟩
  have HM6 := Lib.hid hM6.1.read
  have HP6 := Lib.hid (HP5.out.keep hM6.2)
  have HU6 := Lib.hid (HU5.out.trans hM6.2)
  clear hM6
  go_wp2_with fail
  refine (eplainl_any v6 (fromE l i most) _ HM6.out (by have := fromE_len l i most; have := hl9.out; omega) hsf.out).mono ?_
  rintro e w7 ⟨v7, rfl, hM7⟩
  have HM7 := Lib.hid hM7.1.read
  have HP7 := Lib.hid (HP6.out.keep hM7.2)
  have HU7 := Lib.hid (HU6.out.trans hM7.2)
  clear hM7
  go_wp2_with fail
  refine (reffrom_any _ l i most _ HP7.out.rf HP7.out.bf (by have := hl9.out; omega)).mono ?_
  rintro e w8 ⟨v8, rfl, hR8, hu8⟩
  have HM8 := Lib.hid (HM7.out.upd hu8 (fun _ _ h => h))
  have HR8 := Lib.hid hR8
  have HP8 := Lib.hid (HP7.out.keep hu8)
  have HU8 := Lib.hid (HU7.out.trans hu8)
  clear hR8 hu8
  go_wp2_with fail
  refine (ealike_any v7 v8 (fromE l i most) _ HM8.out HR8.out (by have := fromE_len l i most; have := hl9.out; omega) hsf.out).mono ?_
  rintro e w9 ⟨rfl, hu9⟩
  have HP9 := Lib.hid (HP8.out.keep hu9)
  have HU9 := Lib.hid (HU8.out.trans hu9)
  clear hu9
  go_wp2_with fail
  refine (eepoch_any p l i _ HP9.out.lg.read (by have := hl9.out; omega)).mono ?_
  rintro e w10 ⟨rfl, hu10⟩
  have HP10 := Lib.hid (HP9.out.keep hu10)
  have HU10 := Lib.hid (HU9.out.trans hu10)
  clear hu10
  go_wp2_with fail
  refine (refepoch_any _ l i _ HP10.out.rf (by have := hl9.out; omega)).mono ?_
  rintro e w11 ⟨rfl, hu11⟩
  have HP11 := Lib.hid (HP10.out.keep hu11)
  have HU11 := Lib.hid (HU10.out.trans hu11)
  clear hu11
  generalize epE l i = E at *
  go_wp2_with fail
  by_cases hin : 1 ≤ i ∧ i ≤ (l.length : Int)
  · obtain ⟨k, rfl⟩ : ∃ k : Nat, i = (k : Int) + 1 := ⟨(i - 1).toNat, by omega⟩
    have hk : k < l.length := by omega
    obtain ⟨x, hx⟩ : ∃ x, l[k]'hk = x := ⟨_, rfl⟩
    have HXk := Lib.hid hx
    have hxs : x.small := hx ▸ hsm.out _ (List.getElem_mem hk)
    refine (eat_yes p l k _ x HP11.out.lg.read hk hx (by have := hl9.out; omega) hsm.out).mono ?_
    rintro e w12 ⟨cs, rfl, hre, hu12⟩
    obtain ⟨A2, B2, n1, n2, rfl, hE1, hE2⟩ := ent_agg hre
    have HP12 := Lib.hid (HP11.out.keep hu12)
    have HU12 := Lib.hid (HU11.out.trans hu12)
    have HE1 := Lib.hid hE1
    have HE2 := Lib.hid hE2
    have hxss := Lib.hid hxs
    have k1 : decide ((1 : Int) ≤ (k : Int) + 1) = true := decide_eq_true (by omega)
    have k2 : decide ((k : Int) + 1 ≤ (l.length : Int)) = true := decide_eq_true (by omega)
    have k3 : decide (k + 1 ≤ l.length) = true := decide_eq_true (by omega)
    have k5 : IntKind.i64.wrap (k : Int) = (k : Int) := by simp only [IntKind.wrap_i64]; have := hl9.out; omega
    have k6 : (0 : Int) ≤ (k : Int) := by omega
    have k4 : IntKind.i64.wrap ((k : Int) + 1 - 1) = (k : Int) := by simp only [IntKind.wrap_i64]; have := hl9.out; omega
    obtain ⟨wb, hwb⟩ : ∃ wb, w12.alloc (.cells #[.int .u64 x.ep, .int .i64 x.kd, .int .i64 x.tc, .int .u64 x.tq, .bool x.pl, .slice A2 x.rd.length n1, .slice B2 x.wr.length n2, .int .i64 x.ec, .int .u64 x.eq, .int .i64 x.cd] 65) = wb := ⟨_, rfl⟩
    have hub : Upd NoB w12 wb := by rw [← hwb]; exact (Upd.refl _ _).alloc _
    have hBb := Lib.hid (show wb.heap[w12.heap.size]? = some (.cells #[.int .u64 x.ep, .int .i64 x.kd, .int .i64 x.tc, .int .u64 x.tq, .bool x.pl, .slice A2 x.rd.length n1, .slice B2 x.wr.length n2, .int .i64 x.ec, .int .u64 x.eq, .int .i64 x.cd] 65 (0, 0)) by rw [← hwb]; exact heap_alloc_new _ _)
    have HUb := Lib.hid hub
    clear hx hxs hre hE1 hE2 hu12 hin hub
    go_wp2_with fail
    clear hwb
    generalize w12.heap.size = pb at *
    have HPb := Lib.hid (HP12.out.keep HUb.out)
    have hT := ten_at (v := .bool true) HPb.out.rf (Upd.refl NoB wb) k hk
    rw [HXk.out] at hT
    obtain ⟨gw, ow, A3, B3, n3, n4, rfl, hF1, hF2, hcs⟩ := hT
    have HCS := Lib.hid hcs
    have HF1 := Lib.hid hF1
    have HF2 := Lib.hid hF2
    have hpln := Lib.hid (fun z (hz : Upd NoB wb z) => eplain_any x A2 B2 n1 n2 z (.inr (HE1.out.upd (HUb.out.trans hz) (fun _ _ h => h))) (.inr (HE2.out.upd (HUb.out.trans hz) (fun _ _ h => h))) hxss.out.1 hxss.out.2)
    clear hcs hF1 hF2
    refine sched_begin NoB (by kernel_rfl) ?_
    have HUd := Lib.hid (Upd.refl NoB wb).drew
    refine sched_take 0 rfl (by kernel_rfl) (by kernel_rfl) (by kernel_rfl) (fun _ _ _ h => h) rfl (fun x hx => by go_simp; rfl) ?_
    go_simp
    refine sched_take 1 rfl (by kernel_rfl) (by kernel_rfl) (by kernel_rfl) (fun _ _ _ h => h) rfl (fun x hx => by go_simp; rfl) ?_
    go_simp
    refine sched_take 2 rfl (by kernel_rfl) (by kernel_rfl) (by kernel_rfl) (fun _ _ _ h => h) rfl (fun x hx => by go_simp; rfl) ?_
    go_simp
    refine sched_take 3 rfl (by kernel_rfl) (by kernel_rfl) (by kernel_rfl) (fun _ _ _ h => h) rfl (fun x hx => by go_simp; rfl) ?_
    go_simp
    refine sched_take 4 rfl (by kernel_rfl) (by kernel_rfl) (by kernel_rfl) (fun _ _ _ h => h) rfl (fun x hx => by go_simp; rfl) ?_
    go_simp
    refine sched_take 5 rfl (by kernel_rfl) (by kernel_rfl) (by kernel_rfl) (fun _ _ _ h => h) rfl (fun x hx => by go_simp; rfl) ?_
    go_simp
    refine sched_take 6 rfl (by kernel_rfl) (by kernel_rfl) (by kernel_rfl) (fun _ _ _ h => h) rfl (fun x hx => by go_simp; rfl) ?_
    go_simp
    refine sched_take 7 rfl (by kernel_rfl) (by kernel_rfl) (by kernel_rfl) (fun _ _ _ h => h) rfl (fun x hx => by go_simp; rfl) ?_
    go_simp
    refine sched_take 8 rfl (by kernel_rfl) (by kernel_rfl) (by kernel_rfl) (fun _ _ _ h => h) rfl (fun x hx => by go_simp; rfl) ?_
    go_simp
    refine sched_take 9 rfl (by kernel_rfl) (by kernel_rfl) (by kernel_rfl) (fun _ _ _ h => h) rfl (fun x hx => by go_simp; rfl) ?_
    go_simp
    refine sched_take 10 rfl (by kernel_rfl) (by kernel_rfl) (by kernel_rfl) (fun _ _ _ h => h) rfl (fun x hx => by go_simp; rfl) ?_
    go_simp
    refine sched_take 11 rfl (by kernel_rfl) (by kernel_rfl) (by kernel_rfl) (fun _ _ _ h => h) rfl (fun x hx => by go_simp; rfl) ?_
    go_simp
    refine sched_take 12 rfl (by kernel_rfl) (by kernel_rfl) (by kernel_rfl) (fun _ _ _ h => h) rfl (fun x hx => by go_simp; rfl) ?_
    go_simp
    refine sched_take 13 rfl (by kernel_rfl) (by kernel_rfl) (by kernel_rfl) (fun _ _ _ h => h) rfl (fun x hx => by obtain ⟨y0, y1, y2, y3, y4, y5, y6, y7, y8, y9⟩ := ten_cells (hx.heap (HUd.out.heap hBb.out (fun h => h)) (fun h => h)); go_simp; rfl) ?_
    go_simp
    refine sched_take 15 rfl (by kernel_rfl) (by kernel_rfl) (by kernel_rfl) (fun _ _ _ h => h) rfl (fun x hx => by go_simp; rfl) ?_
    go_simp
    refine sched_take 16 rfl (by kernel_rfl) (by kernel_rfl) (by kernel_rfl) (fun _ _ _ h => h) rfl (fun x hx => by go_simp; rfl) ?_
    go_simp
    refine sched_take 17 rfl (by kernel_rfl) (by kernel_rfl) (by kernel_rfl) (fun _ _ _ h => h) rfl (fun x hx => by go_simp; rfl) ?_
    go_simp
    refine sched_take 18 rfl (by kernel_rfl) (by kernel_rfl) (by kernel_rfl) (fun _ _ _ h => h) rfl (fun x hx => by go_simp; rfl) ?_
    go_simp
    refine sched_take 19 rfl (by kernel_rfl) (by kernel_rfl) (by kernel_rfl) (fun _ _ _ h => h) rfl (fun x hx => by obtain ⟨y0, y1, y2, y3, y4, y5, y6, y7, y8, y9⟩ := HCS.out; replace y0 := hx.cell (HUd.out.cell y0 (fun h => h)) (fun h => h); replace y1 := hx.cell (HUd.out.cell y1 (fun h => h)) (fun h => h); replace y2 := hx.cell (HUd.out.cell y2 (fun h => h)) (fun h => h); replace y3 := hx.cell (HUd.out.cell y3 (fun h => h)) (fun h => h); replace y4 := hx.cell (HUd.out.cell y4 (fun h => h)) (fun h => h); replace y5 := hx.cell (HUd.out.cell y5 (fun h => h)) (fun h => h); replace y6 := hx.cell (HUd.out.cell y6 (fun h => h)) (fun h => h); replace y7 := hx.cell (HUd.out.cell y7 (fun h => h)) (fun h => h); replace y8 := hx.cell (HUd.out.cell y8 (fun h => h)) (fun h => h); replace y9 := hx.cell (HUd.out.cell y9 (fun h => h)) (fun h => h); go_simp; rfl) ?_
    go_simp
    refine sched_alone 14 (by kernel_rfl) rfl rfl ?_
    go_simp
    refine (hpln.out _ HUd.out).mono ?_
    rintro e w13 ⟨cs, rfl, hre, hu⟩
    refine ⟨hu, ?_⟩
    have HU13 := Lib.hid (HUd.out.trans hu)
    obtain ⟨A4, B4, n5, n6, rfl, hG1, hG2⟩ := ent_agg hre
    have hsame := Lib.hid (eesame_any x A4 B4 A3 B3 n5 n6 n3 n4 w13 hG1 hG2 (HF1.out.upd HU13.out (fun _ _ h => h)) (HF2.out.upd HU13.out (fun _ _ h => h)) hxss.out)
    clear hre hG1 hG2 hu
    go_simp
    refine sched_alone 20 (by kernel_rfl) rfl rfl ?_
    go_simp
    refine hsame.out.mono ?_
    rintro e w14 ⟨rfl, hu⟩
    refine ⟨hu, ?_⟩
    have HU14 := Lib.hid (HU12.out.trans (HUb.out.trans (HU13.out.trans hu)))
    clear hu
    go_simp
    refine sched_take 21 rfl (by kernel_rfl) (by kernel_rfl) (by kernel_rfl) (fun _ _ _ h => h) rfl (fun x hx => by go_simp; rfl) ?_
    go_simp
    refine sched_take 22 rfl (by kernel_rfl) (by kernel_rfl) (by kernel_rfl) (fun _ _ _ h => h) rfl (fun x hx => by go_simp; rfl) ?_
    go_simp
    refine sched_take 23 rfl (by kernel_rfl) (by kernel_rfl) (by kernel_rfl) (fun _ _ _ h => h) rfl (fun x hx => by go_simp; rfl) ?_
    go_simp
    refine sched_take 24 rfl (by kernel_rfl) (by kernel_rfl) (by kernel_rfl) (fun _ _ _ h => h) rfl (fun x hx => by go_simp; rfl) ?_
    go_simp
    refine sched_take 25 rfl (by kernel_rfl) (by kernel_rfl) (by kernel_rfl) (fun _ _ _ h => h) rfl (fun x hx => by go_simp; rfl) ?_
    go_simp
    refine sched_take 26 rfl (by kernel_rfl) (by kernel_rfl) (by kernel_rfl) (fun _ _ _ h => h) rfl (fun x hx => by go_simp; rfl) ?_
    go_simp
    refine sched_take 27 rfl (by kernel_rfl) (by kernel_rfl) (by kernel_rfl) (fun _ _ _ h => h) rfl (fun x hx => by go_simp; rfl) ?_
    go_simp
    refine sched_skip 28 rfl (by kernel_rfl) (by kernel_rfl) (by kernel_rfl) (fun _ _ _ h => h) rfl ?_
    go_simp
    refine sched_skip 29 rfl (by kernel_rfl) (by kernel_rfl) (by kernel_rfl) (fun _ _ _ h => h) rfl ?_
    go_simp
    refine sched_skip 30 rfl (by kernel_rfl) (by kernel_rfl) (by kernel_rfl) (fun _ _ _ h => h) rfl ?_
    go_simp
    refine sched_skip 31 rfl (by kernel_rfl) (by kernel_rfl) (by kernel_rfl) (fun _ _ _ h => h) rfl ?_
    go_simp
    refine sched_take 32 rfl (by kernel_rfl) (by kernel_rfl) (by kernel_rfl) (fun _ _ _ h => h) rfl (fun x hx => by go_simp; rfl) ?_
    go_simp
    refine sched_take 33 rfl (by kernel_rfl) (by kernel_rfl) (by kernel_rfl) (fun _ _ _ h => h) rfl (fun x hx => by go_simp; rfl) ?_
    go_simp
    refine sched_done (by kernel_rfl) ?_
    go_wp2_with fail
    refine (linksAwake_any _).mono ?_
    rintro e w99 ⟨rfl, hu⟩
    have HU99 := Lib.hid (HU14.out.trans hu)
    clear hu
    go_wp2_with fail
    go_ret
    exact ⟨rfl, HU99.out⟩
  · refine (eat_no p l i _ HP11.out.lg.read hin).mono ?_
    rintro e w12 ⟨rfl, hu12⟩
    have HU12 := Lib.hid (HU11.out.trans hu12)
    unfold zeroV
    clear hu12
    go_wp2_with fail
    have hz := Lib.hid (fun x (hx : Upd NoB (w12.alloc (.cells #[.int .u64 0, .int .i64 0, .int .i64 0, .int .u64 0, .bool false, .slice none 0 0, .slice none 0 0, .int .i64 0, .int .u64 0, .int .i64 0] 65)) x) => ten_cells (hx.heap (heap_alloc_new w12 _) (fun h => h)))
    have HUb := Lib.hid (HU12.out.trans ((Upd.refl NoB w12).alloc (.cells #[.int .u64 0, .int .i64 0, .int .i64 0, .int .u64 0, .bool false, .slice none 0 0, .slice none 0 0, .int .i64 0, .int .u64 0, .int .i64 0] 65)))
    have hzs := Lib.hid zsame_any
    generalize w12.alloc (.cells #[.int .u64 0, .int .i64 0, .int .i64 0, .int .u64 0, .bool false, .slice none 0 0, .slice none 0 0, .int .i64 0, .int .u64 0, .int .i64 0] 65) = wb at *
    generalize w12.heap.size = pb at *
    by_cases h1 : 1 ≤ i
    · have d1 : decide ((1 : Int) ≤ i) = true := decide_eq_true h1
      obtain ⟨q, rfl⟩ : ∃ q : Nat, i = q := Int.eq_ofNat_of_zero_le (by omega)
      have d2 : decide (q ≤ l.length) = false := decide_eq_false (by omega)
      have d3 : decide ((q : Int) ≤ (l.length : Int)) = false := decide_eq_false (by omega)
      have d4 : decide (1 ≤ q) = true := decide_eq_true (by omega)
      clear hin h1
      refine sched_begin NoB (by kernel_rfl) ?_
      have HUd := Lib.hid (Upd.refl NoB wb).drew
      refine sched_take 0 rfl (by kernel_rfl) (by kernel_rfl) (by kernel_rfl) (fun _ _ _ h => h) rfl (fun x hx => by go_simp; rfl) ?_
      go_simp
      refine sched_take 1 rfl (by kernel_rfl) (by kernel_rfl) (by kernel_rfl) (fun _ _ _ h => h) rfl (fun x hx => by go_simp; rfl) ?_
      go_simp
      refine sched_take 2 rfl (by kernel_rfl) (by kernel_rfl) (by kernel_rfl) (fun _ _ _ h => h) rfl (fun x hx => by go_simp; rfl) ?_
      go_simp
      refine sched_take 3 rfl (by kernel_rfl) (by kernel_rfl) (by kernel_rfl) (fun _ _ _ h => h) rfl (fun x hx => by go_simp; rfl) ?_
      go_simp
      refine sched_take 4 rfl (by kernel_rfl) (by kernel_rfl) (by kernel_rfl) (fun _ _ _ h => h) rfl (fun x hx => by go_simp; rfl) ?_
      go_simp
      refine sched_take 5 rfl (by kernel_rfl) (by kernel_rfl) (by kernel_rfl) (fun _ _ _ h => h) rfl (fun x hx => by go_simp; rfl) ?_
      go_simp
      refine sched_take 6 rfl (by kernel_rfl) (by kernel_rfl) (by kernel_rfl) (fun _ _ _ h => h) rfl (fun x hx => by go_simp; rfl) ?_
      go_simp
      refine sched_take 7 rfl (by kernel_rfl) (by kernel_rfl) (by kernel_rfl) (fun _ _ _ h => h) rfl (fun x hx => by go_simp; rfl) ?_
      go_simp
      refine sched_take 8 rfl (by kernel_rfl) (by kernel_rfl) (by kernel_rfl) (fun _ _ _ h => h) rfl (fun x hx => by go_simp; rfl) ?_
      go_simp
      refine sched_take 9 rfl (by kernel_rfl) (by kernel_rfl) (by kernel_rfl) (fun _ _ _ h => h) rfl (fun x hx => by go_simp; rfl) ?_
      go_simp
      refine sched_take 10 rfl (by kernel_rfl) (by kernel_rfl) (by kernel_rfl) (fun _ _ _ h => h) rfl (fun x hx => by go_simp; rfl) ?_
      go_simp
      refine sched_take 11 rfl (by kernel_rfl) (by kernel_rfl) (by kernel_rfl) (fun _ _ _ h => h) rfl (fun x hx => by go_simp; rfl) ?_
      go_simp
      refine sched_take 12 rfl (by kernel_rfl) (by kernel_rfl) (by kernel_rfl) (fun _ _ _ h => h) rfl (fun x hx => by go_simp; rfl) ?_
      go_simp
      refine sched_skip 13 rfl (by kernel_rfl) (by kernel_rfl) (by kernel_rfl) (fun _ _ _ h => h) rfl ?_
      go_simp
      refine sched_skip 14 rfl (by kernel_rfl) (by kernel_rfl) (by kernel_rfl) (fun _ _ _ h => h) rfl ?_
      go_simp
      refine sched_skip 15 rfl (by kernel_rfl) (by kernel_rfl) (by kernel_rfl) (fun _ _ _ h => h) rfl ?_
      go_simp
      refine sched_skip 16 rfl (by kernel_rfl) (by kernel_rfl) (by kernel_rfl) (fun _ _ _ h => h) rfl ?_
      go_simp
      refine sched_skip 17 rfl (by kernel_rfl) (by kernel_rfl) (by kernel_rfl) (fun _ _ _ h => h) rfl ?_
      go_simp
      refine sched_skip 18 rfl (by kernel_rfl) (by kernel_rfl) (by kernel_rfl) (fun _ _ _ h => h) rfl ?_
      go_simp
      refine sched_skip 19 rfl (by kernel_rfl) (by kernel_rfl) (by kernel_rfl) (fun _ _ _ h => h) rfl ?_
      go_simp
      refine sched_skip 20 rfl (by kernel_rfl) (by kernel_rfl) (by kernel_rfl) (fun _ _ _ h => h) rfl ?_
      go_simp
      refine sched_skip 21 rfl (by kernel_rfl) (by kernel_rfl) (by kernel_rfl) (fun _ _ _ h => h) rfl ?_
      go_simp
      refine sched_take 22 rfl (by kernel_rfl) (by kernel_rfl) (by kernel_rfl) (fun _ _ _ h => h) rfl (fun x hx => by go_simp; rfl) ?_
      go_simp
      refine sched_take 23 rfl (by kernel_rfl) (by kernel_rfl) (by kernel_rfl) (fun _ _ _ h => h) rfl (fun x hx => by go_simp; rfl) ?_
      go_simp
      refine sched_take 24 rfl (by kernel_rfl) (by kernel_rfl) (by kernel_rfl) (fun _ _ _ h => h) rfl (fun x hx => by go_simp; rfl) ?_
      go_simp
      refine sched_take 25 rfl (by kernel_rfl) (by kernel_rfl) (by kernel_rfl) (fun _ _ _ h => h) rfl (fun x hx => by go_simp; rfl) ?_
      go_simp
      refine sched_take 26 rfl (by kernel_rfl) (by kernel_rfl) (by kernel_rfl) (fun _ _ _ h => h) rfl (fun x hx => by go_simp; rfl) ?_
      go_simp
      refine sched_take 27 rfl (by kernel_rfl) (by kernel_rfl) (by kernel_rfl) (fun _ _ _ h => h) rfl (fun x hx => by go_simp; rfl) ?_
      go_simp
      refine sched_take 28 rfl (by kernel_rfl) (by kernel_rfl) (by kernel_rfl) (fun _ _ _ h => h) rfl (fun x hx => by obtain ⟨y0, y1, y2, y3, y4, y5, y6, y7, y8, y9⟩ := hz.out x (HUd.out.trans hx); go_simp; rfl) ?_
      go_simp
      refine sched_take 29 rfl (by kernel_rfl) (by kernel_rfl) (by kernel_rfl) (fun _ _ _ h => h) rfl (fun x hx => by go_simp; rfl) ?_
      go_simp
      refine sched_alone 30 (by kernel_rfl) rfl rfl ?_
      go_simp
      refine (hzs.out _).mono ?_
      rintro e w14 ⟨rfl, hu⟩
      refine ⟨hu, ?_⟩
      have HU14 := Lib.hid (HUb.out.trans (HUd.out.trans hu))
      clear hu
      go_simp
      refine sched_take 31 rfl (by kernel_rfl) (by kernel_rfl) (by kernel_rfl) (fun _ _ _ h => h) rfl (fun x hx => by go_simp; rfl) ?_
      go_simp
      refine sched_take 32 rfl (by kernel_rfl) (by kernel_rfl) (by kernel_rfl) (fun _ _ _ h => h) rfl (fun x hx => by go_simp; rfl) ?_
      go_simp
      refine sched_take 33 rfl (by kernel_rfl) (by kernel_rfl) (by kernel_rfl) (fun _ _ _ h => h) rfl (fun x hx => by go_simp; rfl) ?_
      go_simp
      refine sched_done (by kernel_rfl) ?_
      go_wp2_with fail
      refine (linksAwake_any _).mono ?_
      rintro e w99 ⟨rfl, hu⟩
      have HU99 := Lib.hid (HU14.out.trans hu)
      clear hu
      go_wp2_with fail
      go_ret
      exact ⟨rfl, HU99.out⟩
    · have d1 : decide ((1 : Int) ≤ i) = false := decide_eq_false h1
      clear hin h1
      refine sched_begin NoB (by kernel_rfl) ?_
      have HUd := Lib.hid (Upd.refl NoB wb).drew
      refine sched_take 0 rfl (by kernel_rfl) (by kernel_rfl) (by kernel_rfl) (fun _ _ _ h => h) rfl (fun x hx => by go_simp; rfl) ?_
      go_simp
      refine sched_take 1 rfl (by kernel_rfl) (by kernel_rfl) (by kernel_rfl) (fun _ _ _ h => h) rfl (fun x hx => by go_simp; rfl) ?_
      go_simp
      refine sched_take 2 rfl (by kernel_rfl) (by kernel_rfl) (by kernel_rfl) (fun _ _ _ h => h) rfl (fun x hx => by go_simp; rfl) ?_
      go_simp
      refine sched_take 3 rfl (by kernel_rfl) (by kernel_rfl) (by kernel_rfl) (fun _ _ _ h => h) rfl (fun x hx => by go_simp; rfl) ?_
      go_simp
      refine sched_skip 4 rfl (by kernel_rfl) (by kernel_rfl) (by kernel_rfl) (fun _ _ _ h => h) rfl ?_
      go_simp
      refine sched_skip 5 rfl (by kernel_rfl) (by kernel_rfl) (by kernel_rfl) (fun _ _ _ h => h) rfl ?_
      go_simp
      refine sched_skip 6 rfl (by kernel_rfl) (by kernel_rfl) (by kernel_rfl) (fun _ _ _ h => h) rfl ?_
      go_simp
      refine sched_skip 7 rfl (by kernel_rfl) (by kernel_rfl) (by kernel_rfl) (fun _ _ _ h => h) rfl ?_
      go_simp
      refine sched_take 8 rfl (by kernel_rfl) (by kernel_rfl) (by kernel_rfl) (fun _ _ _ h => h) rfl (fun x hx => by go_simp; rfl) ?_
      go_simp
      refine sched_take 9 rfl (by kernel_rfl) (by kernel_rfl) (by kernel_rfl) (fun _ _ _ h => h) rfl (fun x hx => by go_simp; rfl) ?_
      go_simp
      refine sched_take 10 rfl (by kernel_rfl) (by kernel_rfl) (by kernel_rfl) (fun _ _ _ h => h) rfl (fun x hx => by go_simp; rfl) ?_
      go_simp
      refine sched_take 11 rfl (by kernel_rfl) (by kernel_rfl) (by kernel_rfl) (fun _ _ _ h => h) rfl (fun x hx => by go_simp; rfl) ?_
      go_simp
      refine sched_take 12 rfl (by kernel_rfl) (by kernel_rfl) (by kernel_rfl) (fun _ _ _ h => h) rfl (fun x hx => by go_simp; rfl) ?_
      go_simp
      refine sched_skip 13 rfl (by kernel_rfl) (by kernel_rfl) (by kernel_rfl) (fun _ _ _ h => h) rfl ?_
      go_simp
      refine sched_skip 14 rfl (by kernel_rfl) (by kernel_rfl) (by kernel_rfl) (fun _ _ _ h => h) rfl ?_
      go_simp
      refine sched_skip 15 rfl (by kernel_rfl) (by kernel_rfl) (by kernel_rfl) (fun _ _ _ h => h) rfl ?_
      go_simp
      refine sched_skip 16 rfl (by kernel_rfl) (by kernel_rfl) (by kernel_rfl) (fun _ _ _ h => h) rfl ?_
      go_simp
      refine sched_skip 17 rfl (by kernel_rfl) (by kernel_rfl) (by kernel_rfl) (fun _ _ _ h => h) rfl ?_
      go_simp
      refine sched_skip 18 rfl (by kernel_rfl) (by kernel_rfl) (by kernel_rfl) (fun _ _ _ h => h) rfl ?_
      go_simp
      refine sched_skip 19 rfl (by kernel_rfl) (by kernel_rfl) (by kernel_rfl) (fun _ _ _ h => h) rfl ?_
      go_simp
      refine sched_skip 20 rfl (by kernel_rfl) (by kernel_rfl) (by kernel_rfl) (fun _ _ _ h => h) rfl ?_
      go_simp
      refine sched_skip 21 rfl (by kernel_rfl) (by kernel_rfl) (by kernel_rfl) (fun _ _ _ h => h) rfl ?_
      go_simp
      refine sched_take 22 rfl (by kernel_rfl) (by kernel_rfl) (by kernel_rfl) (fun _ _ _ h => h) rfl (fun x hx => by go_simp; rfl) ?_
      go_simp
      refine sched_take 23 rfl (by kernel_rfl) (by kernel_rfl) (by kernel_rfl) (fun _ _ _ h => h) rfl (fun x hx => by go_simp; rfl) ?_
      go_simp
      refine sched_take 24 rfl (by kernel_rfl) (by kernel_rfl) (by kernel_rfl) (fun _ _ _ h => h) rfl (fun x hx => by go_simp; rfl) ?_
      go_simp
      refine sched_take 25 rfl (by kernel_rfl) (by kernel_rfl) (by kernel_rfl) (fun _ _ _ h => h) rfl (fun x hx => by go_simp; rfl) ?_
      go_simp
      refine sched_take 26 rfl (by kernel_rfl) (by kernel_rfl) (by kernel_rfl) (fun _ _ _ h => h) rfl (fun x hx => by go_simp; rfl) ?_
      go_simp
      refine sched_take 27 rfl (by kernel_rfl) (by kernel_rfl) (by kernel_rfl) (fun _ _ _ h => h) rfl (fun x hx => by go_simp; rfl) ?_
      go_simp
      refine sched_take 28 rfl (by kernel_rfl) (by kernel_rfl) (by kernel_rfl) (fun _ _ _ h => h) rfl (fun x hx => by obtain ⟨y0, y1, y2, y3, y4, y5, y6, y7, y8, y9⟩ := hz.out x (HUd.out.trans hx); go_simp; rfl) ?_
      go_simp
      refine sched_take 29 rfl (by kernel_rfl) (by kernel_rfl) (by kernel_rfl) (fun _ _ _ h => h) rfl (fun x hx => by go_simp; rfl) ?_
      go_simp
      refine sched_alone 30 (by kernel_rfl) rfl rfl ?_
      go_simp
      refine (hzs.out _).mono ?_
      rintro e w14 ⟨rfl, hu⟩
      refine ⟨hu, ?_⟩
      have HU14 := Lib.hid (HUb.out.trans (HUd.out.trans hu))
      clear hu
      go_simp
      refine sched_take 31 rfl (by kernel_rfl) (by kernel_rfl) (by kernel_rfl) (fun _ _ _ h => h) rfl (fun x hx => by go_simp; rfl) ?_
      go_simp
      refine sched_take 32 rfl (by kernel_rfl) (by kernel_rfl) (by kernel_rfl) (fun _ _ _ h => h) rfl (fun x hx => by go_simp; rfl) ?_
      go_simp
      refine sched_take 33 rfl (by kernel_rfl) (by kernel_rfl) (by kernel_rfl) (fun _ _ _ h => h) rfl (fun x hx => by go_simp; rfl) ?_
      go_simp
      refine sched_done (by kernel_rfl) ?_
      go_wp2_with fail
      refine (linksAwake_any _).mono ?_
      rintro e w99 ⟨rfl, hu⟩
      have HU99 := Lib.hid (HU14.out.trans hu)
      clear hu
      go_wp2_with fail
      go_ret
      exact ⟨rfl, HU99.out⟩
end Go.Proofs.Ytobfolkcpfaplaa
