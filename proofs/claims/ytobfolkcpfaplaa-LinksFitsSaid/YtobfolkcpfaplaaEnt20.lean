/- Entries, any: are two the same; are two rows of them alike. -/
import Derived.Test.YtobfolkcpfaplaaEnt4
namespace Go.Proofs.Ytobfolkcpfaplaa
open Go.RowKit Kit
set_option linter.unusedVariables false
set_option maxHeartbeats 8000000 in
set_option maxRecDepth 100000 in
theorem esametxn_any {S T : Nat → Prop} (tc tq : Int) (pl : Bool) (rd : List Rd) (wt : List Wt) (A B A2 B2 : Option Addr) (c d c2 d2 : Nat) (w : World) (h1 : RSl Rep.rd w S (.slice A rd.length c) rd) (h2 : RSl Rep.wt w S (.slice B wt.length d) wt) (h3 : RSl Rep.rd w T (.slice A2 rd.length c2) rd) (h4 : RSl Rep.wt w T (.slice B2 wt.length d2) wt) (hn : rd.length ≤ 100000) (hm : wt.length ≤ 100000) :
    Calls Try.prog 66 #[.agg #[.int .i64 tc, .int .u64 tq, .bool pl, .slice A rd.length c, .slice B wt.length d], .agg #[.int .i64 tc, .int .u64 tq, .bool pl, .slice A2 rd.length c2, .slice B2 wt.length d2]] w fun e w' => e = .returned (.bool true) ∧ Upd NoB w w' := by
  obtain ⟨wa, hwa0, hua, hb0⟩ := two_world w #[.int .i64 tc, .int .u64 tq, .bool pl, .slice A rd.length c, .slice B wt.length d] #[.int .i64 tc, .int .u64 tq, .bool pl, .slice A2 rd.length c2, .slice B2 wt.length d2] 70 70
  have HUa := Lib.hid hua
  have HU0 := Lib.hid (Upd.refl NoB wa)
  have hb := Lib.hid (fun y hy => five_cells2 (hb0 y hy).1)
  have hz := Lib.hid (fun y hy => five_cells2 (hb0 y hy).2)
  have HX := Lib.hid (h1.upd hua (fun _ _ h => h))
  have HY := Lib.hid (h3.upd hua (fun _ _ h => h))
  have HX2 := Lib.hid (h2.upd hua (fun _ _ h => h))
  have HY2 := Lib.hid (h4.upd hua (fun _ _ h => h))
  clear h1 h2 h3 h4 hua hb0
  obtain ⟨y0, y1, y2, y3, y4⟩ := hb.out _ HU0.out
  obtain ⟨z0, z1, z2, z3, z4⟩ := hz.out _ HU0.out
  go_enter Try.func66, Try.ntmps66
  go_wp2_with fail
  clear y0 y1 y2 y3 y4 z0 z1 z2 z3 z4 hwa0
  go_loopw [40] (fun x40 wr => ∃ k : Nat, k ≤ rd.length ∧ x40 = .int .i64 k ∧ Hid (Upd NoB wa wr)) (fun x40 _ => rd.length - (intOf x40).toNat)
  case atStart => exact ⟨0, by omega, rfl, HU0⟩
  case round =>
    obtain ⟨k, hk, rfl, hU⟩ := hrel
    by_cases hlt : k < rd.length
    · skip
      obtain ⟨gx, ox, rx, rfl, hx1, hxc, _⟩ := HX.out.cellN k hlt
      obtain ⟨gy, oy, ry, rfl, hy1, hyc, _⟩ := HY.out.cellN k hlt
      have ex := hx1.1
      have ey := hy1.1
      subst ex ey
      have hcx := Lib.hid (fun z (hz : Upd NoB wa z) => show z.cell? ⟨gx, ox + k * 2, none⟩ = some (.string rd[k].key) ∧ z.cell? ⟨gx, ox + k * 2 + 1, none⟩ = some (.int .u64 rd[k].num) from ⟨hz.cell (hxc 0 _ rfl) (fun h => h), hz.cell (hxc 1 _ rfl) (fun h => h)⟩)
      have hcy := Lib.hid (fun z (hz : Upd NoB wa z) => show z.cell? ⟨gy, oy + k * 2, none⟩ = some (.string rd[k].key) ∧ z.cell? ⟨gy, oy + k * 2 + 1, none⟩ = some (.int .u64 rd[k].num) from ⟨hz.cell (hyc 0 _ rfl) (fun h => h), hz.cell (hyc 1 _ rfl) (fun h => h)⟩)
      clear hxc hyc hx1 hy1
      generalize rd[k] = x at *
      go_wp2_with fail
      refine sched_begin NoB (by kernel_rfl) ?_
      have HUd := Lib.hid hU.out.drew
      refine sched_take 0 rfl (by kernel_rfl) (by kernel_rfl) (by kernel_rfl) (fun _ _ _ h => h) rfl (fun x hx => by go_simp; rfl) ?_
      go_simp
      refine sched_take 2 rfl (by kernel_rfl) (by kernel_rfl) (by kernel_rfl) (fun _ _ _ h => h) rfl (fun x hx => by go_simp; rfl) ?_
      go_simp
      refine sched_take 5 rfl (by kernel_rfl) (by kernel_rfl) (by kernel_rfl) (fun _ _ _ h => h) rfl (fun x hx => by go_simp; rfl) ?_
      go_simp
      refine sched_take 7 rfl (by kernel_rfl) (by kernel_rfl) (by kernel_rfl) (fun _ _ _ h => h) rfl (fun x hx => by go_simp; rfl) ?_
      go_simp
      refine sched_take 1 rfl (by kernel_rfl) (by kernel_rfl) (by kernel_rfl) (fun _ _ _ h => h) rfl (fun x hx => by obtain ⟨y0, y1, y2, y3, y4⟩ := hb.out _ (HUd.out.trans hx); go_simp; rfl) ?_
      go_simp
      refine sched_take 6 rfl (by kernel_rfl) (by kernel_rfl) (by kernel_rfl) (fun _ _ _ h => h) rfl (fun x hx => by obtain ⟨y0, y1, y2, y3, y4⟩ := hz.out _ (HUd.out.trans hx); go_simp; rfl) ?_
      go_simp
      refine sched_take 3 rfl (by kernel_rfl) (by kernel_rfl) (by kernel_rfl) (fun _ _ _ h => h) rfl (fun x hx => by go_simp; rfl) ?_
      go_simp
      refine sched_take 8 rfl (by kernel_rfl) (by kernel_rfl) (by kernel_rfl) (fun _ _ _ h => h) rfl (fun x hx => by go_simp; rfl) ?_
      go_simp
      refine sched_take 4 rfl (by kernel_rfl) (by kernel_rfl) (by kernel_rfl) (fun _ _ _ h => h) rfl (fun x hx => by obtain ⟨y0, y1⟩ := hcx.out _ (HUd.out.trans hx); go_simp; rfl) ?_
      go_simp
      refine sched_take 9 rfl (by kernel_rfl) (by kernel_rfl) (by kernel_rfl) (fun _ _ _ h => h) rfl (fun x hx => by obtain ⟨y0, y1⟩ := hcy.out _ (HUd.out.trans hx); go_simp; rfl) ?_
      go_simp
      refine sched_take 10 rfl (by kernel_rfl) (by kernel_rfl) (by kernel_rfl) (fun _ _ _ h => h) rfl (fun x hx => by go_simp; rfl) ?_
      go_simp
      refine sched_done (by kernel_rfl) ?_
      go_wp2_with fail
      go_roundw
      case measure => simp [intOf]; omega
      case rel => exact ⟨k + 1, by omega, by go_num, HUd⟩
    · obtain rfl : k = rd.length := by omega
      obtain ⟨y0, y1, y2, y3, y4⟩ := hb.out _ hU.out
      go_wp2_with fail
      clear y0 y1 y2 y3 y4
      go_loopw [58] (fun x58 wr => ∃ k : Nat, k ≤ wt.length ∧ x58 = .int .i64 k ∧ Hid (Upd NoB wa wr)) (fun x58 _ => wt.length - (intOf x58).toNat)
      case atStart => exact ⟨0, by omega, rfl, hU⟩
      case round =>
        clear hU hlt hk
        obtain ⟨k, hk, rfl, hU⟩ := hrel
        by_cases hlt : k < wt.length
        · skip
          obtain ⟨gx, ox, rx, rfl, hx1, hxc, _⟩ := HX2.out.cellN k hlt
          obtain ⟨gy, oy, ry, rfl, hy1, hyc, _⟩ := HY2.out.cellN k hlt
          have ex := hx1.1
          have ey := hy1.1
          subst ex ey
          have hcx := Lib.hid (fun z (hz : Upd NoB wa z) => show z.cell? ⟨gx, ox + k * 3, none⟩ = some (.string wt[k].key) ∧ z.cell? ⟨gx, ox + k * 3 + 1, none⟩ = some (.string wt[k].val) ∧ z.cell? ⟨gx, ox + k * 3 + 2, none⟩ = some (.bool wt[k].gone) from ⟨hz.cell (hxc 0 _ rfl) (fun h => h), hz.cell (hxc 1 _ rfl) (fun h => h), hz.cell (hxc 2 _ rfl) (fun h => h)⟩)
          have hcy := Lib.hid (fun z (hz : Upd NoB wa z) => show z.cell? ⟨gy, oy + k * 3, none⟩ = some (.string wt[k].key) ∧ z.cell? ⟨gy, oy + k * 3 + 1, none⟩ = some (.string wt[k].val) ∧ z.cell? ⟨gy, oy + k * 3 + 2, none⟩ = some (.bool wt[k].gone) from ⟨hz.cell (hyc 0 _ rfl) (fun h => h), hz.cell (hyc 1 _ rfl) (fun h => h), hz.cell (hyc 2 _ rfl) (fun h => h)⟩)
          clear hxc hyc hx1 hy1
          generalize wt[k] = x at *
          go_wp2_with fail
          refine sched_begin NoB (by kernel_rfl) ?_
          have HUd := Lib.hid hU.out.drew
          refine sched_take 0 rfl (by kernel_rfl) (by kernel_rfl) (by kernel_rfl) (fun _ _ _ h => h) rfl (fun x hx => by go_simp; rfl) ?_
          go_simp
          refine sched_take 2 rfl (by kernel_rfl) (by kernel_rfl) (by kernel_rfl) (fun _ _ _ h => h) rfl (fun x hx => by go_simp; rfl) ?_
          go_simp
          refine sched_take 5 rfl (by kernel_rfl) (by kernel_rfl) (by kernel_rfl) (fun _ _ _ h => h) rfl (fun x hx => by go_simp; rfl) ?_
          go_simp
          refine sched_take 7 rfl (by kernel_rfl) (by kernel_rfl) (by kernel_rfl) (fun _ _ _ h => h) rfl (fun x hx => by go_simp; rfl) ?_
          go_simp
          refine sched_take 1 rfl (by kernel_rfl) (by kernel_rfl) (by kernel_rfl) (fun _ _ _ h => h) rfl (fun x hx => by obtain ⟨y0, y1, y2, y3, y4⟩ := hb.out _ (HUd.out.trans hx); go_simp; rfl) ?_
          go_simp
          refine sched_take 6 rfl (by kernel_rfl) (by kernel_rfl) (by kernel_rfl) (fun _ _ _ h => h) rfl (fun x hx => by obtain ⟨y0, y1, y2, y3, y4⟩ := hz.out _ (HUd.out.trans hx); go_simp; rfl) ?_
          go_simp
          refine sched_take 3 rfl (by kernel_rfl) (by kernel_rfl) (by kernel_rfl) (fun _ _ _ h => h) rfl (fun x hx => by go_simp; rfl) ?_
          go_simp
          refine sched_take 8 rfl (by kernel_rfl) (by kernel_rfl) (by kernel_rfl) (fun _ _ _ h => h) rfl (fun x hx => by go_simp; rfl) ?_
          go_simp
          refine sched_take 4 rfl (by kernel_rfl) (by kernel_rfl) (by kernel_rfl) (fun _ _ _ h => h) rfl (fun x hx => by obtain ⟨y0, y1, y2⟩ := hcx.out _ (HUd.out.trans hx); go_simp; rfl) ?_
          go_simp
          refine sched_take 9 rfl (by kernel_rfl) (by kernel_rfl) (by kernel_rfl) (fun _ _ _ h => h) rfl (fun x hx => by obtain ⟨y0, y1, y2⟩ := hcy.out _ (HUd.out.trans hx); go_simp; rfl) ?_
          go_simp
          refine sched_take 10 rfl (by kernel_rfl) (by kernel_rfl) (by kernel_rfl) (fun _ _ _ h => h) rfl (fun x hx => by go_simp; rfl) ?_
          go_simp
          refine sched_done (by kernel_rfl) ?_
          go_wp2_with fail
          go_roundw
          case measure => simp [intOf]; omega
          case rel => exact ⟨k + 1, by omega, by go_num, HUd⟩
        · obtain rfl : k = wt.length := by omega
          go_wp2_with fail
          go_ret
          exact ⟨rfl, HUa.out.trans hU.out⟩
set_option maxHeartbeats 8000000 in
set_option maxRecDepth 100000 in
theorem eesame_any {S T : Nat → Prop} (x : Ent) (A B A2 B2 : Option Addr) (c d c2 d2 : Nat) (w : World) (h1 : RSl Rep.rd w S (.slice A x.rd.length c) x.rd) (h2 : RSl Rep.wt w S (.slice B x.wr.length d) x.wr) (h3 : RSl Rep.rd w T (.slice A2 x.rd.length c2) x.rd) (h4 : RSl Rep.wt w T (.slice B2 x.wr.length d2) x.wr) (hsm : x.small) :
    Calls Try.prog 49 #[.agg #[.int .u64 x.ep, .int .i64 x.kd, .int .i64 x.tc, .int .u64 x.tq, .bool x.pl, .slice A x.rd.length c, .slice B x.wr.length d, .int .i64 x.ec, .int .u64 x.eq, .int .i64 x.cd],
      .agg #[.int .u64 x.ep, .int .i64 x.kd, .int .i64 x.tc, .int .u64 x.tq, .bool x.pl, .slice A2 x.rd.length c2, .slice B2 x.wr.length d2, .int .i64 x.ec, .int .u64 x.eq, .int .i64 x.cd]] w fun e w' => e = .returned (.bool true) ∧ Upd NoB w w' := by
  have HU := Lib.hid (fun o o' => ((Upd.refl NoB w).alloc o).alloc o')
  have htx := Lib.hid (fun z (hz : Upd NoB w z) => esametxn_any x.tc x.tq x.pl x.rd x.wr A B A2 B2 c d c2 d2 z (h1.upd hz (fun _ _ h => h)) (h2.upd hz (fun _ _ h => h)) (h3.upd hz (fun _ _ h => h)) (h4.upd hz (fun _ _ h => h)) hsm.1 hsm.2)
  obtain ⟨ep, kd, tc, tq, pl, rd, wt, ec, eq, cd⟩ := x
  simp only at htx
  clear h1 h2 h3 h4 hsm
  go_enter Try.func49, Try.ntmps49
  go_wp2_with fail
  refine (htx.out _ (HU.out _ _)).mono ?_
  rintro e w1 ⟨rfl, hu⟩
  have HU1 := Lib.hid ((HU.out _ _).trans hu)
  clear hu
  go_wp2_with fail
  go_ret
  exact ⟨rfl, HU1.out⟩
set_option maxHeartbeats 8000000 in
set_option maxRecDepth 100000 in
theorem ealike_any {S T : Nat → Prop} (u v : Value) (l : List Ent) (w : World) (h : RSl Rep.ent w S u l) (h' : RSl Rep.ent w T v l) (hl : l.length ≤ 100000) (hs : ∀ x ∈ l, x.small) :
    Calls Try.prog 46 #[u, v] w fun e w' => e = .returned (.bool true) ∧ Upd NoB w w' := by
  have HX := Lib.hid h
  have HY := Lib.hid h'
  have HS := Lib.hid hs
  have HU0 := Lib.hid (Upd.refl NoB w)
  obtain ⟨A, c, _, rfl, _⟩ := h
  obtain ⟨B, d, _, rfl, _⟩ := h'
  go_enter Try.func46, Try.ntmps46
  go_wp2_with fail
  go_loopw [13] (fun x13 wr => ∃ k : Nat, k ≤ l.length ∧ x13 = .int .i64 k ∧ Hid (Upd NoB w wr)) (fun x13 _ => l.length - (intOf x13).toNat)
  case atStart => exact ⟨0, by omega, rfl, HU0⟩
  case round =>
    obtain ⟨k, hk, rfl, hU⟩ := hrel
    by_cases hlt : k < l.length
    · have hdl : decide (k < l.length) = true := decide_eq_true hlt
      obtain ⟨g, o, A1, B1, m1, m2, rfl, hr1, hr2, hcx⟩ := ten_at (v := .bool true) HX.out hU.out k hlt
      obtain ⟨g2, o2, A2, B2, n1, n2, rfl, hs1, hs2, hcy⟩ := ten_at (v := .bool true) HY.out hU.out k hlt
      have hsm := HS.out _ (List.getElem_mem hlt)
      generalize l[k]'hlt = x at *
      have hes := Lib.hid (fun z (hz : Upd NoB wr z) => eesame_any x A1 B1 A2 B2 m1 m2 n1 n2 z (hr1.upd hz (fun _ _ h => h)) (hr2.upd hz (fun _ _ h => h)) (hs1.upd hz (fun _ _ h => h)) (hs2.upd hz (fun _ _ h => h)) hsm)
      have HCX := Lib.hid hcx
      have HCY := Lib.hid hcy
      clear hr1 hr2 hs1 hs2 hsm hcx hcy
      go_wp2_with fail
      refine sched_begin NoB (by kernel_rfl) ?_
      have HUd := Lib.hid (Upd.refl NoB wr).drew
      refine sched_take 0 rfl (by kernel_rfl) (by kernel_rfl) (by kernel_rfl) (fun _ _ _ h => h) rfl (fun x hx => by go_simp; rfl) ?_
      go_simp
      refine sched_take 1 rfl (by kernel_rfl) (by kernel_rfl) (by kernel_rfl) (fun _ _ _ h => h) rfl (fun x hx => by go_simp; rfl) ?_
      go_simp
      refine sched_take 2 rfl (by kernel_rfl) (by kernel_rfl) (by kernel_rfl) (fun _ _ _ h => h) rfl (fun x hx => by go_simp; rfl) ?_
      go_simp
      refine sched_take 4 rfl (by kernel_rfl) (by kernel_rfl) (by kernel_rfl) (fun _ _ _ h => h) rfl (fun x hx => by go_simp; rfl) ?_
      go_simp
      refine sched_take 5 rfl (by kernel_rfl) (by kernel_rfl) (by kernel_rfl) (fun _ _ _ h => h) rfl (fun x hx => by go_simp; rfl) ?_
      go_simp
      refine sched_take 6 rfl (by kernel_rfl) (by kernel_rfl) (by kernel_rfl) (fun _ _ _ h => h) rfl (fun x hx => by go_simp; rfl) ?_
      go_simp
      refine sched_take 3 rfl (by kernel_rfl) (by kernel_rfl) (by kernel_rfl) (fun _ _ _ h => h) rfl (fun x hx => by obtain ⟨y0, y1, y2, y3, y4, y5, y6, y7, y8, y9⟩ := HCX.out; replace y0 := hx.cell (HUd.out.cell y0 (fun h => h)) (fun h => h); replace y1 := hx.cell (HUd.out.cell y1 (fun h => h)) (fun h => h); replace y2 := hx.cell (HUd.out.cell y2 (fun h => h)) (fun h => h); replace y3 := hx.cell (HUd.out.cell y3 (fun h => h)) (fun h => h); replace y4 := hx.cell (HUd.out.cell y4 (fun h => h)) (fun h => h); replace y5 := hx.cell (HUd.out.cell y5 (fun h => h)) (fun h => h); replace y6 := hx.cell (HUd.out.cell y6 (fun h => h)) (fun h => h); replace y7 := hx.cell (HUd.out.cell y7 (fun h => h)) (fun h => h); replace y8 := hx.cell (HUd.out.cell y8 (fun h => h)) (fun h => h); replace y9 := hx.cell (HUd.out.cell y9 (fun h => h)) (fun h => h); go_simp; rfl) ?_
      go_simp
      refine sched_take 7 rfl (by kernel_rfl) (by kernel_rfl) (by kernel_rfl) (fun _ _ _ h => h) rfl (fun x hx => by obtain ⟨y0, y1, y2, y3, y4, y5, y6, y7, y8, y9⟩ := HCY.out; replace y0 := hx.cell (HUd.out.cell y0 (fun h => h)) (fun h => h); replace y1 := hx.cell (HUd.out.cell y1 (fun h => h)) (fun h => h); replace y2 := hx.cell (HUd.out.cell y2 (fun h => h)) (fun h => h); replace y3 := hx.cell (HUd.out.cell y3 (fun h => h)) (fun h => h); replace y4 := hx.cell (HUd.out.cell y4 (fun h => h)) (fun h => h); replace y5 := hx.cell (HUd.out.cell y5 (fun h => h)) (fun h => h); replace y6 := hx.cell (HUd.out.cell y6 (fun h => h)) (fun h => h); replace y7 := hx.cell (HUd.out.cell y7 (fun h => h)) (fun h => h); replace y8 := hx.cell (HUd.out.cell y8 (fun h => h)) (fun h => h); replace y9 := hx.cell (HUd.out.cell y9 (fun h => h)) (fun h => h); go_simp; rfl) ?_
      go_simp
      refine sched_alone 8 (by kernel_rfl) rfl rfl ?_
      go_simp
      refine (hes.out _ HUd.out).mono ?_
      rintro e w1 ⟨rfl, hu⟩
      refine ⟨hu, ?_⟩
      have HU1 := Lib.hid (hU.out.trans (HUd.out.trans hu))
      clear hu
      go_simp
      refine sched_take 9 rfl (by kernel_rfl) (by kernel_rfl) (by kernel_rfl) (fun _ _ _ h => h) rfl (fun x hx => by go_simp; rfl) ?_
      go_simp
      refine sched_done (by kernel_rfl) ?_
      go_wp2_with fail
      go_roundw
      case measure => simp [intOf]; omega
      case rel => exact ⟨k + 1, by omega, by go_num, HU1⟩
    · obtain rfl : k = l.length := by omega
      have hdl : decide (l.length < l.length) = false := by simp
      go_wp2_with fail
      go_ret
      exact ⟨rfl, hU.out⟩
/-! ### none and none -/
set_option maxHeartbeats 1000000 in
set_option maxRecDepth 100000 in
theorem eqr_nil (w : World) : Calls Try.prog 67 #[.slice none 0 0, .slice none 0 0] w fun e w' => e = .returned (.bool true) ∧ Upd NoB w w' := by
  have HU := Lib.hid (Upd.refl NoB w)
  go_enter Try.func67, Try.ntmps67
  go_wp2_with fail
  go_loopw [13] (fun x13 wr => x13 = .int .i64 0 ∧ Hid (Upd NoB w wr)) (fun _ _ => 0)
  case atStart => exact ⟨rfl, HU⟩
  case round =>
    obtain ⟨rfl, hU⟩ := hrel
    go_wp2_with fail
    go_ret
    exact ⟨rfl, hU.out⟩
set_option maxHeartbeats 1000000 in
set_option maxRecDepth 100000 in
theorem eqw_nil (w : World) : Calls Try.prog 68 #[.slice none 0 0, .slice none 0 0] w fun e w' => e = .returned (.bool true) ∧ Upd NoB w w' := by
  have HU := Lib.hid (Upd.refl NoB w)
  go_enter Try.func68, Try.ntmps68
  go_wp2_with fail
  go_loopw [13] (fun x13 wr => x13 = .int .i64 0 ∧ Hid (Upd NoB w wr)) (fun _ _ => 0)
  case atStart => exact ⟨rfl, HU⟩
  case round =>
    obtain ⟨rfl, hU⟩ := hrel
    go_wp2_with fail
    go_ret
    exact ⟨rfl, hU.out⟩
set_option maxHeartbeats 4000000 in
set_option maxRecDepth 100000 in
theorem zsame_any (w : World) : Calls Try.prog 50 #[.agg #[.int .u64 0, .int .i64 0, .int .i64 0, .int .u64 0, .bool false, .slice none 0 0, .slice none 0 0, .int .i64 0, .int .u64 0, .int .i64 0], .agg #[.int .u64 0, .int .i64 0, .int .i64 0, .int .u64 0, .bool false, .slice none 0 0, .slice none 0 0, .int .i64 0, .int .u64 0, .int .i64 0]] w fun e w' => e = .returned (.bool true) ∧ Upd NoB w w' := by
  obtain ⟨wa, hwa0, hua, hb0⟩ := two_world w #[.int .u64 0, .int .i64 0, .int .i64 0, .int .u64 0, .bool false, .slice none 0 0, .slice none 0 0, .int .i64 0, .int .u64 0, .int .i64 0] #[.int .u64 0, .int .i64 0, .int .i64 0, .int .u64 0, .bool false, .slice none 0 0, .slice none 0 0, .int .i64 0, .int .u64 0, .int .i64 0] 65 65
  have HUa := Lib.hid hua
  have hb := Lib.hid (fun y hy => ten_cells (hb0 y hy).1)
  have hz := Lib.hid (fun y hy => ten_cells (hb0 y hy).2)
  have h1 := Lib.hid eqr_nil
  have h2 := Lib.hid eqw_nil
  obtain ⟨y0, y1, y2, y3, y4, y5, y6, y7, y8, y9⟩ := hb.out _ (Upd.refl _ _)
  obtain ⟨z0, z1, z2, z3, z4, z5, z6, z7, z8, z9⟩ := hz.out _ (Upd.refl _ _)
  clear hua hb0
  go_enter Try.func50, Try.ntmps50
  go_wp2_with fail
  refine (h1.out _).mono ?_
  rintro e w1 ⟨rfl, hu⟩
  have HU1 := Lib.hid hu
  clear hu hwa0 y0 y1 y2 y3 y4 y5 y6 y7 y8 y9 z0 z1 z2 z3 z4 z5 z6 z7 z8 z9
  obtain ⟨y0, y1, y2, y3, y4, y5, y6, y7, y8, y9⟩ := hb.out _ HU1.out
  obtain ⟨z0, z1, z2, z3, z4, z5, z6, z7, z8, z9⟩ := hz.out _ HU1.out
  go_wp2_with fail
  refine (h2.out _).mono ?_
  rintro e w2 ⟨rfl, hu⟩
  have HU2 := Lib.hid (HU1.out.trans hu)
  clear hu
  go_wp2_with fail
  go_ret
  exact ⟨rfl, HUa.out.trans HU2.out⟩
end Go.Proofs.Ytobfolkcpfaplaa
