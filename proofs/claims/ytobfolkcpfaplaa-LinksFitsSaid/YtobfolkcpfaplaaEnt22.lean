/- Calls of both: the law's play. -/
import Derived.Test.YtobfolkcpfaplaaEnt21
import Derived.Deep.Cut
import Derived.Deep.CutRange
import Derived.Deep.CutBlock
namespace Go.Proofs.Ytobfolkcpfaplaa
open Go.RowKit Kit
set_option linter.unusedVariables false
theorem twelve_cells {x : World} {b : Nat} {T : TypeId} {fr : Nat × Nat} {c0 c1 c2 c3 c4 c5 c6 c7 c8 c9 c10 c11 : Value} (h : x.heap[b]? = some (.cells #[c0, c1, c2, c3, c4, c5, c6, c7, c8, c9, c10, c11] T fr)) :
    x.cell? ⟨b, 0, none⟩ = some c0 ∧ x.cell? ⟨b, 1, none⟩ = some c1 ∧ x.cell? ⟨b, 2, none⟩ = some c2 ∧ x.cell? ⟨b, 3, none⟩ = some c3 ∧ x.cell? ⟨b, 4, none⟩ = some c4 ∧ x.cell? ⟨b, 5, none⟩ = some c5 ∧ x.cell? ⟨b, 6, none⟩ = some c6 ∧ x.cell? ⟨b, 7, none⟩ = some c7 ∧ x.cell? ⟨b, 8, none⟩ = some c8 ∧ x.cell? ⟨b, 9, none⟩ = some c9 ∧ x.cell? ⟨b, 10, none⟩ = some c10 ∧ x.cell? ⟨b, 11, none⟩ = some c11 := by
  refine ⟨?_, ?_, ?_, ?_, ?_, ?_, ?_, ?_, ?_, ?_, ?_, ?_⟩ <;> simp only [World.cell?, h] <;> rfl
/-- What a call leads to. -/
def stepE (l : List Ent) (o : Eop) : List Ent :=
  if o.kd = 0 ∨ o.kd = 1 ∨ o.kd = 2 then (if rightB o.e.cut = true ∧ epE l l.length ≤ o.e.cut.ep then l ++ [o.e.cut] else l)
  else if o.kd = 3 then (if 0 ≤ o.n ∧ o.n ≤ (l.length : Int) then l.take o.n.toNat else l) else l
theorem cut_small (x : Ent) : x.cut.small := ⟨by simp only [Ent.cut, List.length_take]; omega, by simp only [Ent.cut, List.length_take]; omega⟩
set_option maxHeartbeats 16000000 in
set_option maxRecDepth 100000 in
theorem play_any {SA : Nat → Prop} (p : Nat) (v : Value) (ops : List Eop) (m : Nat) (w : World) (hm : m ≤ 30) (h : Lg NoB w p []) (ho : RSl Rep.eop w SA v ops) (hsp : ¬ SA p) :
    Calls Try.prog 28 #[.pointer (some ⟨p, 0, none⟩), v, .int .i64 m] w fun e w' => ∃ vw l S F, e = .returned (.tuple #[vw, .bool true]) ∧ PS w w' p S F l vw ∧ l.length ≤ 30 := by
  have HX := Lib.hid ho
  have HP0 := Lib.hid (PS.start h)
  have hsep := Lib.hid (show Sep SA (fun b => b = p) from fun b hb e => hsp (by rw [← show b = p from e]; exact hb))
  obtain ⟨A, c, _, rfl, d1, d2, _⟩ := ho
  have d2' : c ≤ 9223372036854775807 := d2
  clear h
  go_enter Try.func28, Try.ntmps28
  go_wp2_with fail
  go_loopw [8, 17] (fun x8 x17 wr => ∃ k : Nat, k ≤ ops.length ∧ k ≤ m ∧ x17 = .int .i64 k ∧ ∃ (l : List Ent) (S F : Nat → Prop), l.length ≤ k ∧ ∃ vw, x8 = vw ∧ Hid (PS w wr p S F l vw)) (fun _ x17 _ => ops.length - (intOf x17).toNat)
  case atStart => exact ⟨0, by omega, by omega, rfl, [], NoB, NoB, by simp, _, rfl, HP0⟩
  case round =>
    clear HP0
    obtain ⟨k, hk, hkm, rfl, l, S, F, hlk, vw, rfl, hP⟩ := hrel
    obtain ⟨Aw, cw, _, rfl, dw1, dw2, _⟩ := hP.out.rf
    by_cases hlt : k < ops.length
    · by_cases hkm2 : m ≤ k
      · have hd : decide (m ≤ k) = true := decide_eq_true hkm2
        have hl30 := Lib.hid (show l.length ≤ 30 by omega)
        obtain ⟨g, o, rcs, rfl, hrep, hcs, _⟩ := HX.out.cellN k hlt
        obtain ⟨va, vb, rfl, hr1, hr2, hwf0⟩ := hrep
        obtain ⟨A1, m1, rfl, _⟩ := hr1.shape
        obtain ⟨B1, m2, rfl, _⟩ := hr2.shape
        have hu := hP.out.upd
        have hg : ¬ g = p := fun e => hsp (by
          obtain ⟨_, _, _, e', _, _, _, _, h5⟩ := HX.out
          cases e'
          exact e ▸ (h5 _ rfl).2.1)
        have c0 : wr.cell? ⟨g, o + k * 12, none⟩ = some (.int .i64 ops[k].kd) := hu.cell (hcs 0 _ rfl) hg
        have c1 : wr.cell? ⟨g, o + k * 12 + 1, none⟩ = some (.int .u64 ops[k].e.ep) := hu.cell (hcs 1 _ rfl) hg
        have c2 : wr.cell? ⟨g, o + k * 12 + 2, none⟩ = some (.int .i64 ops[k].e.kd) := hu.cell (hcs 2 _ rfl) hg
        have c3 : wr.cell? ⟨g, o + k * 12 + 3, none⟩ = some (.int .i64 ops[k].e.tc) := hu.cell (hcs 3 _ rfl) hg
        have c4 : wr.cell? ⟨g, o + k * 12 + 4, none⟩ = some (.int .u64 ops[k].e.tq) := hu.cell (hcs 4 _ rfl) hg
        have c5 : wr.cell? ⟨g, o + k * 12 + 5, none⟩ = some (.bool ops[k].e.pl) := hu.cell (hcs 5 _ rfl) hg
        have c6 := hu.cell (hcs 6 _ rfl) hg
        have c7 := hu.cell (hcs 7 _ rfl) hg
        have c8 : wr.cell? ⟨g, o + k * 12 + 8, none⟩ = some (.int .i64 ops[k].e.ec) := hu.cell (hcs 8 _ rfl) hg
        have c9 : wr.cell? ⟨g, o + k * 12 + 9, none⟩ = some (.int .u64 ops[k].e.eq) := hu.cell (hcs 9 _ rfl) hg
        have c10 : wr.cell? ⟨g, o + k * 12 + 10, none⟩ = some (.int .i64 ops[k].e.cd) := hu.cell (hcs 10 _ rfl) hg
        have c11 : wr.cell? ⟨g, o + k * 12 + 11, none⟩ = some (.int .i64 ops[k].n) := hu.cell (hcs 11 _ rfl) hg
        rw [show Rep.eop.sz = 12 from rfl] at c6 c7
        generalize ops[k] = x at *
        have HPo := Lib.hid (fun ob => hP.out.keep ((Upd.refl NoB wr).alloc ob))
        clear hcs hu hr1 hr2 hwf0
        go_wp2_with fail
        go_ret2
        exact ⟨_, l, S, F, rfl, HPo.out _, hl30.out⟩
      · have hd : decide (m ≤ k) = false := decide_eq_false hkm2
        obtain ⟨g, o, rcs, rfl, hrep, hcs, _⟩ := HX.out.cellN k hlt
        obtain ⟨va, vb, rfl, hr1, hr2, hwf0⟩ := hrep
        obtain ⟨A1, m1, rfl, _⟩ := hr1.shape
        obtain ⟨B1, m2, rfl, _⟩ := hr2.shape
        have hu := hP.out.upd
        have hg : ¬ g = p := fun e => hsp (by
          obtain ⟨_, _, _, e', _, _, _, _, h5⟩ := HX.out
          cases e'
          exact e ▸ (h5 _ rfl).2.1)
        have c0 : wr.cell? ⟨g, o + k * 12, none⟩ = some (.int .i64 ops[k].kd) := hu.cell (hcs 0 _ rfl) hg
        have c1 : wr.cell? ⟨g, o + k * 12 + 1, none⟩ = some (.int .u64 ops[k].e.ep) := hu.cell (hcs 1 _ rfl) hg
        have c2 : wr.cell? ⟨g, o + k * 12 + 2, none⟩ = some (.int .i64 ops[k].e.kd) := hu.cell (hcs 2 _ rfl) hg
        have c3 : wr.cell? ⟨g, o + k * 12 + 3, none⟩ = some (.int .i64 ops[k].e.tc) := hu.cell (hcs 3 _ rfl) hg
        have c4 : wr.cell? ⟨g, o + k * 12 + 4, none⟩ = some (.int .u64 ops[k].e.tq) := hu.cell (hcs 4 _ rfl) hg
        have c5 : wr.cell? ⟨g, o + k * 12 + 5, none⟩ = some (.bool ops[k].e.pl) := hu.cell (hcs 5 _ rfl) hg
        have c6 := hu.cell (hcs 6 _ rfl) hg
        have c7 := hu.cell (hcs 7 _ rfl) hg
        have c8 : wr.cell? ⟨g, o + k * 12 + 8, none⟩ = some (.int .i64 ops[k].e.ec) := hu.cell (hcs 8 _ rfl) hg
        have c9 : wr.cell? ⟨g, o + k * 12 + 9, none⟩ = some (.int .u64 ops[k].e.eq) := hu.cell (hcs 9 _ rfl) hg
        have c10 : wr.cell? ⟨g, o + k * 12 + 10, none⟩ = some (.int .i64 ops[k].e.cd) := hu.cell (hcs 10 _ rfl) hg
        have c11 : wr.cell? ⟨g, o + k * 12 + 11, none⟩ = some (.int .i64 ops[k].n) := hu.cell (hcs 11 _ rfl) hg
        rw [show Rep.eop.sz = 12 from rfl] at c6 c7
        have hlr := Lib.hid (show ops[k].e.rd.length ≤ 9223372036854775807 ∧ ops[k].e.wr.length ≤ 9223372036854775807 from by
          obtain ⟨_, _, _, q1, q2⟩ := hr1.shape
          obtain ⟨_, _, _, q3, q4⟩ := hr2.shape
          exact ⟨Nat.le_trans q1 q2, Nat.le_trans q3 q4⟩)
        have hwf := Lib.hid hwf0
        have hrr := Lib.hid (fun z (hz : Upd NoB wr z) => hr1.upd (hP.out.upd.then hz (fun _ _ h => h.elim)) hsep.out)
        have hrw := Lib.hid (fun z (hz : Upd NoB wr z) => hr2.upd (hP.out.upd.then hz (fun _ _ h => h.elim)) hsep.out)
        generalize ops[k] = x at *
        obtain ⟨kd, y, nn⟩ := x
        simp only at c0 c1 c2 c3 c4 c5 c6 c7 c8 c9 c10 c11
        dsimp only at hlr hwf hrr hrw
        obtain ⟨wa, hwa⟩ : ∃ wa, wr.alloc (.cells #[.int .i64 kd, .int .u64 y.ep, .int .i64 y.kd, .int .i64 y.tc, .int .u64 y.tq, .bool y.pl, .slice A1 y.rd.length m1, .slice B1 y.wr.length m2, .int .i64 y.ec, .int .u64 y.eq, .int .i64 y.cd, .int .i64 nn] 116) = wa := ⟨_, rfl⟩
        have hua : Upd NoB wr wa := by rw [← hwa]; exact (Upd.refl _ _).alloc _
        have hB := Lib.hid (show wa.heap[wr.heap.size]? = some (.cells #[.int .i64 kd, .int .u64 y.ep, .int .i64 y.kd, .int .i64 y.tc, .int .u64 y.tq, .bool y.pl, .slice A1 y.rd.length m1, .slice B1 y.wr.length m2, .int .i64 y.ec, .int .u64 y.eq, .int .i64 y.cd, .int .i64 nn] 116 (0, 0)) by rw [← hwa]; exact heap_alloc_new _ _)
        have HUa := Lib.hid hua
        have HPa := Lib.hid (hP.out.keep hua)
        have hBp := Lib.hid (fun (e : wr.heap.size = p ∨ S wr.heap.size) => show False from e.elim (fun e => by have := hP.out.lg.lt; omega) (fun e => by have := hP.out.lg.2.2 _ e; omega))
        have hours := Lib.hid (fun z (hz : Upd NoB wr z) => eours_any y A1 B1 m1 m2 z (hrr.out z hz) (hrw.out z hz) hlr.out.1 hlr.out.2)
        obtain ⟨x0, x1, x2, x3, x4, x5, x6, x7, x8, x9, x10, x11⟩ := twelve_cells hB.out
        have hl30 : l.length < 400 := by omega
        clear hr1 hr2 hcs hu hua
        go_upto_block 2 with fail
        clear c0 c1 c2 c3 c4 c5 c6 c7 c8 c9 c10 c11 hwa
        by_cases hk0 : kd = 0 ∨ kd = 1 ∨ kd = 2
        · rcases hk0 with rfl | rfl | rfl
          · skip
            go_wp2_with fail
            refine (hours.out _ HUa.out).mono ?_
            rintro e w1 ⟨cs, rfl, hre, hu⟩
            have HU1 := Lib.hid (HUa.out.trans hu)
            have HE1 := Lib.hid hre
            obtain ⟨A2, B2, n1, n2, rfl, hE1, hE2⟩ := ent_agg hre
            have HE1r := Lib.hid hE1
            have HE1w := Lib.hid hE2
            obtain ⟨wx, hwx0⟩ : ∃ wx, w1.alloc (.cells #[.int .u64 y.cut.ep, .int .i64 y.cut.kd, .int .i64 y.cut.tc, .int .u64 y.cut.tq, .bool y.cut.pl, .slice A2 y.cut.rd.length n1, .slice B2 y.cut.wr.length n2, .int .i64 y.cut.ec, .int .u64 y.cut.eq, .int .i64 y.cut.cd] 65) = wx := ⟨_, rfl⟩
            have hux : Upd NoB w1 wx := by rw [← hwx0]; exact (Upd.refl _ _).alloc _
            have hBx := Lib.hid (show wx.heap[w1.heap.size]? = some (.cells #[.int .u64 y.cut.ep, .int .i64 y.cut.kd, .int .i64 y.cut.tc, .int .u64 y.cut.tq, .bool y.cut.pl, .slice A2 y.cut.rd.length n1, .slice B2 y.cut.wr.length n2, .int .i64 y.cut.ec, .int .u64 y.cut.eq, .int .i64 y.cut.cd] 65 (0, 0)) by rw [← hwx0]; exact heap_alloc_new _ _)
            have HUx := Lib.hid (HU1.out.trans hux)
            have hpl := Lib.hid (fun z (hz : Upd NoB w1 z) => eplain_any y.cut A2 B2 n1 n2 z (.inr (HE1r.out.upd hz (fun _ _ h => h))) (.inr (HE1w.out.upd hz (fun _ _ h => h))) (cut_small y).1 (cut_small y).2)
            obtain ⟨x0, x1, x2, x3, x4, x5, x6, x7, x8, x9⟩ := ten_cells hBx.out
            have HUX := Lib.hid hux
            have hyc := Lib.hid (And.intro (show 0 ≤ y.cut.tq from hwf.out.2.1) (And.intro (show 0 ≤ y.cut.eq from hwf.out.2.2) (show 0 ≤ y.cut.ep from hwf.out.1)))
            have hcs := Lib.hid (cut_small y)
            generalize y.cut = z at *
            go_wp2_with fail
            refine (hpl.out _ HUX.out).mono ?_
            rintro e w2 ⟨cs2, rfl, hre2, hu2⟩
            obtain ⟨A3, B3, n3, n4, rfl, hG1, hG2⟩ := ent_agg hre2
            have HU2 := Lib.hid (HUx.out.trans hu2)
            have HV2 := Lib.hid (HUX.out.trans hu2)
            have HW2 := Lib.hid hu2
            have HP2 := Lib.hid (hP.out.keep HU2.out)
            clear hre2
            by_cases hr : rightB z = true ∧ epE l l.length ≤ z.ep
            · have hra := Lib.hid (refadd_ok (F := F) (T := grow NoB wx w2) _ l z A3 B3 n3 n4 w2 HP2.out.rf HP2.out.bf hG1 hG2 (Bd.grow _ _ _) hcs.out hyc.out.1 hyc.out.2.1 (by omega) hr.1 hr.2)
              have hpa := Lib.hid (fun q (hq : Upd NoB w2 q) => eadd_ok (S := S) (T := grow NoB wa w1) p l z A2 B2 n1 n2 q (HP2.out.keep hq).lg (HE1r.out.upd (HV2.out.trans hq) (fun _ _ h => h)) (HE1w.out.upd (HV2.out.trans hq) (fun _ _ h => h)) hcs.out hyc.out.1 hyc.out.2.1 (by omega) hr.1 hr.2)
              have hF := Lib.hid (fun (q : World) b (hb : ((F b ∨ grow NoB wx w2 b) ∨ w2.heap.size ≤ b) ∧ b < q.heap.size) => show (F b ∨ wr.heap.size ≤ b) ∧ b < q.heap.size from ⟨by
                have h1 := HUx.out.size
                have h2 := HU2.out.size
                rcases hb.1 with (h | h) | h
                · exact .inl h
                · have := (grow_old h).1; exact .inr (by omega)
                · exact .inr (by omega), hb.2⟩)
              obtain ⟨L, hL⟩ : ∃ L, l ++ [z] = L := ⟨_, rfl⟩
              have hadd := Lib.hid (fun q (hq : Upd NoB w2 q) v' F' hF' hr' y hl' hu' => PS.added hP.out (HU2.out.trans hq) (v' := v') (e := z) (F' := F') hF' hr' (y := y) hl' hu' hcs.out)
              rw [hL] at hra hpa hadd
              have hLl : L.length ≤ k + 1 := by rw [← hL]; simp; omega
              clear hL hr hG1 hG2 hu2 hux
              go_wp2_with fail
              refine hra.out.mono ?_
              rintro e w3 ⟨v', rfl, hrs, hu3⟩
              have HRS := Lib.hid hrs
              have HU3 := Lib.hid hu3
              obtain ⟨A5, c5, _, rfl, _⟩ := hrs
              clear hu3 hwx0 x0 x1 x2 x3 x4 x5 x6 x7 x8 x9
              obtain ⟨x0, x1, x2, x3, x4, x5, x6, x7, x8, x9⟩ := ten_cells ((HW2.out.trans HU3.out).heap hBx.out (fun h => h))
              go_wp2_with fail
              refine (hpa.out _ HU3.out).mono ?_
              rintro e w4 ⟨rfl, hlg, hu4⟩
              have HP9 := Lib.hid (hadd.out w3 HU3.out _ _ (hF.out w3) HRS.out w4 hlg hu4)
              clear hlg hu4
              go_wp2_with fail
              refine (elen_any p L _ HP9.out.lg.read).mono ?_
              rintro e w10 ⟨rfl, hu⟩
              have HP10 := Lib.hid (HP9.out.keep hu)
              clear hu
              go_wp2_with fail
              go_roundw
              case measure => simp [intOf]; omega
              case rel => exact ⟨k + 1, by omega, by omega, by go_num, L, _, _, by omega, _, rfl, HP10⟩
            · have hra := Lib.hid (refadd_no (S := F) (T := grow NoB wx w2) _ l z A3 B3 n3 n4 w2 HP2.out.rf hG1 hG2 hcs.out hyc.out.1 hyc.out.2.1 hyc.out.2.2 (by omega) hr)
              have hpa := Lib.hid (fun q (hq : Upd NoB w2 q) => eadd_no (S := S) (T := grow NoB wa w1) p l z A2 B2 n1 n2 q (HP2.out.keep hq).lg (HE1r.out.upd (HV2.out.trans hq) (fun _ _ h => h)) (HE1w.out.upd (HV2.out.trans hq) (fun _ _ h => h)) hcs.out hyc.out.1 hyc.out.2.1 (by omega) hr)
              clear hr hG1 hG2 hu2 hux
              go_wp2_with fail
              refine hra.out.mono ?_
              rintro e w3 ⟨rfl, hu3⟩
              have HU3 := Lib.hid hu3
              clear hu3 hwx0 x0 x1 x2 x3 x4 x5 x6 x7 x8 x9
              obtain ⟨x0, x1, x2, x3, x4, x5, x6, x7, x8, x9⟩ := ten_cells ((HW2.out.trans HU3.out).heap hBx.out (fun h => h))
              go_wp2_with fail
              refine (hpa.out _ HU3.out).mono ?_
              rintro e w4 ⟨rfl, hu4⟩
              have HP9 := Lib.hid (HP2.out.keep (HU3.out.trans hu4))
              clear hu4
              go_wp2_with fail
              refine (elen_any p l _ HP9.out.lg.read).mono ?_
              rintro e w10 ⟨rfl, hu⟩
              have HP10 := Lib.hid (HP9.out.keep hu)
              clear hu
              go_wp2_with fail
              go_roundw
              case measure => simp [intOf]; omega
              case rel => exact ⟨k + 1, by omega, by omega, by go_num, l, _, _, by omega, _, rfl, HP10⟩
          · skip
            go_wp2_with fail
            refine (hours.out _ HUa.out).mono ?_
            rintro e w1 ⟨cs, rfl, hre, hu⟩
            have HU1 := Lib.hid (HUa.out.trans hu)
            have HE1 := Lib.hid hre
            obtain ⟨A2, B2, n1, n2, rfl, hE1, hE2⟩ := ent_agg hre
            have HE1r := Lib.hid hE1
            have HE1w := Lib.hid hE2
            obtain ⟨wx, hwx0⟩ : ∃ wx, w1.alloc (.cells #[.int .u64 y.cut.ep, .int .i64 y.cut.kd, .int .i64 y.cut.tc, .int .u64 y.cut.tq, .bool y.cut.pl, .slice A2 y.cut.rd.length n1, .slice B2 y.cut.wr.length n2, .int .i64 y.cut.ec, .int .u64 y.cut.eq, .int .i64 y.cut.cd] 65) = wx := ⟨_, rfl⟩
            have hux : Upd NoB w1 wx := by rw [← hwx0]; exact (Upd.refl _ _).alloc _
            have hBx := Lib.hid (show wx.heap[w1.heap.size]? = some (.cells #[.int .u64 y.cut.ep, .int .i64 y.cut.kd, .int .i64 y.cut.tc, .int .u64 y.cut.tq, .bool y.cut.pl, .slice A2 y.cut.rd.length n1, .slice B2 y.cut.wr.length n2, .int .i64 y.cut.ec, .int .u64 y.cut.eq, .int .i64 y.cut.cd] 65 (0, 0)) by rw [← hwx0]; exact heap_alloc_new _ _)
            have HUx := Lib.hid (HU1.out.trans hux)
            have hpl := Lib.hid (fun z (hz : Upd NoB w1 z) => eplain_any y.cut A2 B2 n1 n2 z (.inr (HE1r.out.upd hz (fun _ _ h => h))) (.inr (HE1w.out.upd hz (fun _ _ h => h))) (cut_small y).1 (cut_small y).2)
            obtain ⟨x0, x1, x2, x3, x4, x5, x6, x7, x8, x9⟩ := ten_cells hBx.out
            have HUX := Lib.hid hux
            have hyc := Lib.hid (And.intro (show 0 ≤ y.cut.tq from hwf.out.2.1) (And.intro (show 0 ≤ y.cut.eq from hwf.out.2.2) (show 0 ≤ y.cut.ep from hwf.out.1)))
            have hcs := Lib.hid (cut_small y)
            generalize y.cut = z at *
            go_wp2_with fail
            refine (hpl.out _ HUX.out).mono ?_
            rintro e w2 ⟨cs2, rfl, hre2, hu2⟩
            obtain ⟨A3, B3, n3, n4, rfl, hG1, hG2⟩ := ent_agg hre2
            have HU2 := Lib.hid (HUx.out.trans hu2)
            have HV2 := Lib.hid (HUX.out.trans hu2)
            have HW2 := Lib.hid hu2
            have HP2 := Lib.hid (hP.out.keep HU2.out)
            clear hre2
            by_cases hr : rightB z = true ∧ epE l l.length ≤ z.ep
            · have hra := Lib.hid (refadd_ok (F := F) (T := grow NoB wx w2) _ l z A3 B3 n3 n4 w2 HP2.out.rf HP2.out.bf hG1 hG2 (Bd.grow _ _ _) hcs.out hyc.out.1 hyc.out.2.1 (by omega) hr.1 hr.2)
              have hpa := Lib.hid (fun q (hq : Upd NoB w2 q) => eadd_ok (S := S) (T := grow NoB wa w1) p l z A2 B2 n1 n2 q (HP2.out.keep hq).lg (HE1r.out.upd (HV2.out.trans hq) (fun _ _ h => h)) (HE1w.out.upd (HV2.out.trans hq) (fun _ _ h => h)) hcs.out hyc.out.1 hyc.out.2.1 (by omega) hr.1 hr.2)
              have hF := Lib.hid (fun (q : World) b (hb : ((F b ∨ grow NoB wx w2 b) ∨ w2.heap.size ≤ b) ∧ b < q.heap.size) => show (F b ∨ wr.heap.size ≤ b) ∧ b < q.heap.size from ⟨by
                have h1 := HUx.out.size
                have h2 := HU2.out.size
                rcases hb.1 with (h | h) | h
                · exact .inl h
                · have := (grow_old h).1; exact .inr (by omega)
                · exact .inr (by omega), hb.2⟩)
              obtain ⟨L, hL⟩ : ∃ L, l ++ [z] = L := ⟨_, rfl⟩
              have hadd := Lib.hid (fun q (hq : Upd NoB w2 q) v' F' hF' hr' y hl' hu' => PS.added hP.out (HU2.out.trans hq) (v' := v') (e := z) (F' := F') hF' hr' (y := y) hl' hu' hcs.out)
              rw [hL] at hra hpa hadd
              have hLl : L.length ≤ k + 1 := by rw [← hL]; simp; omega
              clear hL hr hG1 hG2 hu2 hux
              go_wp2_with fail
              refine hra.out.mono ?_
              rintro e w3 ⟨v', rfl, hrs, hu3⟩
              have HRS := Lib.hid hrs
              have HU3 := Lib.hid hu3
              obtain ⟨A5, c5, _, rfl, _⟩ := hrs
              clear hu3 hwx0 x0 x1 x2 x3 x4 x5 x6 x7 x8 x9
              obtain ⟨x0, x1, x2, x3, x4, x5, x6, x7, x8, x9⟩ := ten_cells ((HW2.out.trans HU3.out).heap hBx.out (fun h => h))
              go_wp2_with fail
              refine (hpa.out _ HU3.out).mono ?_
              rintro e w4 ⟨rfl, hlg, hu4⟩
              have HP9 := Lib.hid (hadd.out w3 HU3.out _ _ (hF.out w3) HRS.out w4 hlg hu4)
              clear hlg hu4
              go_wp2_with fail
              refine (elen_any p L _ HP9.out.lg.read).mono ?_
              rintro e w10 ⟨rfl, hu⟩
              have HP10 := Lib.hid (HP9.out.keep hu)
              clear hu
              go_wp2_with fail
              go_roundw
              case measure => simp [intOf]; omega
              case rel => exact ⟨k + 1, by omega, by omega, by go_num, L, _, _, by omega, _, rfl, HP10⟩
            · have hra := Lib.hid (refadd_no (S := F) (T := grow NoB wx w2) _ l z A3 B3 n3 n4 w2 HP2.out.rf hG1 hG2 hcs.out hyc.out.1 hyc.out.2.1 hyc.out.2.2 (by omega) hr)
              have hpa := Lib.hid (fun q (hq : Upd NoB w2 q) => eadd_no (S := S) (T := grow NoB wa w1) p l z A2 B2 n1 n2 q (HP2.out.keep hq).lg (HE1r.out.upd (HV2.out.trans hq) (fun _ _ h => h)) (HE1w.out.upd (HV2.out.trans hq) (fun _ _ h => h)) hcs.out hyc.out.1 hyc.out.2.1 (by omega) hr)
              clear hr hG1 hG2 hu2 hux
              go_wp2_with fail
              refine hra.out.mono ?_
              rintro e w3 ⟨rfl, hu3⟩
              have HU3 := Lib.hid hu3
              clear hu3 hwx0 x0 x1 x2 x3 x4 x5 x6 x7 x8 x9
              obtain ⟨x0, x1, x2, x3, x4, x5, x6, x7, x8, x9⟩ := ten_cells ((HW2.out.trans HU3.out).heap hBx.out (fun h => h))
              go_wp2_with fail
              refine (hpa.out _ HU3.out).mono ?_
              rintro e w4 ⟨rfl, hu4⟩
              have HP9 := Lib.hid (HP2.out.keep (HU3.out.trans hu4))
              clear hu4
              go_wp2_with fail
              refine (elen_any p l _ HP9.out.lg.read).mono ?_
              rintro e w10 ⟨rfl, hu⟩
              have HP10 := Lib.hid (HP9.out.keep hu)
              clear hu
              go_wp2_with fail
              go_roundw
              case measure => simp [intOf]; omega
              case rel => exact ⟨k + 1, by omega, by omega, by go_num, l, _, _, by omega, _, rfl, HP10⟩
          · skip
            go_wp2_with fail
            refine (hours.out _ HUa.out).mono ?_
            rintro e w1 ⟨cs, rfl, hre, hu⟩
            have HU1 := Lib.hid (HUa.out.trans hu)
            have HE1 := Lib.hid hre
            obtain ⟨A2, B2, n1, n2, rfl, hE1, hE2⟩ := ent_agg hre
            have HE1r := Lib.hid hE1
            have HE1w := Lib.hid hE2
            obtain ⟨wx, hwx0⟩ : ∃ wx, w1.alloc (.cells #[.int .u64 y.cut.ep, .int .i64 y.cut.kd, .int .i64 y.cut.tc, .int .u64 y.cut.tq, .bool y.cut.pl, .slice A2 y.cut.rd.length n1, .slice B2 y.cut.wr.length n2, .int .i64 y.cut.ec, .int .u64 y.cut.eq, .int .i64 y.cut.cd] 65) = wx := ⟨_, rfl⟩
            have hux : Upd NoB w1 wx := by rw [← hwx0]; exact (Upd.refl _ _).alloc _
            have hBx := Lib.hid (show wx.heap[w1.heap.size]? = some (.cells #[.int .u64 y.cut.ep, .int .i64 y.cut.kd, .int .i64 y.cut.tc, .int .u64 y.cut.tq, .bool y.cut.pl, .slice A2 y.cut.rd.length n1, .slice B2 y.cut.wr.length n2, .int .i64 y.cut.ec, .int .u64 y.cut.eq, .int .i64 y.cut.cd] 65 (0, 0)) by rw [← hwx0]; exact heap_alloc_new _ _)
            have HUx := Lib.hid (HU1.out.trans hux)
            have hpl := Lib.hid (fun z (hz : Upd NoB w1 z) => eplain_any y.cut A2 B2 n1 n2 z (.inr (HE1r.out.upd hz (fun _ _ h => h))) (.inr (HE1w.out.upd hz (fun _ _ h => h))) (cut_small y).1 (cut_small y).2)
            obtain ⟨x0, x1, x2, x3, x4, x5, x6, x7, x8, x9⟩ := ten_cells hBx.out
            have HUX := Lib.hid hux
            have hyc := Lib.hid (And.intro (show 0 ≤ y.cut.tq from hwf.out.2.1) (And.intro (show 0 ≤ y.cut.eq from hwf.out.2.2) (show 0 ≤ y.cut.ep from hwf.out.1)))
            have hcs := Lib.hid (cut_small y)
            generalize y.cut = z at *
            go_wp2_with fail
            refine (hpl.out _ HUX.out).mono ?_
            rintro e w2 ⟨cs2, rfl, hre2, hu2⟩
            obtain ⟨A3, B3, n3, n4, rfl, hG1, hG2⟩ := ent_agg hre2
            have HU2 := Lib.hid (HUx.out.trans hu2)
            have HV2 := Lib.hid (HUX.out.trans hu2)
            have HW2 := Lib.hid hu2
            have HP2 := Lib.hid (hP.out.keep HU2.out)
            clear hre2
            by_cases hr : rightB z = true ∧ epE l l.length ≤ z.ep
            · have hra := Lib.hid (refadd_ok (F := F) (T := grow NoB wx w2) _ l z A3 B3 n3 n4 w2 HP2.out.rf HP2.out.bf hG1 hG2 (Bd.grow _ _ _) hcs.out hyc.out.1 hyc.out.2.1 (by omega) hr.1 hr.2)
              have hpa := Lib.hid (fun q (hq : Upd NoB w2 q) => eadd_ok (S := S) (T := grow NoB wa w1) p l z A2 B2 n1 n2 q (HP2.out.keep hq).lg (HE1r.out.upd (HV2.out.trans hq) (fun _ _ h => h)) (HE1w.out.upd (HV2.out.trans hq) (fun _ _ h => h)) hcs.out hyc.out.1 hyc.out.2.1 (by omega) hr.1 hr.2)
              have hF := Lib.hid (fun (q : World) b (hb : ((F b ∨ grow NoB wx w2 b) ∨ w2.heap.size ≤ b) ∧ b < q.heap.size) => show (F b ∨ wr.heap.size ≤ b) ∧ b < q.heap.size from ⟨by
                have h1 := HUx.out.size
                have h2 := HU2.out.size
                rcases hb.1 with (h | h) | h
                · exact .inl h
                · have := (grow_old h).1; exact .inr (by omega)
                · exact .inr (by omega), hb.2⟩)
              obtain ⟨L, hL⟩ : ∃ L, l ++ [z] = L := ⟨_, rfl⟩
              have hadd := Lib.hid (fun q (hq : Upd NoB w2 q) v' F' hF' hr' y hl' hu' => PS.added hP.out (HU2.out.trans hq) (v' := v') (e := z) (F' := F') hF' hr' (y := y) hl' hu' hcs.out)
              rw [hL] at hra hpa hadd
              have hLl : L.length ≤ k + 1 := by rw [← hL]; simp; omega
              clear hL hr hG1 hG2 hu2 hux
              go_wp2_with fail
              refine hra.out.mono ?_
              rintro e w3 ⟨v', rfl, hrs, hu3⟩
              have HRS := Lib.hid hrs
              have HU3 := Lib.hid hu3
              obtain ⟨A5, c5, _, rfl, _⟩ := hrs
              clear hu3 hwx0 x0 x1 x2 x3 x4 x5 x6 x7 x8 x9
              obtain ⟨x0, x1, x2, x3, x4, x5, x6, x7, x8, x9⟩ := ten_cells ((HW2.out.trans HU3.out).heap hBx.out (fun h => h))
              go_wp2_with fail
              refine (hpa.out _ HU3.out).mono ?_
              rintro e w4 ⟨rfl, hlg, hu4⟩
              have HP9 := Lib.hid (hadd.out w3 HU3.out _ _ (hF.out w3) HRS.out w4 hlg hu4)
              clear hlg hu4
              go_wp2_with fail
              refine (elen_any p L _ HP9.out.lg.read).mono ?_
              rintro e w10 ⟨rfl, hu⟩
              have HP10 := Lib.hid (HP9.out.keep hu)
              clear hu
              go_wp2_with fail
              go_roundw
              case measure => simp [intOf]; omega
              case rel => exact ⟨k + 1, by omega, by omega, by go_num, L, _, _, by omega, _, rfl, HP10⟩
            · have hra := Lib.hid (refadd_no (S := F) (T := grow NoB wx w2) _ l z A3 B3 n3 n4 w2 HP2.out.rf hG1 hG2 hcs.out hyc.out.1 hyc.out.2.1 hyc.out.2.2 (by omega) hr)
              have hpa := Lib.hid (fun q (hq : Upd NoB w2 q) => eadd_no (S := S) (T := grow NoB wa w1) p l z A2 B2 n1 n2 q (HP2.out.keep hq).lg (HE1r.out.upd (HV2.out.trans hq) (fun _ _ h => h)) (HE1w.out.upd (HV2.out.trans hq) (fun _ _ h => h)) hcs.out hyc.out.1 hyc.out.2.1 (by omega) hr)
              clear hr hG1 hG2 hu2 hux
              go_wp2_with fail
              refine hra.out.mono ?_
              rintro e w3 ⟨rfl, hu3⟩
              have HU3 := Lib.hid hu3
              clear hu3 hwx0 x0 x1 x2 x3 x4 x5 x6 x7 x8 x9
              obtain ⟨x0, x1, x2, x3, x4, x5, x6, x7, x8, x9⟩ := ten_cells ((HW2.out.trans HU3.out).heap hBx.out (fun h => h))
              go_wp2_with fail
              refine (hpa.out _ HU3.out).mono ?_
              rintro e w4 ⟨rfl, hu4⟩
              have HP9 := Lib.hid (HP2.out.keep (HU3.out.trans hu4))
              clear hu4
              go_wp2_with fail
              refine (elen_any p l _ HP9.out.lg.read).mono ?_
              rintro e w10 ⟨rfl, hu⟩
              have HP10 := Lib.hid (HP9.out.keep hu)
              clear hu
              go_wp2_with fail
              go_roundw
              case measure => simp [intOf]; omega
              case rel => exact ⟨k + 1, by omega, by omega, by go_num, l, _, _, by omega, _, rfl, HP10⟩
        · have n0 : (kd == 0) = false := beq_eq_false_iff_ne.2 (by omega)
          have n1 : (kd == 1) = false := beq_eq_false_iff_ne.2 (by omega)
          have n2 : (kd == 2) = false := beq_eq_false_iff_ne.2 (by omega)
          clear hk0 hours
          by_cases hk3 : kd = 3
          · subst hk3
            clear n0 n1 n2
            by_cases hin : 0 ≤ nn ∧ nn ≤ (l.length : Int)
            · have d0 : decide (0 ≤ nn) = true := decide_eq_true hin.1
              obtain ⟨q, rfl⟩ : ∃ q : Nat, nn = q := Int.eq_ofNat_of_zero_le hin.1
              have hql : q ≤ l.length := by omega
              have dq : decide (q ≤ l.length) = true := decide_eq_true hql
              have hqc : q ≤ cw := by omega
              have hcut := Lib.hid (ecut_ok (S := S) p l q wa HPa.out.lg (by omega) hql)
              obtain ⟨L, hL⟩ : ∃ L, l.take q = L := ⟨_, rfl⟩
              have hLl : L.length ≤ k + 1 := by rw [← hL, List.length_take]; omega
              have hLq : L.length = q := by rw [← hL, List.length_take]; omega
              have hpc := Lib.hid (fun v' (hr' : RSl Rep.ent wa F v' (l.take q)) yy hl' hu' => PS.cut hP.out HUa.out q (v' := v') hr' (y := yy) hl' hu')
              rw [hL] at hcut hpc
              have hk31 : Hid (L.length = q) := Lib.hid hLq
              clear hin
              cases Aw with
              | none =>
                have h0 : l.length = 0 ∧ cw = 0 := by
                  obtain ⟨_, _, _, e', _, _, _, h6, _⟩ := hP.out.rf
                  cases e'
                  have := h6 rfl
                  omega
                obtain ⟨h01, h02⟩ := h0
                subst h02
                have hq0 : q = 0 := by omega
                subst hq0
                have hL0 : L = [] := List.eq_nil_of_length_eq_zero hLq
                subst hL0
                have hl0 : l = [] := List.eq_nil_of_length_eq_zero h01
                subst hl0
                clear hLq hk31 hL h01 hql hqc hLl
                go_wp2_with fail
                refine hcut.out.mono ?_
                rintro e w4 ⟨rfl, hlg, hu4⟩
                have HP9 := Lib.hid (hpc.out (.slice none 0 0) (by simpa using RSl.nil (r := Rep.ent) wa F) w4 hlg hu4)
                have HB4 := Lib.hid (hu4.heap hB.out (fun e => hBp.out e))
                clear hlg hu4 x0 x1 x2 x3 x4 x5 x6 x7 x8 x9 x10 x11
                obtain ⟨x0, x1, x2, x3, x4, x5, x6, x7, x8, x9, x10, x11⟩ := twelve_cells HB4.out
                go_wp2_with fail
                refine (elen_any p [] _ HP9.out.lg.read).mono ?_
                rintro e w10 ⟨rfl, hu⟩
                have HP10 := Lib.hid (HP9.out.keep hu)
                clear hu
                go_wp2_with fail
                go_roundw
                case measure => simp [intOf]; omega
                case rel => exact ⟨k + 1, by omega, by omega, by go_num, [], _, _, by simp, _, rfl, HP10⟩
              | some ad =>
                have had : ad.spot = none := by
                  obtain ⟨_, _, _, e', _, _, _, _, h6⟩ := hP.out.rf
                  cases e'
                  exact (h6 _ rfl).1
                obtain ⟨gw, ow, sp⟩ := ad
                simp only at had
                subst had
                have hpre := Lib.hid ((hP.out.rf.pre q hql (c' := cw) hqc (Nat.le_refl _)).upd HUa.out (fun _ _ h => h))
                rw [hL] at hpre
                clear hL
                go_wp2_with fail
                refine hcut.out.mono ?_
                rintro e w4 ⟨rfl, hlg, hu4⟩
                have HP9 := Lib.hid (hpc.out _ hpre.out w4 hlg hu4)
                have HB4 := Lib.hid (hu4.heap hB.out (fun e => hBp.out e))
                clear hlg hu4 x0 x1 x2 x3 x4 x5 x6 x7 x8 x9 x10 x11
                obtain ⟨x0, x1, x2, x3, x4, x5, x6, x7, x8, x9, x10, x11⟩ := twelve_cells HB4.out
                go_wp2_with fail
                refine (elen_any p L _ HP9.out.lg.read).mono ?_
                rintro e w10 ⟨rfl, hu⟩
                have HP10 := Lib.hid (HP9.out.keep hu)
                clear hu
                go_wp2_with fail
                go_roundw
                case measure => simp [intOf]; omega
                case rel => exact ⟨k + 1, by omega, by omega, by go_num, L, _, _, by omega, _, rfl, HP10⟩
            · have hcut := Lib.hid (ecut_no p l nn wa HPa.out.lg.read hin)
              by_cases h0 : 0 ≤ nn
              · have d0 : decide (0 ≤ nn) = true := decide_eq_true h0
                obtain ⟨q, rfl⟩ : ∃ q : Nat, nn = q := Int.eq_ofNat_of_zero_le h0
                have dq : decide (q ≤ l.length) = false := decide_eq_false (by omega)
                clear hin h0
                go_wp2_with fail
                refine hcut.out.mono ?_
                rintro e w4 ⟨rfl, hu4⟩
                have HP9 := Lib.hid (HPa.out.keep hu4)
                clear hu4
                go_wp2_with fail
                refine (elen_any p l _ HP9.out.lg.read).mono ?_
                rintro e w10 ⟨rfl, hu⟩
                have HP10 := Lib.hid (HP9.out.keep hu)
                clear hu
                go_wp2_with fail
                go_roundw
                case measure => simp [intOf]; omega
                case rel => exact ⟨k + 1, by omega, by omega, by go_num, l, _, _, by omega, _, rfl, HP10⟩
              · have d0 : decide (0 ≤ nn) = false := decide_eq_false h0
                clear hin h0
                go_wp2_with fail
                refine hcut.out.mono ?_
                rintro e w4 ⟨rfl, hu4⟩
                have HP9 := Lib.hid (HPa.out.keep hu4)
                clear hu4
                go_wp2_with fail
                refine (elen_any p l _ HP9.out.lg.read).mono ?_
                rintro e w10 ⟨rfl, hu⟩
                have HP10 := Lib.hid (HP9.out.keep hu)
                clear hu
                go_wp2_with fail
                go_roundw
                case measure => simp [intOf]; omega
                case rel => exact ⟨k + 1, by omega, by omega, by go_num, l, _, _, by omega, _, rfl, HP10⟩
          · have n3 : (kd == 3) = false := beq_eq_false_iff_ne.2 hk3
            clear hk3
            have HP9 := HPa
            go_wp2_with fail
            refine (elen_any p l _ HP9.out.lg.read).mono ?_
            rintro e w10 ⟨rfl, hu⟩
            have HP10 := Lib.hid (HP9.out.keep hu)
            clear hu
            go_wp2_with fail
            go_roundw
            case measure => simp [intOf]; omega
            case rel => exact ⟨k + 1, by omega, by omega, by go_num, l, _, _, by omega, _, rfl, HP10⟩
    · obtain rfl : k = ops.length := by omega
      have hl30 := Lib.hid (show l.length ≤ 30 by omega)
      go_wp2_with fail
      go_ret2
      exact ⟨_, l, S, F, rfl, hP.out, hl30.out⟩
end Go.Proofs.Ytobfolkcpfaplaa
