/- What an object is at any number, without later and without elder versions is as the chapter says (ObjectReads): the law's walk. -/
import Derived.Test.YtcckljomjpfdaaaObj16
namespace Go.Proofs.Ytcckljomjpfdaaa
open Go.RowKit Kit
set_option linter.unusedVariables false

theorem vcells {x : World} {b : Nat} {T : TypeId} {fr : Nat × Nat} {c0 c1 c2 c3 : Value} (h : x.heap[b]? = some (.cells #[c0, c1, c2, c3] T fr)) :
    x.cell? ⟨b, 0, none⟩ = some c0 ∧ x.cell? ⟨b, 1, none⟩ = some c1 ∧ x.cell? ⟨b, 2, none⟩ = some c2 ∧ x.cell? ⟨b, 3, none⟩ = some c3 := by
  simp [World.cell?, h]
set_option maxHeartbeats 8000000 in
set_option maxRecDepth 100000 in
theorem objReads_walk {S : Nat → Prop} (v : Value) (l : List Ver) (n : Int) (w : World) (h : RSl Rep.ver w S v l) :
    Calls Try.prog 11 #[v, .int .i64 n] w fun e w' => e = .returned (.bool true) ∧ Upd NoB w w' := by
  have ho := Lib.hid (ours_any v l w h)
  have hL : (l.take 20).length ≤ 20 := by rw [List.length_take]; omega
  obtain ⟨A, c, cs, rfl, _⟩ := id h
  clear h
  generalize l.take 20 = L at *
  have hrr := Lib.hid (fun v w S (h : RSl Rep.ver w S v L) => refright_obj v L w h (by omega))
  have hpl := Lib.hid (fun v w S (h : RSl Rep.ver w S v L) => plain_any v L w h (by omega))
  cases hR : rightB L
  · rw [hR] at hrr
    clear hR
    go_enter Try.func11, Try.ntmps11
    go_wp2_with fail
    refine ho.out.mono ?_
    rintro e w1 ⟨v1, rfl, hM⟩
    obtain ⟨A1, c1, _, rfl, _⟩ := hM.1.read
    obtain ⟨wb1, hwb1⟩ : ∃ wb, w1.alloc (.cells #[.slice A1 L.length c1] 44) = wb := ⟨_, rfl⟩
    obtain ⟨b1, hb1⟩ : ∃ b, w1.heap.size = b := ⟨_, rfl⟩
    have HB1 := Lib.hid (show wb1.heap[b1]? = some (.cells #[.slice A1 L.length c1] 44 (0, 0)) by rw [← hwb1, ← hb1]; exact heap_alloc_new _ _)
    have p1 : wb1.cell? ⟨b1, 0, none⟩ = some (.slice A1 L.length c1) := by simp [World.cell?, HB1.out]
    have HM1 := Lib.hid (show Mine Rep.ver 50 _ wb1 (.slice A1 L.length c1) L by rw [← hwb1]; exact hM.upd ((Upd.refl NoB w1).alloc _))
    clear hM
    go_wp2_with fail
    refine (hpl.out _ _ _ HM1.out.1.read).mono ?_
    rintro e w2 ⟨v2, rfl, hM⟩
    obtain ⟨A2, c2, _, rfl, _⟩ := hM.1.read
    have HP2 := Lib.hid hM
    clear hwb1
    go_wp2_with fail
    refine (hrr.out _ _ _ HP2.out.1.read).mono ?_
    rintro e w3 ⟨rfl, hu⟩
    have HP3 := Lib.hid (HP2.out.upd hu)
    have HU3 := Lib.hid HP3.out.2
    have p3 := HU3.out.cell p1 (fun h => h)
    have HM3 := Lib.hid (HM1.out.upd HU3.out)
    clear hu p1
    go_wp2_with fail
    refine (awakeObj_any _).mono ?_
    rintro e w10 ⟨rfl, hu⟩
    have HU10 := Lib.hid (HM3.out.2.trans hu)
    clear hu
    go_wp2_with fail
    go_ret
    exact ⟨rfl, HU10.out⟩
  · have hd1 := Lib.hid (fun v w S (h : RSl Rep.ver w S v L) => read_any v L n w h (by omega))
    have hd2 := Lib.hid (fun v w S (h : RSl Rep.ver w S v L) => refread_any v L n w h (by omega) hR)
    have hdi := Lib.hid (fun v w S (h : RSl Rep.ver w S v L) => dirty_any v L n w h (by omega))
    have hun := Lib.hid (fun v w S (h : RSl Rep.ver w S v L) => undo_any v L n w h (by omega))
    have hcl := Lib.hid (fun v w S (h : RSl Rep.ver w S v L) => clean_any v L n w h (by omega))
    have hru := Lib.hid (fun v w S (h : RSl Rep.ver w S v L) => refundo_any v L n w h (by omega))
    have hrc := Lib.hid (fun v w S (h : RSl Rep.ver w S v L) => refclean_any v L n w h (by omega) hR)
    rw [filt_upto L n hR] at hru
    simp only [hR, if_true, Bool.true_and] at hun hcl hdi
    have hul := uptoN_le L n
    have hTl : (L.take (uptoN L n)).length = uptoN L n := by rw [List.length_take]; omega
    have hDl : (L.drop (uptoN L n - 1)).length ≤ 20 := by rw [List.length_drop]; omega
    have hp1 := Lib.hid (fun v w S (h : RSl Rep.ver w S v (L.take (uptoN L n))) => plain_any v _ w h (by omega))
    have hp2 := Lib.hid (fun v w S (h : RSl Rep.ver w S v (L.drop (uptoN L n - 1))) => plain_any v _ w h (by omega))
    have hdd : ((decide ((uptoN L n : Int) < (L.length : Int))) == decide (uptoN L n < L.length)) = true := by simp
    rw [hR] at hrr
    clear hR
    generalize L.take (uptoN L n) = LT at *
    generalize L.drop (uptoN L n - 1) = LD at *
    generalize (readV L n).getD zeroV = X at *
    generalize (readV L n).isSome = B at *
    have hdd2 : decide ((LT.length : Int) < (L.length : Int)) = decide (uptoN L n < L.length) := by rw [hTl]; simp
    generalize hD : decide (uptoN L n < L.length) = D at *
    clear hTl hDl hul hdd hD
    have HDD := Lib.hid hdd2
    clear hdd2
    unfold Ver.agg at hd1 hd2
    go_enter Try.func11, Try.ntmps11
    go_wp2_with fail
    refine ho.out.mono ?_
    rintro e w1 ⟨v1, rfl, hM⟩
    obtain ⟨A1, c1, _, rfl, _⟩ := hM.1.read
    obtain ⟨wb1, hwb1⟩ : ∃ wb, w1.alloc (.cells #[.slice A1 L.length c1] 44) = wb := ⟨_, rfl⟩
    obtain ⟨b1, hb1⟩ : ∃ b, w1.heap.size = b := ⟨_, rfl⟩
    have HB1 := Lib.hid (show wb1.heap[b1]? = some (.cells #[.slice A1 L.length c1] 44 (0, 0)) by rw [← hwb1, ← hb1]; exact heap_alloc_new _ _)
    have p1 : wb1.cell? ⟨b1, 0, none⟩ = some (.slice A1 L.length c1) := by simp [World.cell?, HB1.out]
    have HM1 := Lib.hid (show Mine Rep.ver 50 _ wb1 (.slice A1 L.length c1) L by rw [← hwb1]; exact hM.upd ((Upd.refl NoB w1).alloc _))
    clear hM
    go_wp2_with fail
    refine (hpl.out _ _ _ HM1.out.1.read).mono ?_
    rintro e w2 ⟨v2, rfl, hM⟩
    obtain ⟨A2, c2, _, rfl, _⟩ := hM.1.read
    have HP2 := Lib.hid hM
    clear hwb1
    go_wp2_with fail
    refine (hrr.out _ _ _ HP2.out.1.read).mono ?_
    rintro e w3 ⟨rfl, hu⟩
    have HP3 := Lib.hid (HP2.out.upd hu)
    have HU3 := Lib.hid HP3.out.2
    have p3 := HU3.out.cell p1 (fun h => h)
    have HM3 := Lib.hid (HM1.out.upd HU3.out)
    clear hu p1
    go_wp2_with fail
    refine (hd1.out _ _ _ HM3.out.1.read).mono ?_
    rintro e w4 ⟨rfl, hu⟩
    obtain ⟨wx4, hwx4⟩ : ∃ wb, w4.alloc (.cells #[.int .i64 X.at_, .int .u64 X.num, .string X.val, .bool X.gone] 50) = wb := ⟨_, rfl⟩
    obtain ⟨x4, hx4⟩ : ∃ b, w4.heap.size = b := ⟨_, rfl⟩
    have HX4 := Lib.hid (show wx4.heap[x4]? = some (.cells #[.int .i64 X.at_, .int .u64 X.num, .string X.val, .bool X.gone] 50 (0, 0)) by rw [← hwx4, ← hx4]; exact heap_alloc_new _ _)
    have hux : Upd NoB w3 wx4 := by rw [← hwx4]; exact hu.alloc _
    have p4 := hux.cell p3 (fun h => h)
    have HM4 := Lib.hid (HM3.out.upd hux)
    have HP4 := Lib.hid (HP3.out.upd hux)
    clear hux hu p3
    go_wp2_with fail
    refine (hd2.out _ _ _ HP4.out.1.read).mono ?_
    rintro e w5 ⟨rfl, hu⟩
    obtain ⟨wx5, hwx5⟩ : ∃ wb, w5.alloc (.cells #[.int .i64 X.at_, .int .u64 X.num, .string X.val, .bool X.gone] 62) = wb := ⟨_, rfl⟩
    obtain ⟨x5, hx5⟩ : ∃ b, w5.heap.size = b := ⟨_, rfl⟩
    have HX5 := Lib.hid (show wx5.heap[x5]? = some (.cells #[.int .i64 X.at_, .int .u64 X.num, .string X.val, .bool X.gone] 62 (0, 0)) by rw [← hwx5, ← hx5]; exact heap_alloc_new _ _)
    have hux : Upd NoB wx4 wx5 := by rw [← hwx5]; exact hu.alloc _
    have p5 := Lib.hid (hux.cell p4 (fun h => h))
    have HM5 := Lib.hid (HM4.out.upd hux)
    have HP5 := Lib.hid (HP4.out.upd hux)
    obtain ⟨j0, j1, j2, j3⟩ := vcells (hux.heap HX4.out (fun h => h))
    obtain ⟨i0, i1, i2, i3⟩ := vcells HX5.out
    have q5 := p5.out
    clear hux hu p4
    go_wp2_with fail
    clear i0 i1 i2 i3 j0 j1 j2 j3 hwx5 hwx4
    refine (hdi.out _ _ _ HM5.out.1.read).mono ?_
    rintro e w6 ⟨rfl, hu⟩
    have HU6 := Lib.hid hu
    clear hu q5
    go_wp2_with fail
    refine (hru.out _ _ _ (HP5.out.upd HU6.out).1.read).mono ?_
    rintro e w7 ⟨v7, rfl, hM⟩
    obtain ⟨A7, c7, _, rfl, _⟩ := hM.1.read
    have HU7 := Lib.hid (HU6.out.trans hM.2)
    have q7 := HU7.out.cell p5.out (fun h => h)
    have hdd2 := HDD.out
    have hdd3 : decide (LT.length < L.length) = D := by rw [← hdd2]; simp
    clear hM
    go_wp2_with fail
    clear hdd2 hdd3
    refine (hun.out _ _ _ (HM5.out.upd HU7.out).1.read).mono ?_
    rintro e w8 ⟨v8, rfl, hM⟩
    have H8 := Lib.hid hM
    have HU8 := Lib.hid (HU7.out.trans hM.2)
    clear hM q7
    go_wp2_with fail
    refine (hp1.out _ _ _ H8.out.1.read).mono ?_
    rintro e w9 ⟨v9, rfl, hM⟩
    have H9 := Lib.hid hM
    have HU9 := Lib.hid (HU8.out.trans hM.2)
    clear hM
    go_wp2_with fail
    refine (hru.out _ _ _ (HP5.out.upd HU9.out).1.read).mono ?_
    rintro e wa ⟨va, rfl, hM⟩
    have Ha := Lib.hid hM
    have HUa := Lib.hid (HU9.out.trans hM.2)
    clear hM
    go_wp2_with fail
    refine (refsame_any _ _ _ _ _ (H9.out.upd Ha.out.2).1.read Ha.out.1.read).mono ?_
    rintro e wb ⟨rfl, hu⟩
    have HUb := Lib.hid (HUa.out.trans hu)
    have qb := HUb.out.cell p5.out (fun h => h)
    clear hu
    go_wp2_with fail
    refine (hcl.out _ _ _ (HM5.out.upd HUb.out).1.read).mono ?_
    rintro e wc ⟨vc, rfl, hM⟩
    have Hc := Lib.hid hM
    have HUc := Lib.hid (HUb.out.trans hM.2)
    clear hM qb
    go_wp2_with fail
    refine (hp2.out _ _ _ Hc.out.1.read).mono ?_
    rintro e wd ⟨vd, rfl, hM⟩
    have Hd := Lib.hid hM
    have HUd := Lib.hid (HUc.out.trans hM.2)
    clear hM
    go_wp2_with fail
    refine (hrc.out _ _ _ (HP5.out.upd HUd.out).1.read).mono ?_
    rintro e we ⟨ve, rfl, hM⟩
    have He := Lib.hid hM
    have HUe := Lib.hid (HUd.out.trans hM.2)
    clear hM
    go_wp2_with fail
    refine (refsame_any _ _ _ _ _ (Hd.out.upd He.out.2).1.read He.out.1.read).mono ?_
    rintro e wf ⟨rfl, hu⟩
    have HUf := Lib.hid (HUe.out.trans hu)
    clear hu
    go_wp2_with fail
    refine (awakeObj_any _).mono ?_
    rintro e wg ⟨rfl, hu⟩
    have HUg := Lib.hid (HM5.out.2.trans (HUf.out.trans hu))
    clear hu
    go_wp2_with fail
    go_ret
    exact ⟨rfl, HUg.out⟩
end Go.Proofs.Ytcckljomjpfdaaa
