/- Have two logs the same entries up to the last number at which they have the same epoch? -/
import Derived.Test.YtobfolkcpfaplaaLink11
namespace Go.Proofs.Ytobfolkcpfaplaa
open Go.RowKit Kit
set_option linter.unusedVariables false
/-- Where two rows have one epoch at one place, they are the same up to there. -/
def Mtch (a b : List Fin) : Prop := ∀ i x y, a[i]? = some x → b[i]? = some y → x.ep = y.ep → a.take (i + 1) = b.take (i + 1)
set_option maxHeartbeats 8000000 in
set_option maxRecDepth 100000 in
theorem matched_any (w0 : World) (xs ys : List Nat) (p q : Nat) (la lb : List Fin) (w : World) (h : Ll w0 w xs p la) (h' : Ll w0 w ys q lb) (hM : Mtch la lb) (hl : la.length ≤ 100000) (hl' : lb.length ≤ 100000) :
    Calls Try.prog 42 #[.pointer (some ⟨p, 0, none⟩), .pointer (some ⟨q, 0, none⟩)] w fun e w' => e = .returned (.bool true) ∧ Upd NoB w w' := by
  have ha := Lib.hid (all_any w0 xs p la w h hl)
  have hb := Lib.hid (fun x (hx : Upd NoB w x) => all_any w0 ys q lb x (h'.keep hx (fun h => h) (fun _ h => h.elim)) hl')
  have HM := Lib.hid hM
  clear h h' hM
  go_enter Try.func42, Try.ntmps42
  go_wp2_with fail
  refine ha.out.mono ?_
  rintro e w1 ⟨v1, rfl, h1⟩
  have hp := Lib.hid (plainl_any v1 la w1 h1.1.read hl)
  have HU1 := Lib.hid h1.2
  clear h1
  go_wp2_with fail
  refine hp.out.mono ?_
  rintro e w2 ⟨u1, rfl, h2⟩
  have H2 := Lib.hid h2
  have HU2 := Lib.hid (HU1.out.trans h2.2)
  clear h2
  go_wp2_with fail
  refine (hb.out _ HU2.out).mono ?_
  rintro e w3 ⟨v2, rfl, h3⟩
  have hp2 := Lib.hid (plainl_any v2 lb w3 h3.1.read hl')
  have H3 := Lib.hid (H2.out.upd h3.2)
  have HU3 := Lib.hid (HU2.out.trans h3.2)
  clear h3
  go_wp2_with fail
  refine hp2.out.mono ?_
  rintro e wz ⟨u2, rfl, h4⟩
  have HA := Lib.hid (H3.out.upd h4.2).1.read
  have HB := Lib.hid h4.1.read
  have HUz := Lib.hid (HU3.out.trans h4.2)
  clear h4
  obtain ⟨A, c, cs1, rfl, d1, d2, d3, d4, d5⟩ := id HA.out
  obtain ⟨B, d, cs2, rfl, e1, e2, e3, e4, e5⟩ := id HB.out
  have D5 := Lib.hid d5
  have E5 := Lib.hid e5
  clear d3 e3 d5 e5
  have HZ := Lib.hid (Upd.refl NoB wz)
  go_wp2_with fail
  go_loopw [7, 17] (fun x7 x17 wr => ∃ k m : Nat, k ≤ la.length ∧ x17 = .int .i64 k ∧ x7 = .int .i64 m ∧ m ≤ k ∧ m ≤ lb.length ∧ Hid (la.take m = lb.take m) ∧ Hid (Upd NoB wz wr)) (fun _ x17 _ => la.length - (intOf x17).toNat)
  case atStart => exact ⟨0, 0, by omega, rfl, rfl, by omega, by omega, Lib.hid (by simp), HZ⟩
  case round =>
    obtain ⟨k, m, hk, rfl, rfl, hmk, hmb, hT, hU⟩ := hrel
    by_cases hlt : k < la.length
    · have hdl : decide (k < la.length) = true := decide_eq_true hlt
      have hw1 : IntKind.i64.wrap ((k : Int) + 1) = (k : Int) + 1 := by simp only [IntKind.wrap_i64]; omega
      by_cases hltb : k < lb.length
      · have hdb : decide (k < lb.length) = true := decide_eq_true hltb
        obtain ⟨g, o, cx, rfl, hr, hc, _⟩ := HA.out.cellN k hlt
        obtain ⟨g2, o2, cy, rfl, hr2, hc2, _⟩ := HB.out.cellN k hltb
        have hr' : cx = finC (la[k]'hlt) := hr
        have hr2' : cy = finC (lb[k]'hltb) := hr2
        subst hr' hr2'
        have c1 := hc 0 _ rfl
        have c2 := hc2 0 _ rfl
        rw [show Rep.fin.sz = 10 from rfl, Nat.add_zero] at c1 c2
        have C1 := Lib.hid c1
        have C2 := Lib.hid c2
        have hMk := Lib.hid (HM.out k _ _ (List.getElem?_eq_getElem hlt) (List.getElem?_eq_getElem hltb))
        clear hc hc2 hr hr2 c1 c2
        generalize la[k]'hlt = x at *
        generalize lb[k]'hltb = y at *
        by_cases he : x.ep = y.ep
        · have he' : (x.ep == y.ep) = true := by simp [he]
          have hT2 := Lib.hid (hMk.out he)
          clear he
          go_wp2_with fail
          refine sched_begin NoB (by kernel_rfl) ?_
          have HUd := Lib.hid hU.out.drew
          refine sched_take 0 rfl (by kernel_rfl) (by kernel_rfl) (by kernel_rfl) (fun _ _ _ h => h) rfl (fun x hx => by go_simp; rfl) ?_
          go_simp
          refine sched_take 1 rfl (by kernel_rfl) (by kernel_rfl) (by kernel_rfl) (fun _ _ _ h => h) rfl (fun x hx => by go_simp; rfl) ?_
          go_simp
          refine sched_take 2 rfl (by kernel_rfl) (by kernel_rfl) (by kernel_rfl) (fun _ _ _ h => h) rfl (fun x hx => by go_simp; rfl) ?_
          go_simp
          refine sched_take 3 rfl (by kernel_rfl) (by kernel_rfl) (by kernel_rfl) (fun _ _ _ h => h) rfl (fun x hx => by go_simp; rfl) ?_
          go_simp
          refine sched_take 4 rfl (by kernel_rfl) (by kernel_rfl) (by kernel_rfl) (fun _ _ _ h => h) rfl (fun x hx => by go_simp; rfl) ?_
          go_simp
          refine sched_take 5 rfl (by kernel_rfl) (by kernel_rfl) (by kernel_rfl) (fun _ _ _ h => h) rfl (fun x hx => by go_simp; rfl) ?_
          go_simp
          refine sched_take 6 rfl (by kernel_rfl) (by kernel_rfl) (by kernel_rfl) (fun _ _ _ h => h) rfl (fun x hx => by go_simp; rfl) ?_
          go_simp
          refine sched_take 7 rfl (by kernel_rfl) (by kernel_rfl) (by kernel_rfl) (fun _ _ _ h => h) rfl (fun x hx => by go_simp; rfl) ?_
          go_simp
          refine sched_take 8 rfl (by kernel_rfl) (by kernel_rfl) (by kernel_rfl) (fun _ _ _ h => h) rfl (fun x hx => by go_simp; rfl) ?_
          go_simp
          refine sched_take 9 rfl (by kernel_rfl) (by kernel_rfl) (by kernel_rfl) (fun _ _ _ h => h) rfl (fun x hx => by have y0 := (HUd.out.trans hx).cell C1.out (fun h => h); go_simp; rfl) ?_
          go_simp
          refine sched_take 10 rfl (by kernel_rfl) (by kernel_rfl) (by kernel_rfl) (fun _ _ _ h => h) rfl (fun x hx => by go_simp; rfl) ?_
          go_simp
          refine sched_take 11 rfl (by kernel_rfl) (by kernel_rfl) (by kernel_rfl) (fun _ _ _ h => h) rfl (fun x hx => by go_simp; rfl) ?_
          go_simp
          refine sched_take 12 rfl (by kernel_rfl) (by kernel_rfl) (by kernel_rfl) (fun _ _ _ h => h) rfl (fun x hx => by go_simp; rfl) ?_
          go_simp
          refine sched_take 13 rfl (by kernel_rfl) (by kernel_rfl) (by kernel_rfl) (fun _ _ _ h => h) rfl (fun x hx => by go_simp; rfl) ?_
          go_simp
          refine sched_take 14 rfl (by kernel_rfl) (by kernel_rfl) (by kernel_rfl) (fun _ _ _ h => h) rfl (fun x hx => by have y0 := (HUd.out.trans hx).cell C2.out (fun h => h); go_simp; rfl) ?_
          go_simp
          refine sched_take 15 rfl (by kernel_rfl) (by kernel_rfl) (by kernel_rfl) (fun _ _ _ h => h) rfl (fun x hx => by go_simp; rfl) ?_
          go_simp
          refine sched_take 16 rfl (by kernel_rfl) (by kernel_rfl) (by kernel_rfl) (fun _ _ _ h => h) rfl (fun x hx => by go_simp; rfl) ?_
          go_simp
          refine sched_done (by kernel_rfl) ?_
          go_wp2_with fail
          go_roundw
          case measure => simp [intOf]; omega
          case rel => exact ⟨k + 1, k + 1, by omega, by go_num, by go_num, by omega, by omega, hT2, HUd⟩
        · have he' : (x.ep == y.ep) = false := by simp [he]
          clear he
          go_wp2_with fail
          refine sched_begin NoB (by kernel_rfl) ?_
          have HUd := Lib.hid hU.out.drew
          refine sched_take 0 rfl (by kernel_rfl) (by kernel_rfl) (by kernel_rfl) (fun _ _ _ h => h) rfl (fun x hx => by go_simp; rfl) ?_
          go_simp
          refine sched_take 1 rfl (by kernel_rfl) (by kernel_rfl) (by kernel_rfl) (fun _ _ _ h => h) rfl (fun x hx => by go_simp; rfl) ?_
          go_simp
          refine sched_take 2 rfl (by kernel_rfl) (by kernel_rfl) (by kernel_rfl) (fun _ _ _ h => h) rfl (fun x hx => by go_simp; rfl) ?_
          go_simp
          refine sched_take 3 rfl (by kernel_rfl) (by kernel_rfl) (by kernel_rfl) (fun _ _ _ h => h) rfl (fun x hx => by go_simp; rfl) ?_
          go_simp
          refine sched_take 4 rfl (by kernel_rfl) (by kernel_rfl) (by kernel_rfl) (fun _ _ _ h => h) rfl (fun x hx => by go_simp; rfl) ?_
          go_simp
          refine sched_take 5 rfl (by kernel_rfl) (by kernel_rfl) (by kernel_rfl) (fun _ _ _ h => h) rfl (fun x hx => by go_simp; rfl) ?_
          go_simp
          refine sched_take 6 rfl (by kernel_rfl) (by kernel_rfl) (by kernel_rfl) (fun _ _ _ h => h) rfl (fun x hx => by go_simp; rfl) ?_
          go_simp
          refine sched_take 7 rfl (by kernel_rfl) (by kernel_rfl) (by kernel_rfl) (fun _ _ _ h => h) rfl (fun x hx => by go_simp; rfl) ?_
          go_simp
          refine sched_take 8 rfl (by kernel_rfl) (by kernel_rfl) (by kernel_rfl) (fun _ _ _ h => h) rfl (fun x hx => by go_simp; rfl) ?_
          go_simp
          refine sched_take 9 rfl (by kernel_rfl) (by kernel_rfl) (by kernel_rfl) (fun _ _ _ h => h) rfl (fun x hx => by have y0 := (HUd.out.trans hx).cell C1.out (fun h => h); go_simp; rfl) ?_
          go_simp
          refine sched_take 10 rfl (by kernel_rfl) (by kernel_rfl) (by kernel_rfl) (fun _ _ _ h => h) rfl (fun x hx => by go_simp; rfl) ?_
          go_simp
          refine sched_take 11 rfl (by kernel_rfl) (by kernel_rfl) (by kernel_rfl) (fun _ _ _ h => h) rfl (fun x hx => by go_simp; rfl) ?_
          go_simp
          refine sched_take 12 rfl (by kernel_rfl) (by kernel_rfl) (by kernel_rfl) (fun _ _ _ h => h) rfl (fun x hx => by go_simp; rfl) ?_
          go_simp
          refine sched_take 13 rfl (by kernel_rfl) (by kernel_rfl) (by kernel_rfl) (fun _ _ _ h => h) rfl (fun x hx => by go_simp; rfl) ?_
          go_simp
          refine sched_take 14 rfl (by kernel_rfl) (by kernel_rfl) (by kernel_rfl) (fun _ _ _ h => h) rfl (fun x hx => by have y0 := (HUd.out.trans hx).cell C2.out (fun h => h); go_simp; rfl) ?_
          go_simp
          refine sched_take 15 rfl (by kernel_rfl) (by kernel_rfl) (by kernel_rfl) (fun _ _ _ h => h) rfl (fun x hx => by go_simp; rfl) ?_
          go_simp
          refine sched_take 16 rfl (by kernel_rfl) (by kernel_rfl) (by kernel_rfl) (fun _ _ _ h => h) rfl (fun x hx => by go_simp; rfl) ?_
          go_simp
          refine sched_done (by kernel_rfl) ?_
          go_wp2_with fail
          go_roundw
          case measure => simp [intOf]; omega
          case rel => exact ⟨k + 1, m, by omega, by go_num, rfl, by omega, by omega, hT, HUd⟩
      · have hdb : decide (k < lb.length) = false := decide_eq_false hltb
        go_wp2_with fail
        refine sched_begin NoB (by kernel_rfl) ?_
        have HUd := Lib.hid hU.out.drew
        refine sched_take 0 rfl (by kernel_rfl) (by kernel_rfl) (by kernel_rfl) (fun _ _ _ h => h) rfl (fun x hx => by go_simp; rfl) ?_
        go_simp
        refine sched_take 1 rfl (by kernel_rfl) (by kernel_rfl) (by kernel_rfl) (fun _ _ _ h => h) rfl (fun x hx => by go_simp; rfl) ?_
        go_simp
        refine sched_take 2 rfl (by kernel_rfl) (by kernel_rfl) (by kernel_rfl) (fun _ _ _ h => h) rfl (fun x hx => by go_simp; rfl) ?_
        go_simp
        refine sched_take 3 rfl (by kernel_rfl) (by kernel_rfl) (by kernel_rfl) (fun _ _ _ h => h) rfl (fun x hx => by go_simp; rfl) ?_
        go_simp
        refine sched_take 4 rfl (by kernel_rfl) (by kernel_rfl) (by kernel_rfl) (fun _ _ _ h => h) rfl (fun x hx => by go_simp; rfl) ?_
        go_simp
        refine sched_skip 5 rfl (by kernel_rfl) (by kernel_rfl) (by kernel_rfl) (fun _ _ _ h => h) rfl ?_
        go_simp
        refine sched_skip 6 rfl (by kernel_rfl) (by kernel_rfl) (by kernel_rfl) (fun _ _ _ h => h) rfl ?_
        go_simp
        refine sched_skip 7 rfl (by kernel_rfl) (by kernel_rfl) (by kernel_rfl) (fun _ _ _ h => h) rfl ?_
        go_simp
        refine sched_skip 8 rfl (by kernel_rfl) (by kernel_rfl) (by kernel_rfl) (fun _ _ _ h => h) rfl ?_
        go_simp
        refine sched_skip 9 rfl (by kernel_rfl) (by kernel_rfl) (by kernel_rfl) (fun _ _ _ h => h) rfl ?_
        go_simp
        refine sched_skip 10 rfl (by kernel_rfl) (by kernel_rfl) (by kernel_rfl) (fun _ _ _ h => h) rfl ?_
        go_simp
        refine sched_skip 11 rfl (by kernel_rfl) (by kernel_rfl) (by kernel_rfl) (fun _ _ _ h => h) rfl ?_
        go_simp
        refine sched_skip 12 rfl (by kernel_rfl) (by kernel_rfl) (by kernel_rfl) (fun _ _ _ h => h) rfl ?_
        go_simp
        refine sched_skip 13 rfl (by kernel_rfl) (by kernel_rfl) (by kernel_rfl) (fun _ _ _ h => h) rfl ?_
        go_simp
        refine sched_skip 14 rfl (by kernel_rfl) (by kernel_rfl) (by kernel_rfl) (fun _ _ _ h => h) rfl ?_
        go_simp
        refine sched_skip 15 rfl (by kernel_rfl) (by kernel_rfl) (by kernel_rfl) (fun _ _ _ h => h) rfl ?_
        go_simp
        refine sched_take 16 rfl (by kernel_rfl) (by kernel_rfl) (by kernel_rfl) (fun _ _ _ h => h) rfl (fun x hx => by go_simp; rfl) ?_
        go_simp
        refine sched_done (by kernel_rfl) ?_
        go_wp2_with fail
        go_roundw
        case measure => simp [intOf]; omega
        case rel => exact ⟨k + 1, m, by omega, by go_num, rfl, by omega, by omega, hT, HUd⟩
    · have hdl : decide (k < la.length) = false := decide_eq_false hlt
      have hma : m ≤ la.length := by omega
      clear hlt hk
      cases A with
      | none =>
        obtain rfl : c = 0 := d4 rfl
        obtain rfl : m = 0 := by omega
        cases B with
        | none =>
          obtain rfl : d = 0 := e4 rfl
          skip
          obtain ⟨L, hL⟩ : ∃ L, la.take 0 = L := ⟨_, rfl⟩
          have HL1 := Lib.hid (show RSl Rep.fin wr (fun _ => True) (.slice none 0 0) L from by rw [← hL]; exact (RSl.nil wr NoB).mono (fun _ _ => trivial))
          have HL2 := Lib.hid (show RSl Rep.fin wr (fun _ => True) (.slice none 0 0) L from by rw [← hL, hT.out]; exact (RSl.nil wr NoB).mono (fun _ _ => trivial))
          have hll : L.length ≤ 100000 := by rw [← hL, List.length_take]; omega
          have hal := Lib.hid (fun x (hx : Upd NoB wr x) => alike_any _ _ L x (HL1.out.upd (F := NoB) hx (fun _ _ h => h)) (HL2.out.upd (F := NoB) hx (fun _ _ h => h)) hll)
          clear hL hll
          go_wp2_with fail
          refine sched_begin NoB (by kernel_rfl) ?_
          have HD := Lib.hid (Upd.refl NoB wr).drew
          refine sched_take 0 rfl (by kernel_rfl) (by kernel_rfl) (by kernel_rfl) (fun _ _ _ h => h) rfl (fun x hx => by go_simp; rfl) ?_
          go_simp
          refine sched_take 1 rfl (by kernel_rfl) (by kernel_rfl) (by kernel_rfl) (fun _ _ _ h => h) rfl (fun x hx => by go_simp; rfl) ?_
          go_simp
          refine sched_take 2 rfl (by kernel_rfl) (by kernel_rfl) (by kernel_rfl) (fun _ _ _ h => h) rfl (fun x hx => by go_simp; rfl) ?_
          go_simp
          refine sched_take 3 rfl (by kernel_rfl) (by kernel_rfl) (by kernel_rfl) (fun _ _ _ h => h) rfl (fun x hx => by go_simp; rfl) ?_
          go_simp
          refine sched_take 4 rfl (by kernel_rfl) (by kernel_rfl) (by kernel_rfl) (fun _ _ _ h => h) rfl (fun x hx => by go_simp; rfl) ?_
          go_simp
          refine sched_take 5 rfl (by kernel_rfl) (by kernel_rfl) (by kernel_rfl) (fun _ _ _ h => h) rfl (fun x hx => by go_simp; rfl) ?_
          go_simp
          refine sched_alone 6 (by kernel_rfl) rfl rfl ?_
          go_simp
          refine (hal.out _ HD.out).mono ?_
          rintro e w9 ⟨rfl, hu⟩
          refine ⟨hu, ?_⟩
          have HU9 := Lib.hid (hU.out.trans (HD.out.trans hu))
          clear hu
          go_simp
          refine sched_take 7 rfl (by kernel_rfl) (by kernel_rfl) (by kernel_rfl) (fun _ _ _ h => h) rfl (fun x hx => by go_simp; rfl) ?_
          go_simp
          refine sched_done (by kernel_rfl) ?_
          go_wp2_with fail
          go_ret
          exact ⟨rfl, (HUz.out.trans HU9.out)⟩
        | some b =>
          obtain ⟨f1, _⟩ := E5.out _ rfl
          obtain ⟨g2, o2, sp2⟩ := b
          simp only at f1
          subst f1
          have k1 := RSl.nil (r := Rep.fin) wr NoB
          have k2 := (HB.out.upd (F := NoB) hU.out (fun _ _ h => h)).pre 0 (by omega) (c' := d) (by omega) (Nat.le_refl _)
          have K1 := Lib.hid k1
          have K2 := Lib.hid k2
          clear k1 k2
          obtain ⟨L, hL⟩ : ∃ L, la.take 0 = L := ⟨_, rfl⟩
          have HL1 := Lib.hid (show RSl Rep.fin wr (fun _ => True) (.slice none 0 0) L from by rw [← hL]; exact (K1.out).mono (fun _ _ => trivial))
          have HL2 := Lib.hid (show RSl Rep.fin wr (fun _ => True) (.slice (some ⟨g2, o2, none⟩) 0 d) L from by rw [← hL, hT.out]; exact (K2.out).mono (fun _ _ => trivial))
          have hll : L.length ≤ 100000 := by rw [← hL, List.length_take]; omega
          have hal := Lib.hid (fun x (hx : Upd NoB wr x) => alike_any _ _ L x (HL1.out.upd (F := NoB) hx (fun _ _ h => h)) (HL2.out.upd (F := NoB) hx (fun _ _ h => h)) hll)
          clear hL hll
          go_wp2_with fail
          refine sched_begin NoB (by kernel_rfl) ?_
          have HD := Lib.hid (Upd.refl NoB wr).drew
          refine sched_take 0 rfl (by kernel_rfl) (by kernel_rfl) (by kernel_rfl) (fun _ _ _ h => h) rfl (fun x hx => by go_simp; rfl) ?_
          go_simp
          refine sched_take 1 rfl (by kernel_rfl) (by kernel_rfl) (by kernel_rfl) (fun _ _ _ h => h) rfl (fun x hx => by go_simp; rfl) ?_
          go_simp
          refine sched_take 2 rfl (by kernel_rfl) (by kernel_rfl) (by kernel_rfl) (fun _ _ _ h => h) rfl (fun x hx => by go_simp; rfl) ?_
          go_simp
          refine sched_take 3 rfl (by kernel_rfl) (by kernel_rfl) (by kernel_rfl) (fun _ _ _ h => h) rfl (fun x hx => by go_simp; rfl) ?_
          go_simp
          refine sched_take 4 rfl (by kernel_rfl) (by kernel_rfl) (by kernel_rfl) (fun _ _ _ h => h) rfl (fun x hx => by go_simp; rfl) ?_
          go_simp
          refine sched_take 5 rfl (by kernel_rfl) (by kernel_rfl) (by kernel_rfl) (fun _ _ _ h => h) rfl (fun x hx => by go_simp; rfl) ?_
          go_simp
          refine sched_alone 6 (by kernel_rfl) rfl rfl ?_
          go_simp
          refine (hal.out _ HD.out).mono ?_
          rintro e w9 ⟨rfl, hu⟩
          refine ⟨hu, ?_⟩
          have HU9 := Lib.hid (hU.out.trans (HD.out.trans hu))
          clear hu
          go_simp
          refine sched_take 7 rfl (by kernel_rfl) (by kernel_rfl) (by kernel_rfl) (fun _ _ _ h => h) rfl (fun x hx => by go_simp; rfl) ?_
          go_simp
          refine sched_done (by kernel_rfl) ?_
          go_wp2_with fail
          go_ret
          exact ⟨rfl, (HUz.out.trans HU9.out)⟩
      | some a =>
        obtain ⟨f1, _⟩ := D5.out _ rfl
        obtain ⟨g, o, sp1⟩ := a
        simp only at f1
        subst f1
        cases B with
        | none =>
          obtain rfl : d = 0 := e4 rfl
          obtain rfl : m = 0 := by omega
          have k1 := (HA.out.upd (F := NoB) hU.out (fun _ _ h => h)).pre 0 (by omega) (c' := c) (by omega) (Nat.le_refl _)
          have k2 := RSl.nil (r := Rep.fin) wr NoB
          have K1 := Lib.hid k1
          have K2 := Lib.hid k2
          clear k1 k2
          obtain ⟨L, hL⟩ : ∃ L, la.take 0 = L := ⟨_, rfl⟩
          have HL1 := Lib.hid (show RSl Rep.fin wr (fun _ => True) (.slice (some ⟨g, o, none⟩) 0 c) L from by rw [← hL]; exact (K1.out).mono (fun _ _ => trivial))
          have HL2 := Lib.hid (show RSl Rep.fin wr (fun _ => True) (.slice none 0 0) L from by rw [← hL, hT.out]; exact (K2.out).mono (fun _ _ => trivial))
          have hll : L.length ≤ 100000 := by rw [← hL, List.length_take]; omega
          have hal := Lib.hid (fun x (hx : Upd NoB wr x) => alike_any _ _ L x (HL1.out.upd (F := NoB) hx (fun _ _ h => h)) (HL2.out.upd (F := NoB) hx (fun _ _ h => h)) hll)
          clear hL hll
          go_wp2_with fail
          refine sched_begin NoB (by kernel_rfl) ?_
          have HD := Lib.hid (Upd.refl NoB wr).drew
          refine sched_take 0 rfl (by kernel_rfl) (by kernel_rfl) (by kernel_rfl) (fun _ _ _ h => h) rfl (fun x hx => by go_simp; rfl) ?_
          go_simp
          refine sched_take 1 rfl (by kernel_rfl) (by kernel_rfl) (by kernel_rfl) (fun _ _ _ h => h) rfl (fun x hx => by go_simp; rfl) ?_
          go_simp
          refine sched_take 2 rfl (by kernel_rfl) (by kernel_rfl) (by kernel_rfl) (fun _ _ _ h => h) rfl (fun x hx => by go_simp; rfl) ?_
          go_simp
          refine sched_take 3 rfl (by kernel_rfl) (by kernel_rfl) (by kernel_rfl) (fun _ _ _ h => h) rfl (fun x hx => by go_simp; rfl) ?_
          go_simp
          refine sched_take 4 rfl (by kernel_rfl) (by kernel_rfl) (by kernel_rfl) (fun _ _ _ h => h) rfl (fun x hx => by go_simp; rfl) ?_
          go_simp
          refine sched_take 5 rfl (by kernel_rfl) (by kernel_rfl) (by kernel_rfl) (fun _ _ _ h => h) rfl (fun x hx => by go_simp; rfl) ?_
          go_simp
          refine sched_alone 6 (by kernel_rfl) rfl rfl ?_
          go_simp
          refine (hal.out _ HD.out).mono ?_
          rintro e w9 ⟨rfl, hu⟩
          refine ⟨hu, ?_⟩
          have HU9 := Lib.hid (hU.out.trans (HD.out.trans hu))
          clear hu
          go_simp
          refine sched_take 7 rfl (by kernel_rfl) (by kernel_rfl) (by kernel_rfl) (fun _ _ _ h => h) rfl (fun x hx => by go_simp; rfl) ?_
          go_simp
          refine sched_done (by kernel_rfl) ?_
          go_wp2_with fail
          go_ret
          exact ⟨rfl, (HUz.out.trans HU9.out)⟩
        | some b =>
          obtain ⟨f1, _⟩ := E5.out _ rfl
          obtain ⟨g2, o2, sp2⟩ := b
          simp only at f1
          subst f1
          have hmc : m ≤ c := by omega
          have hmd : m ≤ d := by omega
          have k1 := (HA.out.upd (F := NoB) hU.out (fun _ _ h => h)).pre m (by omega) (c' := c) (by omega) (Nat.le_refl _)
          have k2 := (HB.out.upd (F := NoB) hU.out (fun _ _ h => h)).pre m (by omega) (c' := d) (by omega) (Nat.le_refl _)
          have K1 := Lib.hid k1
          have K2 := Lib.hid k2
          clear k1 k2
          obtain ⟨L, hL⟩ : ∃ L, la.take m = L := ⟨_, rfl⟩
          have HL1 := Lib.hid (show RSl Rep.fin wr (fun _ => True) (.slice (some ⟨g, o, none⟩) m c) L from by rw [← hL]; exact (K1.out).mono (fun _ _ => trivial))
          have HL2 := Lib.hid (show RSl Rep.fin wr (fun _ => True) (.slice (some ⟨g2, o2, none⟩) m d) L from by rw [← hL, hT.out]; exact (K2.out).mono (fun _ _ => trivial))
          have hll : L.length ≤ 100000 := by rw [← hL, List.length_take]; omega
          have hal := Lib.hid (fun x (hx : Upd NoB wr x) => alike_any _ _ L x (HL1.out.upd (F := NoB) hx (fun _ _ h => h)) (HL2.out.upd (F := NoB) hx (fun _ _ h => h)) hll)
          clear hL hll
          go_wp2_with fail
          refine sched_begin NoB (by kernel_rfl) ?_
          have HD := Lib.hid (Upd.refl NoB wr).drew
          refine sched_take 0 rfl (by kernel_rfl) (by kernel_rfl) (by kernel_rfl) (fun _ _ _ h => h) rfl (fun x hx => by go_simp; rfl) ?_
          go_simp
          refine sched_take 1 rfl (by kernel_rfl) (by kernel_rfl) (by kernel_rfl) (fun _ _ _ h => h) rfl (fun x hx => by go_simp; rfl) ?_
          go_simp
          refine sched_take 2 rfl (by kernel_rfl) (by kernel_rfl) (by kernel_rfl) (fun _ _ _ h => h) rfl (fun x hx => by go_simp; rfl) ?_
          go_simp
          refine sched_take 3 rfl (by kernel_rfl) (by kernel_rfl) (by kernel_rfl) (fun _ _ _ h => h) rfl (fun x hx => by go_simp; rfl) ?_
          go_simp
          refine sched_take 4 rfl (by kernel_rfl) (by kernel_rfl) (by kernel_rfl) (fun _ _ _ h => h) rfl (fun x hx => by go_simp; rfl) ?_
          go_simp
          refine sched_take 5 rfl (by kernel_rfl) (by kernel_rfl) (by kernel_rfl) (fun _ _ _ h => h) rfl (fun x hx => by go_simp; rfl) ?_
          go_simp
          refine sched_alone 6 (by kernel_rfl) rfl rfl ?_
          go_simp
          refine (hal.out _ HD.out).mono ?_
          rintro e w9 ⟨rfl, hu⟩
          refine ⟨hu, ?_⟩
          have HU9 := Lib.hid (hU.out.trans (HD.out.trans hu))
          clear hu
          go_simp
          refine sched_take 7 rfl (by kernel_rfl) (by kernel_rfl) (by kernel_rfl) (fun _ _ _ h => h) rfl (fun x hx => by go_simp; rfl) ?_
          go_simp
          refine sched_done (by kernel_rfl) ?_
          go_wp2_with fail
          go_ret
          exact ⟨rfl, (HUz.out.trans HU9.out)⟩
end Go.Proofs.Ytobfolkcpfaplaa
