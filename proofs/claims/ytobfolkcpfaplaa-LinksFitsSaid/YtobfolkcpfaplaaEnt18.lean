/- The document's list of entries, any (2): one more. -/
import Derived.Test.YtobfolkcpfaplaaEnt17
namespace Go.Proofs.Ytobfolkcpfaplaa
open Go.RowKit Kit
set_option linter.unusedVariables false
theorem last_ep {S : Nat → Prop} {w wa : World} {l : List Ent} {A : Option Addr} {n cc : Nat} (h : RSl Rep.ent w S (.slice A n cc) l) (u : Upd NoB w wa) (hl : 0 < l.length) (hm : l.length ≤ 100000) :
    ∃ g o, A = some ⟨g, o, none⟩ ∧ wa.cell? ⟨g, o + (l.length - 1) * 10, none⟩ = some (.int .u64 (epE l l.length)) := by
  obtain ⟨g, o, e, c⟩ := ep_cell h (l.length - 1) (by omega)
  refine ⟨g, o, e, ?_⟩
  have e2 := epE_at (l := l) (k := l.length - 1) (by omega)
  rw [show (((l.length - 1 : Nat) : Int) + 1) = (l.length : Int) by omega] at e2
  rw [e2]
  exact u.cell c (fun h => h)
set_option maxHeartbeats 8000000 in
set_option maxRecDepth 100000 in
theorem refadd_no {S T : Nat → Prop} (v : Value) (l : List Ent) (x : Ent) (A B : Option Addr) (c d : Nat) (w : World) (h : RSl Rep.ent w S v l) (h1 : RSl Rep.rd w T (.slice A x.rd.length c) x.rd) (h2 : RSl Rep.wt w T (.slice B x.wr.length d) x.wr) (hsm : x.small) (hq : 0 ≤ x.tq) (hq2 : 0 ≤ x.eq) (hep : 0 ≤ x.ep) (hl : l.length < 400)
    (hr : ¬ (rightB x = true ∧ epE l l.length ≤ x.ep)) :
    Calls Try.prog 60 #[v, .agg #[.int .u64 x.ep, .int .i64 x.kd, .int .i64 x.tc, .int .u64 x.tq, .bool x.pl, .slice A x.rd.length c, .slice B x.wr.length d, .int .i64 x.ec, .int .u64 x.eq, .int .i64 x.cd]] w fun e w' => e = .returned (.tuple #[v, .int .i64 1]) ∧ Upd NoB w w' := by
  skip
  obtain ⟨wa, hwa0⟩ : ∃ wa, w.alloc (.cells #[.int .u64 x.ep, .int .i64 x.kd, .int .i64 x.tc, .int .u64 x.tq, .bool x.pl, .slice A x.rd.length c, .slice B x.wr.length d, .int .i64 x.ec, .int .u64 x.eq, .int .i64 x.cd] 72) = wa := ⟨_, rfl⟩
  have hua : Upd NoB w wa := by rw [← hwa0]; exact (Upd.refl _ _).alloc _
  have hA : wa.heap[w.heap.size]? = some (.cells #[.int .u64 x.ep, .int .i64 x.kd, .int .i64 x.tc, .int .u64 x.tq, .bool x.pl, .slice A x.rd.length c, .slice B x.wr.length d, .int .i64 x.ec, .int .u64 x.eq, .int .i64 x.cd] 72 (0, 0)) := by rw [← hwa0]; exact heap_alloc_new _ _
  have hwa := Lib.hid hwa0
  have HUa := Lib.hid hua
  have HV := Lib.hid h
  have HR1 := Lib.hid (h1.upd hua (fun _ _ h => h))
  have HR2 := Lib.hid (h2.upd hua (fun _ _ h => h))
  have hb := Lib.hid (fun z (hz : Upd NoB wa z) => ten_cells (hz.heap hA (fun h => h)))
  have hri := Lib.hid (fun z (hz : Upd NoB wa z) => refright_any x A B c d z (h1.upd (hua.trans hz) (fun _ _ h => h)) (h2.upd (hua.trans hz) (fun _ _ h => h)) hsm hq hq2)
  have hws : w.heap.size < wa.heap.size := lt_of_heap hA
  obtain ⟨AA, cc, _, rfl, g1, g2, _⟩ := id h
  have g2' : cc ≤ 9223372036854775807 := g2
  have d399 : decide ((399 : Int) < (l.length : Int)) = false := decide_eq_false (by omega)
  have d399n : decide (399 < l.length) = false := decide_eq_false (by omega)
  cases hrb : rightB x
  · rw [hrb] at hri
    clear hr hrb hl
    skip
    clear h h1 h2 hua hA hwa0 hsm hq hq2
    go_enter Try.func60, Try.ntmps60
    go_wp2_with fail
    rw [hwa.out]
    clear hwa
    refine sched_begin NoB (by kernel_rfl) ?_
    have HU0 := Lib.hid (Upd.refl NoB wa).drew
    refine sched_take 0 rfl (by kernel_rfl) (by kernel_rfl) (by kernel_rfl) (fun _ _ _ h => h) rfl (fun x hx => by obtain ⟨y0, y1, y2, y3, y4, y5, y6, y7, y8, y9⟩ := hb.out x (HU0.out.trans hx); go_simp; rfl) ?_
    go_simp
    refine sched_alone 1 (by kernel_rfl) rfl rfl ?_
    go_simp
    refine (hri.out _ HU0.out).mono ?_
    rintro e w1 ⟨rfl, hu⟩
    refine ⟨hu, ?_⟩
    have HU1 := Lib.hid (HU0.out.trans hu)
    clear hu
    go_simp
    refine sched_take 2 rfl (by kernel_rfl) (by kernel_rfl) (by kernel_rfl) (fun _ _ _ h => h) rfl (fun x hx => by go_simp; rfl) ?_
    go_simp
    refine sched_take 3 rfl (by kernel_rfl) (by kernel_rfl) (by kernel_rfl) (fun _ _ _ h => h) rfl (fun x hx => by go_simp; rfl) ?_
    go_simp
    refine sched_skip 4 rfl (by kernel_rfl) (by kernel_rfl) (by kernel_rfl) (fun _ _ _ h => h) rfl ?_
    go_simp
    refine sched_skip 5 rfl (by kernel_rfl) (by kernel_rfl) (by kernel_rfl) (fun _ _ _ h => h) rfl ?_
    go_simp
    refine sched_skip 6 rfl (by kernel_rfl) (by kernel_rfl) (by kernel_rfl) (fun _ _ _ h => h) rfl ?_
    go_simp
    refine sched_skip 7 rfl (by kernel_rfl) (by kernel_rfl) (by kernel_rfl) (fun _ _ _ h => h) rfl ?_
    go_simp
    refine sched_skip 8 rfl (by kernel_rfl) (by kernel_rfl) (by kernel_rfl) (fun _ _ _ h => h) rfl ?_
    go_simp
    refine sched_skip 9 rfl (by kernel_rfl) (by kernel_rfl) (by kernel_rfl) (fun _ _ _ h => h) rfl ?_
    go_simp
    refine sched_skip 10 rfl (by kernel_rfl) (by kernel_rfl) (by kernel_rfl) (fun _ _ _ h => h) rfl ?_
    go_simp
    refine sched_skip 11 rfl (by kernel_rfl) (by kernel_rfl) (by kernel_rfl) (fun _ _ _ h => h) rfl ?_
    go_simp
    refine sched_skip 12 rfl (by kernel_rfl) (by kernel_rfl) (by kernel_rfl) (fun _ _ _ h => h) rfl ?_
    go_simp
    refine sched_skip 13 rfl (by kernel_rfl) (by kernel_rfl) (by kernel_rfl) (fun _ _ _ h => h) rfl ?_
    go_simp
    refine sched_skip 14 rfl (by kernel_rfl) (by kernel_rfl) (by kernel_rfl) (fun _ _ _ h => h) rfl ?_
    go_simp
    refine sched_skip 15 rfl (by kernel_rfl) (by kernel_rfl) (by kernel_rfl) (fun _ _ _ h => h) rfl ?_
    go_simp
    refine sched_skip 16 rfl (by kernel_rfl) (by kernel_rfl) (by kernel_rfl) (fun _ _ _ h => h) rfl ?_
    go_simp
    refine sched_skip 17 rfl (by kernel_rfl) (by kernel_rfl) (by kernel_rfl) (fun _ _ _ h => h) rfl ?_
    go_simp
    refine sched_skip 18 rfl (by kernel_rfl) (by kernel_rfl) (by kernel_rfl) (fun _ _ _ h => h) rfl ?_
    go_simp
    refine sched_take 19 rfl (by kernel_rfl) (by kernel_rfl) (by kernel_rfl) (fun _ _ _ h => h) rfl (fun x hx => by go_simp; rfl) ?_
    go_simp
    refine sched_done (by kernel_rfl) ?_
    go_wp2_with fail
    go_ret2
    exact ⟨rfl, HUa.out.trans HU1.out⟩
  · rw [hrb] at hri
    have hlt : ¬ epE l l.length ≤ x.ep := fun hh => hr ⟨hrb, hh⟩
    have hl0 : 0 < l.length := by
      by_cases h0 : l.length = 0
      · exfalso
        apply hlt
        rw [h0]
        unfold epE
        rw [if_neg (by omega)]
        exact hep
      · omega
    obtain ⟨gg, oo, rfl, hc⟩ := last_ep h hua hl0 (by omega)
    have hlast := Lib.hid hc
    have d1 : decide (x.ep < epE l l.length) = true := decide_eq_true (by omega)
    have d0 : decide ((0 : Int) < (l.length : Int)) = true := decide_eq_true (by omega)
    have d0n : decide (0 < l.length) = true := decide_eq_true (by omega)
    have hwp : IntKind.i64.wrap ((l.length : Int) - 1) = ((l.length - 1 : Nat) : Int) := by simp only [IntKind.wrap_i64]; omega
    have hi1 : l.length - 1 < l.length := by omega
    generalize hE : epE l l.length = E at *
    generalize hn1 : l.length - 1 = n1 at *
    clear hr hrb hlt hc hE hn1 hl0 hl
    skip
    clear h h1 h2 hua hA hwa0 hsm hq hq2
    go_enter Try.func60, Try.ntmps60
    go_wp2_with fail
    rw [hwa.out]
    clear hwa
    refine sched_begin NoB (by kernel_rfl) ?_
    have HU0 := Lib.hid (Upd.refl NoB wa).drew
    refine sched_take 0 rfl (by kernel_rfl) (by kernel_rfl) (by kernel_rfl) (fun _ _ _ h => h) rfl (fun x hx => by obtain ⟨y0, y1, y2, y3, y4, y5, y6, y7, y8, y9⟩ := hb.out x (HU0.out.trans hx); go_simp; rfl) ?_
    go_simp
    refine sched_alone 1 (by kernel_rfl) rfl rfl ?_
    go_simp
    refine (hri.out _ HU0.out).mono ?_
    rintro e w1 ⟨rfl, hu⟩
    refine ⟨hu, ?_⟩
    have HU1 := Lib.hid (HU0.out.trans hu)
    clear hu
    go_simp
    refine sched_take 2 rfl (by kernel_rfl) (by kernel_rfl) (by kernel_rfl) (fun _ _ _ h => h) rfl (fun x hx => by go_simp; rfl) ?_
    go_simp
    refine sched_take 3 rfl (by kernel_rfl) (by kernel_rfl) (by kernel_rfl) (fun _ _ _ h => h) rfl (fun x hx => by go_simp; rfl) ?_
    go_simp
    refine sched_take 4 rfl (by kernel_rfl) (by kernel_rfl) (by kernel_rfl) (fun _ _ _ h => h) rfl (fun x hx => by go_simp; rfl) ?_
    go_simp
    refine sched_take 5 rfl (by kernel_rfl) (by kernel_rfl) (by kernel_rfl) (fun _ _ _ h => h) rfl (fun x hx => by go_simp; rfl) ?_
    go_simp
    refine sched_take 6 rfl (by kernel_rfl) (by kernel_rfl) (by kernel_rfl) (fun _ _ _ h => h) rfl (fun x hx => by go_simp; rfl) ?_
    go_simp
    refine sched_take 7 rfl (by kernel_rfl) (by kernel_rfl) (by kernel_rfl) (fun _ _ _ h => h) rfl (fun x hx => by go_simp; rfl) ?_
    go_simp
    refine sched_take 8 rfl (by kernel_rfl) (by kernel_rfl) (by kernel_rfl) (fun _ _ _ h => h) rfl (fun x hx => by go_simp; rfl) ?_
    go_simp
    refine sched_take 9 rfl (by kernel_rfl) (by kernel_rfl) (by kernel_rfl) (fun _ _ _ h => h) rfl (fun x hx => by obtain ⟨y0, y1, y2, y3, y4, y5, y6, y7, y8, y9⟩ := hb.out x (HU1.out.trans hx); go_simp; rfl) ?_
    go_simp
    refine sched_take 10 rfl (by kernel_rfl) (by kernel_rfl) (by kernel_rfl) (fun _ _ _ h => h) rfl (fun x hx => by go_simp; rfl) ?_
    go_simp
    refine sched_take 11 rfl (by kernel_rfl) (by kernel_rfl) (by kernel_rfl) (fun _ _ _ h => h) rfl (fun x hx => by go_simp; rfl) ?_
    go_simp
    refine sched_take 12 rfl (by kernel_rfl) (by kernel_rfl) (by kernel_rfl) (fun _ _ _ h => h) rfl (fun x hx => by go_simp; rfl) ?_
    go_simp
    refine sched_take 13 rfl (by kernel_rfl) (by kernel_rfl) (by kernel_rfl) (fun _ _ _ h => h) rfl (fun x hx => by go_simp; rfl) ?_
    go_simp
    refine sched_take 14 rfl (by kernel_rfl) (by kernel_rfl) (by kernel_rfl) (fun _ _ _ h => h) rfl (fun x hx => by go_simp; rfl) ?_
    go_simp
    refine sched_take 15 rfl (by kernel_rfl) (by kernel_rfl) (by kernel_rfl) (fun _ _ _ h => h) rfl (fun x hx => by go_simp; rfl) ?_
    go_simp
    refine sched_take 16 rfl (by kernel_rfl) (by kernel_rfl) (by kernel_rfl) (fun _ _ _ h => h) rfl (fun x hx => by have q0 := hx.cell (HU1.out.cell hlast.out (fun h => h)) (fun h => h); go_simp; rfl) ?_
    go_simp
    refine sched_take 17 rfl (by kernel_rfl) (by kernel_rfl) (by kernel_rfl) (fun _ _ _ h => h) rfl (fun x hx => by go_simp; rfl) ?_
    go_simp
    refine sched_take 18 rfl (by kernel_rfl) (by kernel_rfl) (by kernel_rfl) (fun _ _ _ h => h) rfl (fun x hx => by go_simp; rfl) ?_
    go_simp
    refine sched_take 19 rfl (by kernel_rfl) (by kernel_rfl) (by kernel_rfl) (fun _ _ _ h => h) rfl (fun x hx => by go_simp; rfl) ?_
    go_simp
    refine sched_done (by kernel_rfl) ?_
    go_wp2_with fail
    go_ret2
    exact ⟨rfl, HUa.out.trans HU1.out⟩
set_option maxHeartbeats 16000000 in
set_option maxRecDepth 100000 in
theorem refadd_ok {F T : Nat → Prop} (v : Value) (l : List Ent) (x : Ent) (A B : Option Addr) (c d : Nat) (w : World) (h : RSl Rep.ent w F v l) (hbF : Bd F w) (h1 : RSl Rep.rd w T (.slice A x.rd.length c) x.rd) (h2 : RSl Rep.wt w T (.slice B x.wr.length d) x.wr) (hbT : Bd T w) (hsm : x.small) (hq : 0 ≤ x.tq) (hq2 : 0 ≤ x.eq) (hl : l.length < 400)
    (hr : rightB x = true) (hle : epE l l.length ≤ x.ep) :
    Calls Try.prog 60 #[v, .agg #[.int .u64 x.ep, .int .i64 x.kd, .int .i64 x.tc, .int .u64 x.tq, .bool x.pl, .slice A x.rd.length c, .slice B x.wr.length d, .int .i64 x.ec, .int .u64 x.eq, .int .i64 x.cd]] w fun e w' => ∃ v', e = .returned (.tuple #[v', .int .i64 0]) ∧ RSl Rep.ent w' (fun b => ((F b ∨ T b) ∨ w.heap.size ≤ b) ∧ b < w'.heap.size) v' (l ++ [x]) ∧ Upd NoB w w' := by
  have hl2 := Lib.hid hl
  skip
  obtain ⟨wa, hwa0⟩ : ∃ wa, w.alloc (.cells #[.int .u64 x.ep, .int .i64 x.kd, .int .i64 x.tc, .int .u64 x.tq, .bool x.pl, .slice A x.rd.length c, .slice B x.wr.length d, .int .i64 x.ec, .int .u64 x.eq, .int .i64 x.cd] 72) = wa := ⟨_, rfl⟩
  have hua : Upd NoB w wa := by rw [← hwa0]; exact (Upd.refl _ _).alloc _
  have hA : wa.heap[w.heap.size]? = some (.cells #[.int .u64 x.ep, .int .i64 x.kd, .int .i64 x.tc, .int .u64 x.tq, .bool x.pl, .slice A x.rd.length c, .slice B x.wr.length d, .int .i64 x.ec, .int .u64 x.eq, .int .i64 x.cd] 72 (0, 0)) := by rw [← hwa0]; exact heap_alloc_new _ _
  have hwa := Lib.hid hwa0
  have HUa := Lib.hid hua
  have HV := Lib.hid h
  have HR1 := Lib.hid (h1.upd hua (fun _ _ h => h))
  have HR2 := Lib.hid (h2.upd hua (fun _ _ h => h))
  have hb := Lib.hid (fun z (hz : Upd NoB wa z) => ten_cells (hz.heap hA (fun h => h)))
  have hri := Lib.hid (fun z (hz : Upd NoB wa z) => refright_any x A B c d z (h1.upd (hua.trans hz) (fun _ _ h => h)) (h2.upd (hua.trans hz) (fun _ _ h => h)) hsm hq hq2)
  have hws : w.heap.size < wa.heap.size := lt_of_heap hA
  obtain ⟨AA, cc, _, rfl, g1, g2, _⟩ := id h
  have g2' : cc ≤ 9223372036854775807 := g2
  have d399 : decide ((399 : Int) < (l.length : Int)) = false := decide_eq_false (by omega)
  have d399n : decide (399 < l.length) = false := decide_eq_false (by omega)
  rw [hr] at hri
  have hBF := Lib.hid hbF
  have hBT := Lib.hid hbT
  have hHA := Lib.hid hA
  by_cases hl0 : 0 < l.length
  · obtain ⟨gg, oo, rfl, hc⟩ := last_ep h hua hl0 (by omega)
    have hlast := Lib.hid hc
    have d1 : decide (x.ep < epE l l.length) = false := decide_eq_false (by omega)
    have d0 : decide ((0 : Int) < (l.length : Int)) = true := decide_eq_true (by omega)
    have d0n : decide (0 < l.length) = true := decide_eq_true (by omega)
    have hwp : IntKind.i64.wrap ((l.length : Int) - 1) = ((l.length - 1 : Nat) : Int) := by simp only [IntKind.wrap_i64]; omega
    have hi1 : l.length - 1 < l.length := by omega
    generalize hE : epE l l.length = E at *
    generalize hn1 : l.length - 1 = n1 at *
    clear hr hle hc hE hn1 hl0 hl hbF hbT
    skip
    clear h h1 h2 hua hA hwa0 hsm hq hq2
    go_enter Try.func60, Try.ntmps60
    go_wp2_with fail
    rw [hwa.out]
    clear hwa
    refine sched_begin NoB (by kernel_rfl) ?_
    have HU0 := Lib.hid (Upd.refl NoB wa).drew
    refine sched_take 0 rfl (by kernel_rfl) (by kernel_rfl) (by kernel_rfl) (fun _ _ _ h => h) rfl (fun x hx => by obtain ⟨y0, y1, y2, y3, y4, y5, y6, y7, y8, y9⟩ := hb.out x (HU0.out.trans hx); go_simp; rfl) ?_
    go_simp
    refine sched_alone 1 (by kernel_rfl) rfl rfl ?_
    go_simp
    refine (hri.out _ HU0.out).mono ?_
    rintro e w1 ⟨rfl, hu⟩
    refine ⟨hu, ?_⟩
    have HU1 := Lib.hid (HU0.out.trans hu)
    clear hu
    go_simp
    refine sched_take 2 rfl (by kernel_rfl) (by kernel_rfl) (by kernel_rfl) (fun _ _ _ h => h) rfl (fun x hx => by go_simp; rfl) ?_
    go_simp
    refine sched_take 3 rfl (by kernel_rfl) (by kernel_rfl) (by kernel_rfl) (fun _ _ _ h => h) rfl (fun x hx => by go_simp; rfl) ?_
    go_simp
    refine sched_take 4 rfl (by kernel_rfl) (by kernel_rfl) (by kernel_rfl) (fun _ _ _ h => h) rfl (fun x hx => by go_simp; rfl) ?_
    go_simp
    refine sched_take 5 rfl (by kernel_rfl) (by kernel_rfl) (by kernel_rfl) (fun _ _ _ h => h) rfl (fun x hx => by go_simp; rfl) ?_
    go_simp
    refine sched_take 6 rfl (by kernel_rfl) (by kernel_rfl) (by kernel_rfl) (fun _ _ _ h => h) rfl (fun x hx => by go_simp; rfl) ?_
    go_simp
    refine sched_take 7 rfl (by kernel_rfl) (by kernel_rfl) (by kernel_rfl) (fun _ _ _ h => h) rfl (fun x hx => by go_simp; rfl) ?_
    go_simp
    refine sched_take 8 rfl (by kernel_rfl) (by kernel_rfl) (by kernel_rfl) (fun _ _ _ h => h) rfl (fun x hx => by go_simp; rfl) ?_
    go_simp
    refine sched_take 9 rfl (by kernel_rfl) (by kernel_rfl) (by kernel_rfl) (fun _ _ _ h => h) rfl (fun x hx => by obtain ⟨y0, y1, y2, y3, y4, y5, y6, y7, y8, y9⟩ := hb.out x (HU1.out.trans hx); go_simp; rfl) ?_
    go_simp
    refine sched_take 10 rfl (by kernel_rfl) (by kernel_rfl) (by kernel_rfl) (fun _ _ _ h => h) rfl (fun x hx => by go_simp; rfl) ?_
    go_simp
    refine sched_take 11 rfl (by kernel_rfl) (by kernel_rfl) (by kernel_rfl) (fun _ _ _ h => h) rfl (fun x hx => by go_simp; rfl) ?_
    go_simp
    refine sched_take 12 rfl (by kernel_rfl) (by kernel_rfl) (by kernel_rfl) (fun _ _ _ h => h) rfl (fun x hx => by go_simp; rfl) ?_
    go_simp
    refine sched_take 13 rfl (by kernel_rfl) (by kernel_rfl) (by kernel_rfl) (fun _ _ _ h => h) rfl (fun x hx => by go_simp; rfl) ?_
    go_simp
    refine sched_take 14 rfl (by kernel_rfl) (by kernel_rfl) (by kernel_rfl) (fun _ _ _ h => h) rfl (fun x hx => by go_simp; rfl) ?_
    go_simp
    refine sched_take 15 rfl (by kernel_rfl) (by kernel_rfl) (by kernel_rfl) (fun _ _ _ h => h) rfl (fun x hx => by go_simp; rfl) ?_
    go_simp
    refine sched_take 16 rfl (by kernel_rfl) (by kernel_rfl) (by kernel_rfl) (fun _ _ _ h => h) rfl (fun x hx => by have q0 := hx.cell (HU1.out.cell hlast.out (fun h => h)) (fun h => h); go_simp; rfl) ?_
    go_simp
    refine sched_take 17 rfl (by kernel_rfl) (by kernel_rfl) (by kernel_rfl) (fun _ _ _ h => h) rfl (fun x hx => by go_simp; rfl) ?_
    go_simp
    refine sched_take 18 rfl (by kernel_rfl) (by kernel_rfl) (by kernel_rfl) (fun _ _ _ h => h) rfl (fun x hx => by go_simp; rfl) ?_
    go_simp
    refine sched_take 19 rfl (by kernel_rfl) (by kernel_rfl) (by kernel_rfl) (fun _ _ _ h => h) rfl (fun x hx => by go_simp; rfl) ?_
    go_simp
    refine sched_done (by kernel_rfl) ?_
    go_wp2_with fail
    have HL0 := Lib.hid (fun z (hz : Upd NoB w1 z) => HV.out.upd ((HUa.out.trans HU1.out).trans hz) (fun _ _ h => h))
    have HY1 := Lib.hid (fun z (hz : Upd NoB w1 z) => HR1.out.upd (HU1.out.trans hz) (fun _ _ h => h))
    have HY2 := Lib.hid (fun z (hz : Upd NoB w1 z) => HR2.out.upd (HU1.out.trans hz) (fun _ _ h => h))
    have hsd1 := Lib.hid (Nat.le_trans HUa.out.size HU1.out.size)
    have hsd2 := Lib.hid (show w.heap.size < w1.heap.size from Nat.lt_of_lt_of_le hws HU1.out.size)
    refine sched_begin (fun b => w1.heap.size ≤ b) (by kernel_rfl) ?_
    obtain ⟨wd, hwd⟩ : ∃ wd, w1.drew = wd := ⟨_, rfl⟩
    have hsz : w1.heap.size = wd.heap.size := by rw [← hwd]; rfl
    have HU1d := Lib.hid (show Upd NoB w1 wd from by rw [← hwd]; exact (Upd.refl _ _).drew)
    rw [hwd, hsz]
    rw [hsz] at hsd1 hsd2
    have hsd := Lib.hid hsd1.out
    have HL := Lib.hid (fun z (hz : Upd NoB wd z) => HL0.out z (HU1d.out.trans hz))
    have HZ1 := Lib.hid (fun z (hz : Upd NoB wd z) => HY1.out z (HU1d.out.trans hz))
    have HZ2 := Lib.hid (fun z (hz : Upd NoB wd z) => HY2.out z (HU1d.out.trans hz))
    have HUw := Lib.hid (HU1.out.trans HU1d.out)
    have hrep := Lib.hid (fun z (hz : Upd NoB wd z) => show Rep.ent.rep z T x (#[.int .u64 x.ep, .int .i64 x.kd, .int .i64 x.tc, .int .u64 x.tq, .bool x.pl, .slice A x.rd.length c, .slice B x.wr.length d, .int .i64 x.ec, .int .u64 x.eq, .int .i64 x.cd] : Array Value).toList from ⟨_, _, rfl, HZ1.out z hz, HZ2.out z hz⟩)
    clear hwd hsz
    try clear y0 y1 y2 y3 y4 y5 y6 y7 y8 y9
    refine sched_take 1 rfl (by kernel_rfl) (by kernel_rfl) (by kernel_rfl) (fun _ _ _ h => h) rfl (fun x hx => by go_simp; rfl) ?_
    go_simp
    refine sched_take 3 rfl (by kernel_rfl) (by kernel_rfl) (by kernel_rfl) (fun _ _ _ h => h) rfl (fun x hx => by obtain ⟨y0, y1, y2, y3, y4, y5, y6, y7, y8, y9⟩ := hb.out _ HUw.out; replace y0 := hx.cell y0 (fun e => by have e' : wd.heap.size ≤ w.heap.size := e; have := hsd2.out; omega); replace y1 := hx.cell y1 (fun e => by have e' : wd.heap.size ≤ w.heap.size := e; have := hsd2.out; omega); replace y2 := hx.cell y2 (fun e => by have e' : wd.heap.size ≤ w.heap.size := e; have := hsd2.out; omega); replace y3 := hx.cell y3 (fun e => by have e' : wd.heap.size ≤ w.heap.size := e; have := hsd2.out; omega); replace y4 := hx.cell y4 (fun e => by have e' : wd.heap.size ≤ w.heap.size := e; have := hsd2.out; omega); replace y5 := hx.cell y5 (fun e => by have e' : wd.heap.size ≤ w.heap.size := e; have := hsd2.out; omega); replace y6 := hx.cell y6 (fun e => by have e' : wd.heap.size ≤ w.heap.size := e; have := hsd2.out; omega); replace y7 := hx.cell y7 (fun e => by have e' : wd.heap.size ≤ w.heap.size := e; have := hsd2.out; omega); replace y8 := hx.cell y8 (fun e => by have e' : wd.heap.size ≤ w.heap.size := e; have := hsd2.out; omega); replace y9 := hx.cell y9 (fun e => by have e' : wd.heap.size ≤ w.heap.size := e; have := hsd2.out; omega); go_simp; rfl) ?_
    go_simp
    refine sched_two 0 4 (by kernel_rfl) rfl rfl rfl rfl ?_ ?_
    · go_simp
      refine ⟨(Upd.refl _ _).alloc _, ?_⟩
      have HA1 := Lib.hid (AddA.made (Z := fun b => F b ∨ T b) (Upd.refl NoB wd))
      have HO2 := Lib.hid HA1.out.os
      have HB2 := Lib.hid HA1.out.bd
      have HL2 := Lib.hid (HL.out _ HA1.out.upd)
      have HT2 := Lib.hid (fun cs hc => HA1.out.rows (T := F) (fun b hb => ⟨.inl hb, by have := hBF.out b hb; have := hsd.out; omega⟩) l cs hc)
      have hs0 := Lib.hid (show wd.heap.size < (wd.alloc (.cells #[] 72)).heap.size from by simp)
      go_simp
      refine sched_twoL 2 4 (by kernel_rfl) rfl rfl rfl rfl ?_ ?_
      · go_simp
        at_builtin
        refine app_all2 (r := Rep.ent) (v := .slice (some ⟨wd.heap.size, 0, none⟩) 0 0) (vy := (.slice (some ⟨gg, oo, none⟩) l.length cc)) (l := []) (l' := l) rfl _ _ 56 72 (.agg #[.int .u64 0, .int .i64 0, .int .i64 0, .int .u64 0, .bool false, .slice none 0 0, .slice none 0 0, .int .i64 0, .int .u64 0, .int .i64 0]) 112 rfl Try.underlying56 (iEnt _ (by decide)) rfl (by decide) rfl rfl HO2.out HB2.out HL2.out HT2.out (by simp; have := hl2.out; omega) ?_
        intro v1 w2 hat2 ho2 hu2
        have HA2 := Lib.hid (show AddA wd w2 (fun b => F b ∨ T b) v1 l from by simpa using HA1.out.app hat2 ho2 hu2)
        have hov := Lib.hid (show v1.ownBlock = some (wd.heap.size) ∨ v1.ownBlock = some (wd.alloc (.cells #[] 72)).heap.size from hat2)
        obtain ⟨AV, cV, _, eV, _⟩ := HA2.out.os.read
        refine law_done ⟨hu2.mono (fun b _ hb => HA1.out.ge b hb), ?_⟩
        subst eV
        have hb4 := Lib.hid (show wd.heap.size ≤ w2.heap.size ∧ w2.heap.size < (w2.alloc (.cells #[.int .u64 x.ep, .int .i64 x.kd, .int .i64 x.tc, .int .u64 x.tq, .bool x.pl, .slice A x.rd.length c, .slice B x.wr.length d, .int .i64 x.ec, .int .u64 x.eq, .int .i64 x.cd] 72)).heap.size from ⟨HA2.out.upd.size, by simp⟩)
        have HA5 := Lib.hid (HA2.out.keep ((Upd.refl NoB w2).alloc (.cells #[.int .u64 x.ep, .int .i64 x.kd, .int .i64 x.tc, .int .u64 x.tq, .bool x.pl, .slice A x.rd.length c, .slice B x.wr.length d, .int .i64 x.ec, .int .u64 x.eq, .int .i64 x.cd] 72)))
        have hne4 := Lib.hid (show (Value.slice AV l.length cV).ownBlock ≠ some w2.heap.size from fun e => by
          obtain ⟨_, _, hset, _⟩ := HA2.out.os
          have := (hset _ e).2
          omega)
        have HX5 := Lib.hid (box_ent (heap_alloc_new w2 _) (hrep.out _ HA5.out.upd))
        have HO5 := Lib.hid HA5.out.os
        have HB5 := Lib.hid HA5.out.bd
        have HT5 := Lib.hid (fun cs hc => HA5.out.rows2 (T := T) (fun b hb => ⟨.inr hb, by have := hBT.out b hb; have := hsd.out; omega⟩) hb4.out hne4.out [x] cs hc)
        clear hat2 ho2 hu2
        go_simp
        refine sched_alone 4 (by kernel_rfl) rfl rfl ?_
        go_simp
        refine ⟨(Upd.refl _ _).alloc _, ?_⟩
        go_simp
        refine sched_law 5 (by kernel_rfl) rfl rfl ?_
        go_simp
        at_builtin
        refine app_all2 (r := Rep.ent) (v := .slice AV l.length cV) (vy := .slice (some ⟨w2.heap.size, 0, none⟩) 1 1) (l := l) (l' := [x]) rfl _ _ 56 72 (.agg #[.int .u64 0, .int .i64 0, .int .i64 0, .int .u64 0, .bool false, .slice none 0 0, .slice none 0 0, .int .i64 0, .int .u64 0, .int .i64 0]) 112 rfl Try.underlying56 (iEnt _ (by decide)) rfl (by decide) rfl rfl HO5.out HB5.out HX5.out HT5.out (by simp; have := hl2.out; omega) ?_
        intro v2 w9 hat5 ho5 hu5
        have HF := Lib.hid (HA5.out.app hat5 ho5 hu5)
        refine law_done ⟨hu5.mono (fun b _ hb => HA5.out.ge b hb), ?_⟩
        clear hat5 ho5 hu5
        go_simp
        refine sched_take 6 rfl (by kernel_rfl) (by kernel_rfl) (by kernel_rfl) (fun _ _ _ h => h) rfl (fun x hx => by go_simp; rfl) ?_
        go_simp
        refine sched_take 7 rfl (by kernel_rfl) (by kernel_rfl) (by kernel_rfl) (fun _ _ _ h => h) rfl (fun x hx => by go_simp; rfl) ?_
        go_simp
        refine sched_done (by kernel_rfl) ?_
        obtain ⟨AF, cF, _, e9, _⟩ := HF.out.os.read
        have HFin := Lib.hid (HF.out.os.read.mono (fun b hb => show ((F b ∨ T b) ∨ w.heap.size ≤ b) ∧ b < _ from ⟨hb.1.imp id (fun h => by have := hsd.out; omega), hb.2⟩))
        have HFu := Lib.hid HF.out.upd
        generalize List.length _ = nF at e9
        subst e9
        clear HF
        go_wp2_with fail
        go_ret2
        exact ⟨_, rfl, HFin.out, HUa.out.trans (HUw.out.trans HFu.out)⟩
      · go_simp
        refine ⟨(Upd.refl _ _).alloc _, ?_⟩
        clear HO2 HB2 HL2 HT2
        have HA0 := HA1
        replace HA1 := Lib.hid (HA0.out.keep ((Upd.refl NoB (wd.alloc (.cells #[] 72))).alloc (.cells #[.int .u64 x.ep, .int .i64 x.kd, .int .i64 x.tc, .int .u64 x.tq, .bool x.pl, .slice A x.rd.length c, .slice B x.wr.length d, .int .i64 x.ec, .int .u64 x.eq, .int .i64 x.cd] 72)))
        have hx0 := heap_alloc_new (wd.alloc (.cells #[] 72)) (.cells #[.int .u64 x.ep, .int .i64 x.kd, .int .i64 x.tc, .int .u64 x.tq, .bool x.pl, .slice A x.rd.length c, .slice B x.wr.length d, .int .i64 x.ec, .int .u64 x.eq, .int .i64 x.cd] 72)
        have hq := Lib.hid (show (wd.alloc (.cells #[] 72)).heap.size = wd.heap.size + 1 ∧ ((wd.alloc (.cells #[] 72)).alloc (.cells #[.int .u64 x.ep, .int .i64 x.kd, .int .i64 x.tc, .int .u64 x.tq, .bool x.pl, .slice A x.rd.length c, .slice B x.wr.length d, .int .i64 x.ec, .int .u64 x.eq, .int .i64 x.cd] 72)).heap.size = wd.heap.size + 2 from by simp)
        rw [hq.out.1] at hx0
        have hX := Lib.hid (box_ent hx0 (hrep.out _ HA1.out.upd))
        clear hx0
        have HO2 := Lib.hid HA1.out.os
        have HB2 := Lib.hid HA1.out.bd
        have HL2 := Lib.hid (HL.out _ HA1.out.upd)
        have HT2 := Lib.hid (fun cs hc => HA1.out.rows (T := F) (fun b hb => ⟨.inl hb, by have := hBF.out b hb; have := hsd.out; omega⟩) l cs hc)
        go_simp
        refine sched_law 2 (by kernel_rfl) rfl rfl ?_
        go_simp
        at_builtin
        refine app_all2 (r := Rep.ent) (v := .slice (some ⟨wd.heap.size, 0, none⟩) 0 0) (vy := (.slice (some ⟨gg, oo, none⟩) l.length cc)) (l := []) (l' := l) rfl _ _ 56 72 (.agg #[.int .u64 0, .int .i64 0, .int .i64 0, .int .u64 0, .bool false, .slice none 0 0, .slice none 0 0, .int .i64 0, .int .u64 0, .int .i64 0]) 112 rfl Try.underlying56 (iEnt _ (by decide)) rfl (by decide) rfl rfl HO2.out HB2.out HL2.out HT2.out (by simp; have := hl2.out; omega) ?_
        intro v1 w2 hat2 ho2 hu2
        have HA2 := Lib.hid (show AddA wd w2 (fun b => F b ∨ T b) v1 l from by simpa using HA1.out.app hat2 ho2 hu2)
        have hov := Lib.hid (show v1.ownBlock = some (wd.heap.size) ∨ v1.ownBlock = some ((wd.alloc (.cells #[] 72)).alloc (.cells #[.int .u64 x.ep, .int .i64 x.kd, .int .i64 x.tc, .int .u64 x.tq, .bool x.pl, .slice A x.rd.length c, .slice B x.wr.length d, .int .i64 x.ec, .int .u64 x.eq, .int .i64 x.cd] 72)).heap.size from hat2)
        obtain ⟨AV, cV, _, eV, _⟩ := HA2.out.os.read
        refine law_done ⟨hu2.mono (fun b _ hb => HA1.out.ge b hb), ?_⟩
        subst eV
        have hb4 := Lib.hid (show wd.heap.size ≤ (wd.heap.size + 1) ∧ (wd.heap.size + 1) < w2.heap.size from ⟨by omega, by have := hu2.size; have := hq.out.1; have := hq.out.2; omega⟩)
        have HA5 := HA2
        have hne4 := Lib.hid (show (Value.slice AV l.length cV).ownBlock ≠ some (wd.heap.size + 1) from fun e => by
          have h1 := hq.out.1
          have h2 := hq.out.2
          rcases hov.out with h | h
          · rw [h] at e; have := Option.some.inj e; omega
          · rw [h] at e; have := Option.some.inj e; omega)
        have HX5 := Lib.hid (hX.out.upd hu2 (fun b hb f => by
          have f' : wd.heap.size = b := Option.some.inj f
          have h1 := hq.out.1
          rcases hb with h | h
          · have := hBT.out b h; have := hsd2.out; omega
          · omega))
        have HO5 := Lib.hid HA5.out.os
        have HB5 := Lib.hid HA5.out.bd
        have HT5 := Lib.hid (fun cs hc => HA5.out.rows2 (T := T) (fun b hb => ⟨.inr hb, by have := hBT.out b hb; have := hsd.out; omega⟩) hb4.out hne4.out [x] cs hc)
        clear hat2 ho2 hu2
        go_simp
        refine sched_law 5 (by kernel_rfl) rfl rfl ?_
        go_simp
        at_builtin
        refine app_all2 (r := Rep.ent) (v := .slice AV l.length cV) (vy := .slice (some ⟨(wd.heap.size + 1), 0, none⟩) 1 1) (l := l) (l' := [x]) rfl _ _ 56 72 (.agg #[.int .u64 0, .int .i64 0, .int .i64 0, .int .u64 0, .bool false, .slice none 0 0, .slice none 0 0, .int .i64 0, .int .u64 0, .int .i64 0]) 112 rfl Try.underlying56 (iEnt _ (by decide)) rfl (by decide) rfl rfl HO5.out HB5.out HX5.out HT5.out (by simp; have := hl2.out; omega) ?_
        intro v2 w9 hat5 ho5 hu5
        have HF := Lib.hid (HA5.out.app hat5 ho5 hu5)
        refine law_done ⟨hu5.mono (fun b _ hb => HA5.out.ge b hb), ?_⟩
        clear hat5 ho5 hu5
        go_simp
        refine sched_take 6 rfl (by kernel_rfl) (by kernel_rfl) (by kernel_rfl) (fun _ _ _ h => h) rfl (fun x hx => by go_simp; rfl) ?_
        go_simp
        refine sched_take 7 rfl (by kernel_rfl) (by kernel_rfl) (by kernel_rfl) (fun _ _ _ h => h) rfl (fun x hx => by go_simp; rfl) ?_
        go_simp
        refine sched_done (by kernel_rfl) ?_
        obtain ⟨AF, cF, _, e9, _⟩ := HF.out.os.read
        have HFin := Lib.hid (HF.out.os.read.mono (fun b hb => show ((F b ∨ T b) ∨ w.heap.size ≤ b) ∧ b < _ from ⟨hb.1.imp id (fun h => by have := hsd.out; omega), hb.2⟩))
        have HFu := Lib.hid HF.out.upd
        generalize List.length _ = nF at e9
        subst e9
        clear HF
        go_wp2_with fail
        go_ret2
        exact ⟨_, rfl, HFin.out, HUa.out.trans (HUw.out.trans HFu.out)⟩
    · go_simp
      refine ⟨(Upd.refl _ _).alloc _, ?_⟩
      have hx0 := heap_alloc_new wd (.cells #[.int .u64 x.ep, .int .i64 x.kd, .int .i64 x.tc, .int .u64 x.tq, .bool x.pl, .slice A x.rd.length c, .slice B x.wr.length d, .int .i64 x.ec, .int .u64 x.eq, .int .i64 x.cd] 72)
      have hX := Lib.hid (box_ent hx0 (hrep.out _ ((Upd.refl NoB wd).alloc _)))
      have hq := Lib.hid (show (wd.alloc (.cells #[.int .u64 x.ep, .int .i64 x.kd, .int .i64 x.tc, .int .u64 x.tq, .bool x.pl, .slice A x.rd.length c, .slice B x.wr.length d, .int .i64 x.ec, .int .u64 x.eq, .int .i64 x.cd] 72)).heap.size = wd.heap.size + 1 ∧ ((wd.alloc (.cells #[.int .u64 x.ep, .int .i64 x.kd, .int .i64 x.tc, .int .u64 x.tq, .bool x.pl, .slice A x.rd.length c, .slice B x.wr.length d, .int .i64 x.ec, .int .u64 x.eq, .int .i64 x.cd] 72)).alloc (.cells #[] 72)).heap.size = wd.heap.size + 2 from by simp)
      have HA1 := Lib.hid (show AddA wd ((wd.alloc (.cells #[.int .u64 x.ep, .int .i64 x.kd, .int .i64 x.tc, .int .u64 x.tq, .bool x.pl, .slice A x.rd.length c, .slice B x.wr.length d, .int .i64 x.ec, .int .u64 x.eq, .int .i64 x.cd] 72)).alloc (.cells #[] 72)) (fun b => F b ∨ T b) (.slice (some ⟨wd.heap.size + 1, 0, none⟩) 0 0) [] from by
        have h9 := AddA.made (Z := fun b => F b ∨ T b) ((Upd.refl NoB wd).alloc (.cells #[.int .u64 x.ep, .int .i64 x.kd, .int .i64 x.tc, .int .u64 x.tq, .bool x.pl, .slice A x.rd.length c, .slice B x.wr.length d, .int .i64 x.ec, .int .u64 x.eq, .int .i64 x.cd] 72))
        rw [hq.out.1] at h9
        exact h9)
      have hX2 := Lib.hid (hX.out.upd ((Upd.refl NoB (wd.alloc (.cells #[.int .u64 x.ep, .int .i64 x.kd, .int .i64 x.tc, .int .u64 x.tq, .bool x.pl, .slice A x.rd.length c, .slice B x.wr.length d, .int .i64 x.ec, .int .u64 x.eq, .int .i64 x.cd] 72))).alloc (.cells #[] 72)) (fun _ _ h => h))
      clear hx0
      have HO2 := Lib.hid HA1.out.os
      have HB2 := Lib.hid HA1.out.bd
      have HL2 := Lib.hid (HL.out _ HA1.out.upd)
      have HT2 := Lib.hid (fun cs hc => HA1.out.rows (T := F) (fun b hb => ⟨.inl hb, by have := hBF.out b hb; have := hsd.out; omega⟩) l cs hc)
      go_simp
      refine sched_alone 0 (by kernel_rfl) rfl rfl ?_
      go_simp
      refine ⟨(Upd.refl _ _).alloc _, ?_⟩
      go_simp
      refine sched_law 2 (by kernel_rfl) rfl rfl ?_
      go_simp
      at_builtin
      refine app_all2 (r := Rep.ent) (v := .slice (some ⟨wd.heap.size + 1, 0, none⟩) 0 0) (vy := (.slice (some ⟨gg, oo, none⟩) l.length cc)) (l := []) (l' := l) rfl _ _ 56 72 (.agg #[.int .u64 0, .int .i64 0, .int .i64 0, .int .u64 0, .bool false, .slice none 0 0, .slice none 0 0, .int .i64 0, .int .u64 0, .int .i64 0]) 112 rfl Try.underlying56 (iEnt _ (by decide)) rfl (by decide) rfl rfl HO2.out HB2.out HL2.out HT2.out (by simp; have := hl2.out; omega) ?_
      intro v1 w2 hat2 ho2 hu2
      have HA2 := Lib.hid (show AddA wd w2 (fun b => F b ∨ T b) v1 l from by simpa using HA1.out.app hat2 ho2 hu2)
      have hov := Lib.hid (show v1.ownBlock = some (wd.heap.size + 1) ∨ v1.ownBlock = some ((wd.alloc (.cells #[.int .u64 x.ep, .int .i64 x.kd, .int .i64 x.tc, .int .u64 x.tq, .bool x.pl, .slice A x.rd.length c, .slice B x.wr.length d, .int .i64 x.ec, .int .u64 x.eq, .int .i64 x.cd] 72)).alloc (.cells #[] 72)).heap.size from hat2)
      obtain ⟨AV, cV, _, eV, _⟩ := HA2.out.os.read
      refine law_done ⟨hu2.mono (fun b _ hb => HA1.out.ge b hb), ?_⟩
      subst eV
      have hb4 := Lib.hid (show wd.heap.size ≤ wd.heap.size ∧ wd.heap.size < w2.heap.size from ⟨Nat.le_refl _, by have := hu2.size; have := hq.out.2; omega⟩)
      have HA5 := HA2
      have hne4 := Lib.hid (show (Value.slice AV l.length cV).ownBlock ≠ some wd.heap.size from fun e => by
        have h1 := hq.out.1
        have h2 := hq.out.2
        rcases hov.out with h | h
        · rw [h] at e; have := Option.some.inj e; omega
        · rw [h] at e; have := Option.some.inj e; omega)
      have HX5 := Lib.hid (hX2.out.upd hu2 (fun b hb f => by
        have f' : wd.heap.size + 1 = b := Option.some.inj f
        have h1 := hq.out.1
        rcases hb with h | h
        · have := hBT.out b h; have := hsd2.out; omega
        · omega))
      have HO5 := Lib.hid HA5.out.os
      have HB5 := Lib.hid HA5.out.bd
      have HT5 := Lib.hid (fun cs hc => HA5.out.rows2 (T := T) (fun b hb => ⟨.inr hb, by have := hBT.out b hb; have := hsd.out; omega⟩) hb4.out hne4.out [x] cs hc)
      clear hat2 ho2 hu2
      go_simp
      refine sched_law 5 (by kernel_rfl) rfl rfl ?_
      go_simp
      at_builtin
      refine app_all2 (r := Rep.ent) (v := .slice AV l.length cV) (vy := .slice (some ⟨wd.heap.size, 0, none⟩) 1 1) (l := l) (l' := [x]) rfl _ _ 56 72 (.agg #[.int .u64 0, .int .i64 0, .int .i64 0, .int .u64 0, .bool false, .slice none 0 0, .slice none 0 0, .int .i64 0, .int .u64 0, .int .i64 0]) 112 rfl Try.underlying56 (iEnt _ (by decide)) rfl (by decide) rfl rfl HO5.out HB5.out HX5.out HT5.out (by simp; have := hl2.out; omega) ?_
      intro v2 w9 hat5 ho5 hu5
      have HF := Lib.hid (HA5.out.app hat5 ho5 hu5)
      refine law_done ⟨hu5.mono (fun b _ hb => HA5.out.ge b hb), ?_⟩
      clear hat5 ho5 hu5
      go_simp
      refine sched_take 6 rfl (by kernel_rfl) (by kernel_rfl) (by kernel_rfl) (fun _ _ _ h => h) rfl (fun x hx => by go_simp; rfl) ?_
      go_simp
      refine sched_take 7 rfl (by kernel_rfl) (by kernel_rfl) (by kernel_rfl) (fun _ _ _ h => h) rfl (fun x hx => by go_simp; rfl) ?_
      go_simp
      refine sched_done (by kernel_rfl) ?_
      obtain ⟨AF, cF, _, e9, _⟩ := HF.out.os.read
      have HFin := Lib.hid (HF.out.os.read.mono (fun b hb => show ((F b ∨ T b) ∨ w.heap.size ≤ b) ∧ b < _ from ⟨hb.1.imp id (fun h => by have := hsd.out; omega), hb.2⟩))
      have HFu := Lib.hid HF.out.upd
      generalize List.length _ = nF at e9
      subst e9
      clear HF
      go_wp2_with fail
      go_ret2
      exact ⟨_, rfl, HFin.out, HUa.out.trans (HUw.out.trans HFu.out)⟩
  · have d0 : decide ((0 : Int) < (l.length : Int)) = false := decide_eq_false (by omega)
    have d0n : decide (0 < l.length) = false := decide_eq_false (by omega)
    generalize epE l l.length = E at *
    clear hr hle hl0 hl hbF hbT
    skip
    clear h h1 h2 hua hA hwa0 hsm hq hq2
    go_enter Try.func60, Try.ntmps60
    go_wp2_with fail
    rw [hwa.out]
    clear hwa
    refine sched_begin NoB (by kernel_rfl) ?_
    have HU0 := Lib.hid (Upd.refl NoB wa).drew
    refine sched_take 0 rfl (by kernel_rfl) (by kernel_rfl) (by kernel_rfl) (fun _ _ _ h => h) rfl (fun x hx => by obtain ⟨y0, y1, y2, y3, y4, y5, y6, y7, y8, y9⟩ := hb.out x (HU0.out.trans hx); go_simp; rfl) ?_
    go_simp
    refine sched_alone 1 (by kernel_rfl) rfl rfl ?_
    go_simp
    refine (hri.out _ HU0.out).mono ?_
    rintro e w1 ⟨rfl, hu⟩
    refine ⟨hu, ?_⟩
    have HU1 := Lib.hid (HU0.out.trans hu)
    clear hu
    go_simp
    refine sched_take 2 rfl (by kernel_rfl) (by kernel_rfl) (by kernel_rfl) (fun _ _ _ h => h) rfl (fun x hx => by go_simp; rfl) ?_
    go_simp
    refine sched_take 3 rfl (by kernel_rfl) (by kernel_rfl) (by kernel_rfl) (fun _ _ _ h => h) rfl (fun x hx => by go_simp; rfl) ?_
    go_simp
    refine sched_take 4 rfl (by kernel_rfl) (by kernel_rfl) (by kernel_rfl) (fun _ _ _ h => h) rfl (fun x hx => by go_simp; rfl) ?_
    go_simp
    refine sched_take 5 rfl (by kernel_rfl) (by kernel_rfl) (by kernel_rfl) (fun _ _ _ h => h) rfl (fun x hx => by go_simp; rfl) ?_
    go_simp
    refine sched_take 6 rfl (by kernel_rfl) (by kernel_rfl) (by kernel_rfl) (fun _ _ _ h => h) rfl (fun x hx => by go_simp; rfl) ?_
    go_simp
    refine sched_take 7 rfl (by kernel_rfl) (by kernel_rfl) (by kernel_rfl) (fun _ _ _ h => h) rfl (fun x hx => by go_simp; rfl) ?_
    go_simp
    refine sched_skip 8 rfl (by kernel_rfl) (by kernel_rfl) (by kernel_rfl) (fun _ _ _ h => h) rfl ?_
    go_simp
    refine sched_skip 9 rfl (by kernel_rfl) (by kernel_rfl) (by kernel_rfl) (fun _ _ _ h => h) rfl ?_
    go_simp
    refine sched_skip 10 rfl (by kernel_rfl) (by kernel_rfl) (by kernel_rfl) (fun _ _ _ h => h) rfl ?_
    go_simp
    refine sched_skip 11 rfl (by kernel_rfl) (by kernel_rfl) (by kernel_rfl) (fun _ _ _ h => h) rfl ?_
    go_simp
    refine sched_skip 12 rfl (by kernel_rfl) (by kernel_rfl) (by kernel_rfl) (fun _ _ _ h => h) rfl ?_
    go_simp
    refine sched_skip 13 rfl (by kernel_rfl) (by kernel_rfl) (by kernel_rfl) (fun _ _ _ h => h) rfl ?_
    go_simp
    refine sched_skip 14 rfl (by kernel_rfl) (by kernel_rfl) (by kernel_rfl) (fun _ _ _ h => h) rfl ?_
    go_simp
    refine sched_skip 15 rfl (by kernel_rfl) (by kernel_rfl) (by kernel_rfl) (fun _ _ _ h => h) rfl ?_
    go_simp
    refine sched_skip 16 rfl (by kernel_rfl) (by kernel_rfl) (by kernel_rfl) (fun _ _ _ h => h) rfl ?_
    go_simp
    refine sched_skip 17 rfl (by kernel_rfl) (by kernel_rfl) (by kernel_rfl) (fun _ _ _ h => h) rfl ?_
    go_simp
    refine sched_take 18 rfl (by kernel_rfl) (by kernel_rfl) (by kernel_rfl) (fun _ _ _ h => h) rfl (fun x hx => by go_simp; rfl) ?_
    go_simp
    refine sched_take 19 rfl (by kernel_rfl) (by kernel_rfl) (by kernel_rfl) (fun _ _ _ h => h) rfl (fun x hx => by go_simp; rfl) ?_
    go_simp
    refine sched_done (by kernel_rfl) ?_
    go_wp2_with fail
    have HL0 := Lib.hid (fun z (hz : Upd NoB w1 z) => HV.out.upd ((HUa.out.trans HU1.out).trans hz) (fun _ _ h => h))
    have HY1 := Lib.hid (fun z (hz : Upd NoB w1 z) => HR1.out.upd (HU1.out.trans hz) (fun _ _ h => h))
    have HY2 := Lib.hid (fun z (hz : Upd NoB w1 z) => HR2.out.upd (HU1.out.trans hz) (fun _ _ h => h))
    have hsd1 := Lib.hid (Nat.le_trans HUa.out.size HU1.out.size)
    have hsd2 := Lib.hid (show w.heap.size < w1.heap.size from Nat.lt_of_lt_of_le hws HU1.out.size)
    refine sched_begin (fun b => w1.heap.size ≤ b) (by kernel_rfl) ?_
    obtain ⟨wd, hwd⟩ : ∃ wd, w1.drew = wd := ⟨_, rfl⟩
    have hsz : w1.heap.size = wd.heap.size := by rw [← hwd]; rfl
    have HU1d := Lib.hid (show Upd NoB w1 wd from by rw [← hwd]; exact (Upd.refl _ _).drew)
    rw [hwd, hsz]
    rw [hsz] at hsd1 hsd2
    have hsd := Lib.hid hsd1.out
    have HL := Lib.hid (fun z (hz : Upd NoB wd z) => HL0.out z (HU1d.out.trans hz))
    have HZ1 := Lib.hid (fun z (hz : Upd NoB wd z) => HY1.out z (HU1d.out.trans hz))
    have HZ2 := Lib.hid (fun z (hz : Upd NoB wd z) => HY2.out z (HU1d.out.trans hz))
    have HUw := Lib.hid (HU1.out.trans HU1d.out)
    have hrep := Lib.hid (fun z (hz : Upd NoB wd z) => show Rep.ent.rep z T x (#[.int .u64 x.ep, .int .i64 x.kd, .int .i64 x.tc, .int .u64 x.tq, .bool x.pl, .slice A x.rd.length c, .slice B x.wr.length d, .int .i64 x.ec, .int .u64 x.eq, .int .i64 x.cd] : Array Value).toList from ⟨_, _, rfl, HZ1.out z hz, HZ2.out z hz⟩)
    clear hwd hsz
    try clear y0 y1 y2 y3 y4 y5 y6 y7 y8 y9
    refine sched_take 1 rfl (by kernel_rfl) (by kernel_rfl) (by kernel_rfl) (fun _ _ _ h => h) rfl (fun x hx => by go_simp; rfl) ?_
    go_simp
    refine sched_take 3 rfl (by kernel_rfl) (by kernel_rfl) (by kernel_rfl) (fun _ _ _ h => h) rfl (fun x hx => by obtain ⟨y0, y1, y2, y3, y4, y5, y6, y7, y8, y9⟩ := hb.out _ HUw.out; replace y0 := hx.cell y0 (fun e => by have e' : wd.heap.size ≤ w.heap.size := e; have := hsd2.out; omega); replace y1 := hx.cell y1 (fun e => by have e' : wd.heap.size ≤ w.heap.size := e; have := hsd2.out; omega); replace y2 := hx.cell y2 (fun e => by have e' : wd.heap.size ≤ w.heap.size := e; have := hsd2.out; omega); replace y3 := hx.cell y3 (fun e => by have e' : wd.heap.size ≤ w.heap.size := e; have := hsd2.out; omega); replace y4 := hx.cell y4 (fun e => by have e' : wd.heap.size ≤ w.heap.size := e; have := hsd2.out; omega); replace y5 := hx.cell y5 (fun e => by have e' : wd.heap.size ≤ w.heap.size := e; have := hsd2.out; omega); replace y6 := hx.cell y6 (fun e => by have e' : wd.heap.size ≤ w.heap.size := e; have := hsd2.out; omega); replace y7 := hx.cell y7 (fun e => by have e' : wd.heap.size ≤ w.heap.size := e; have := hsd2.out; omega); replace y8 := hx.cell y8 (fun e => by have e' : wd.heap.size ≤ w.heap.size := e; have := hsd2.out; omega); replace y9 := hx.cell y9 (fun e => by have e' : wd.heap.size ≤ w.heap.size := e; have := hsd2.out; omega); go_simp; rfl) ?_
    go_simp
    refine sched_two 0 4 (by kernel_rfl) rfl rfl rfl rfl ?_ ?_
    · go_simp
      refine ⟨(Upd.refl _ _).alloc _, ?_⟩
      have HA1 := Lib.hid (AddA.made (Z := fun b => F b ∨ T b) (Upd.refl NoB wd))
      have HO2 := Lib.hid HA1.out.os
      have HB2 := Lib.hid HA1.out.bd
      have HL2 := Lib.hid (HL.out _ HA1.out.upd)
      have HT2 := Lib.hid (fun cs hc => HA1.out.rows (T := F) (fun b hb => ⟨.inl hb, by have := hBF.out b hb; have := hsd.out; omega⟩) l cs hc)
      have hs0 := Lib.hid (show wd.heap.size < (wd.alloc (.cells #[] 72)).heap.size from by simp)
      go_simp
      refine sched_twoL 2 4 (by kernel_rfl) rfl rfl rfl rfl ?_ ?_
      · go_simp
        at_builtin
        refine app_all2 (r := Rep.ent) (v := .slice (some ⟨wd.heap.size, 0, none⟩) 0 0) (vy := (.slice AA l.length cc)) (l := []) (l' := l) rfl _ _ 56 72 (.agg #[.int .u64 0, .int .i64 0, .int .i64 0, .int .u64 0, .bool false, .slice none 0 0, .slice none 0 0, .int .i64 0, .int .u64 0, .int .i64 0]) 112 rfl Try.underlying56 (iEnt _ (by decide)) rfl (by decide) rfl rfl HO2.out HB2.out HL2.out HT2.out (by simp; have := hl2.out; omega) ?_
        intro v1 w2 hat2 ho2 hu2
        have HA2 := Lib.hid (show AddA wd w2 (fun b => F b ∨ T b) v1 l from by simpa using HA1.out.app hat2 ho2 hu2)
        have hov := Lib.hid (show v1.ownBlock = some (wd.heap.size) ∨ v1.ownBlock = some (wd.alloc (.cells #[] 72)).heap.size from hat2)
        obtain ⟨AV, cV, _, eV, _⟩ := HA2.out.os.read
        refine law_done ⟨hu2.mono (fun b _ hb => HA1.out.ge b hb), ?_⟩
        subst eV
        have hb4 := Lib.hid (show wd.heap.size ≤ w2.heap.size ∧ w2.heap.size < (w2.alloc (.cells #[.int .u64 x.ep, .int .i64 x.kd, .int .i64 x.tc, .int .u64 x.tq, .bool x.pl, .slice A x.rd.length c, .slice B x.wr.length d, .int .i64 x.ec, .int .u64 x.eq, .int .i64 x.cd] 72)).heap.size from ⟨HA2.out.upd.size, by simp⟩)
        have HA5 := Lib.hid (HA2.out.keep ((Upd.refl NoB w2).alloc (.cells #[.int .u64 x.ep, .int .i64 x.kd, .int .i64 x.tc, .int .u64 x.tq, .bool x.pl, .slice A x.rd.length c, .slice B x.wr.length d, .int .i64 x.ec, .int .u64 x.eq, .int .i64 x.cd] 72)))
        have hne4 := Lib.hid (show (Value.slice AV l.length cV).ownBlock ≠ some w2.heap.size from fun e => by
          obtain ⟨_, _, hset, _⟩ := HA2.out.os
          have := (hset _ e).2
          omega)
        have HX5 := Lib.hid (box_ent (heap_alloc_new w2 _) (hrep.out _ HA5.out.upd))
        have HO5 := Lib.hid HA5.out.os
        have HB5 := Lib.hid HA5.out.bd
        have HT5 := Lib.hid (fun cs hc => HA5.out.rows2 (T := T) (fun b hb => ⟨.inr hb, by have := hBT.out b hb; have := hsd.out; omega⟩) hb4.out hne4.out [x] cs hc)
        clear hat2 ho2 hu2
        go_simp
        refine sched_alone 4 (by kernel_rfl) rfl rfl ?_
        go_simp
        refine ⟨(Upd.refl _ _).alloc _, ?_⟩
        go_simp
        refine sched_law 5 (by kernel_rfl) rfl rfl ?_
        go_simp
        at_builtin
        refine app_all2 (r := Rep.ent) (v := .slice AV l.length cV) (vy := .slice (some ⟨w2.heap.size, 0, none⟩) 1 1) (l := l) (l' := [x]) rfl _ _ 56 72 (.agg #[.int .u64 0, .int .i64 0, .int .i64 0, .int .u64 0, .bool false, .slice none 0 0, .slice none 0 0, .int .i64 0, .int .u64 0, .int .i64 0]) 112 rfl Try.underlying56 (iEnt _ (by decide)) rfl (by decide) rfl rfl HO5.out HB5.out HX5.out HT5.out (by simp; have := hl2.out; omega) ?_
        intro v2 w9 hat5 ho5 hu5
        have HF := Lib.hid (HA5.out.app hat5 ho5 hu5)
        refine law_done ⟨hu5.mono (fun b _ hb => HA5.out.ge b hb), ?_⟩
        clear hat5 ho5 hu5
        go_simp
        refine sched_take 6 rfl (by kernel_rfl) (by kernel_rfl) (by kernel_rfl) (fun _ _ _ h => h) rfl (fun x hx => by go_simp; rfl) ?_
        go_simp
        refine sched_take 7 rfl (by kernel_rfl) (by kernel_rfl) (by kernel_rfl) (fun _ _ _ h => h) rfl (fun x hx => by go_simp; rfl) ?_
        go_simp
        refine sched_done (by kernel_rfl) ?_
        obtain ⟨AF, cF, _, e9, _⟩ := HF.out.os.read
        have HFin := Lib.hid (HF.out.os.read.mono (fun b hb => show ((F b ∨ T b) ∨ w.heap.size ≤ b) ∧ b < _ from ⟨hb.1.imp id (fun h => by have := hsd.out; omega), hb.2⟩))
        have HFu := Lib.hid HF.out.upd
        generalize List.length _ = nF at e9
        subst e9
        clear HF
        go_wp2_with fail
        go_ret2
        exact ⟨_, rfl, HFin.out, HUa.out.trans (HUw.out.trans HFu.out)⟩
      · go_simp
        refine ⟨(Upd.refl _ _).alloc _, ?_⟩
        clear HO2 HB2 HL2 HT2
        have HA0 := HA1
        replace HA1 := Lib.hid (HA0.out.keep ((Upd.refl NoB (wd.alloc (.cells #[] 72))).alloc (.cells #[.int .u64 x.ep, .int .i64 x.kd, .int .i64 x.tc, .int .u64 x.tq, .bool x.pl, .slice A x.rd.length c, .slice B x.wr.length d, .int .i64 x.ec, .int .u64 x.eq, .int .i64 x.cd] 72)))
        have hx0 := heap_alloc_new (wd.alloc (.cells #[] 72)) (.cells #[.int .u64 x.ep, .int .i64 x.kd, .int .i64 x.tc, .int .u64 x.tq, .bool x.pl, .slice A x.rd.length c, .slice B x.wr.length d, .int .i64 x.ec, .int .u64 x.eq, .int .i64 x.cd] 72)
        have hq := Lib.hid (show (wd.alloc (.cells #[] 72)).heap.size = wd.heap.size + 1 ∧ ((wd.alloc (.cells #[] 72)).alloc (.cells #[.int .u64 x.ep, .int .i64 x.kd, .int .i64 x.tc, .int .u64 x.tq, .bool x.pl, .slice A x.rd.length c, .slice B x.wr.length d, .int .i64 x.ec, .int .u64 x.eq, .int .i64 x.cd] 72)).heap.size = wd.heap.size + 2 from by simp)
        rw [hq.out.1] at hx0
        have hX := Lib.hid (box_ent hx0 (hrep.out _ HA1.out.upd))
        clear hx0
        have HO2 := Lib.hid HA1.out.os
        have HB2 := Lib.hid HA1.out.bd
        have HL2 := Lib.hid (HL.out _ HA1.out.upd)
        have HT2 := Lib.hid (fun cs hc => HA1.out.rows (T := F) (fun b hb => ⟨.inl hb, by have := hBF.out b hb; have := hsd.out; omega⟩) l cs hc)
        go_simp
        refine sched_law 2 (by kernel_rfl) rfl rfl ?_
        go_simp
        at_builtin
        refine app_all2 (r := Rep.ent) (v := .slice (some ⟨wd.heap.size, 0, none⟩) 0 0) (vy := (.slice AA l.length cc)) (l := []) (l' := l) rfl _ _ 56 72 (.agg #[.int .u64 0, .int .i64 0, .int .i64 0, .int .u64 0, .bool false, .slice none 0 0, .slice none 0 0, .int .i64 0, .int .u64 0, .int .i64 0]) 112 rfl Try.underlying56 (iEnt _ (by decide)) rfl (by decide) rfl rfl HO2.out HB2.out HL2.out HT2.out (by simp; have := hl2.out; omega) ?_
        intro v1 w2 hat2 ho2 hu2
        have HA2 := Lib.hid (show AddA wd w2 (fun b => F b ∨ T b) v1 l from by simpa using HA1.out.app hat2 ho2 hu2)
        have hov := Lib.hid (show v1.ownBlock = some (wd.heap.size) ∨ v1.ownBlock = some ((wd.alloc (.cells #[] 72)).alloc (.cells #[.int .u64 x.ep, .int .i64 x.kd, .int .i64 x.tc, .int .u64 x.tq, .bool x.pl, .slice A x.rd.length c, .slice B x.wr.length d, .int .i64 x.ec, .int .u64 x.eq, .int .i64 x.cd] 72)).heap.size from hat2)
        obtain ⟨AV, cV, _, eV, _⟩ := HA2.out.os.read
        refine law_done ⟨hu2.mono (fun b _ hb => HA1.out.ge b hb), ?_⟩
        subst eV
        have hb4 := Lib.hid (show wd.heap.size ≤ (wd.heap.size + 1) ∧ (wd.heap.size + 1) < w2.heap.size from ⟨by omega, by have := hu2.size; have := hq.out.1; have := hq.out.2; omega⟩)
        have HA5 := HA2
        have hne4 := Lib.hid (show (Value.slice AV l.length cV).ownBlock ≠ some (wd.heap.size + 1) from fun e => by
          have h1 := hq.out.1
          have h2 := hq.out.2
          rcases hov.out with h | h
          · rw [h] at e; have := Option.some.inj e; omega
          · rw [h] at e; have := Option.some.inj e; omega)
        have HX5 := Lib.hid (hX.out.upd hu2 (fun b hb f => by
          have f' : wd.heap.size = b := Option.some.inj f
          have h1 := hq.out.1
          rcases hb with h | h
          · have := hBT.out b h; have := hsd2.out; omega
          · omega))
        have HO5 := Lib.hid HA5.out.os
        have HB5 := Lib.hid HA5.out.bd
        have HT5 := Lib.hid (fun cs hc => HA5.out.rows2 (T := T) (fun b hb => ⟨.inr hb, by have := hBT.out b hb; have := hsd.out; omega⟩) hb4.out hne4.out [x] cs hc)
        clear hat2 ho2 hu2
        go_simp
        refine sched_law 5 (by kernel_rfl) rfl rfl ?_
        go_simp
        at_builtin
        refine app_all2 (r := Rep.ent) (v := .slice AV l.length cV) (vy := .slice (some ⟨(wd.heap.size + 1), 0, none⟩) 1 1) (l := l) (l' := [x]) rfl _ _ 56 72 (.agg #[.int .u64 0, .int .i64 0, .int .i64 0, .int .u64 0, .bool false, .slice none 0 0, .slice none 0 0, .int .i64 0, .int .u64 0, .int .i64 0]) 112 rfl Try.underlying56 (iEnt _ (by decide)) rfl (by decide) rfl rfl HO5.out HB5.out HX5.out HT5.out (by simp; have := hl2.out; omega) ?_
        intro v2 w9 hat5 ho5 hu5
        have HF := Lib.hid (HA5.out.app hat5 ho5 hu5)
        refine law_done ⟨hu5.mono (fun b _ hb => HA5.out.ge b hb), ?_⟩
        clear hat5 ho5 hu5
        go_simp
        refine sched_take 6 rfl (by kernel_rfl) (by kernel_rfl) (by kernel_rfl) (fun _ _ _ h => h) rfl (fun x hx => by go_simp; rfl) ?_
        go_simp
        refine sched_take 7 rfl (by kernel_rfl) (by kernel_rfl) (by kernel_rfl) (fun _ _ _ h => h) rfl (fun x hx => by go_simp; rfl) ?_
        go_simp
        refine sched_done (by kernel_rfl) ?_
        obtain ⟨AF, cF, _, e9, _⟩ := HF.out.os.read
        have HFin := Lib.hid (HF.out.os.read.mono (fun b hb => show ((F b ∨ T b) ∨ w.heap.size ≤ b) ∧ b < _ from ⟨hb.1.imp id (fun h => by have := hsd.out; omega), hb.2⟩))
        have HFu := Lib.hid HF.out.upd
        generalize List.length _ = nF at e9
        subst e9
        clear HF
        go_wp2_with fail
        go_ret2
        exact ⟨_, rfl, HFin.out, HUa.out.trans (HUw.out.trans HFu.out)⟩
    · go_simp
      refine ⟨(Upd.refl _ _).alloc _, ?_⟩
      have hx0 := heap_alloc_new wd (.cells #[.int .u64 x.ep, .int .i64 x.kd, .int .i64 x.tc, .int .u64 x.tq, .bool x.pl, .slice A x.rd.length c, .slice B x.wr.length d, .int .i64 x.ec, .int .u64 x.eq, .int .i64 x.cd] 72)
      have hX := Lib.hid (box_ent hx0 (hrep.out _ ((Upd.refl NoB wd).alloc _)))
      have hq := Lib.hid (show (wd.alloc (.cells #[.int .u64 x.ep, .int .i64 x.kd, .int .i64 x.tc, .int .u64 x.tq, .bool x.pl, .slice A x.rd.length c, .slice B x.wr.length d, .int .i64 x.ec, .int .u64 x.eq, .int .i64 x.cd] 72)).heap.size = wd.heap.size + 1 ∧ ((wd.alloc (.cells #[.int .u64 x.ep, .int .i64 x.kd, .int .i64 x.tc, .int .u64 x.tq, .bool x.pl, .slice A x.rd.length c, .slice B x.wr.length d, .int .i64 x.ec, .int .u64 x.eq, .int .i64 x.cd] 72)).alloc (.cells #[] 72)).heap.size = wd.heap.size + 2 from by simp)
      have HA1 := Lib.hid (show AddA wd ((wd.alloc (.cells #[.int .u64 x.ep, .int .i64 x.kd, .int .i64 x.tc, .int .u64 x.tq, .bool x.pl, .slice A x.rd.length c, .slice B x.wr.length d, .int .i64 x.ec, .int .u64 x.eq, .int .i64 x.cd] 72)).alloc (.cells #[] 72)) (fun b => F b ∨ T b) (.slice (some ⟨wd.heap.size + 1, 0, none⟩) 0 0) [] from by
        have h9 := AddA.made (Z := fun b => F b ∨ T b) ((Upd.refl NoB wd).alloc (.cells #[.int .u64 x.ep, .int .i64 x.kd, .int .i64 x.tc, .int .u64 x.tq, .bool x.pl, .slice A x.rd.length c, .slice B x.wr.length d, .int .i64 x.ec, .int .u64 x.eq, .int .i64 x.cd] 72))
        rw [hq.out.1] at h9
        exact h9)
      have hX2 := Lib.hid (hX.out.upd ((Upd.refl NoB (wd.alloc (.cells #[.int .u64 x.ep, .int .i64 x.kd, .int .i64 x.tc, .int .u64 x.tq, .bool x.pl, .slice A x.rd.length c, .slice B x.wr.length d, .int .i64 x.ec, .int .u64 x.eq, .int .i64 x.cd] 72))).alloc (.cells #[] 72)) (fun _ _ h => h))
      clear hx0
      have HO2 := Lib.hid HA1.out.os
      have HB2 := Lib.hid HA1.out.bd
      have HL2 := Lib.hid (HL.out _ HA1.out.upd)
      have HT2 := Lib.hid (fun cs hc => HA1.out.rows (T := F) (fun b hb => ⟨.inl hb, by have := hBF.out b hb; have := hsd.out; omega⟩) l cs hc)
      go_simp
      refine sched_alone 0 (by kernel_rfl) rfl rfl ?_
      go_simp
      refine ⟨(Upd.refl _ _).alloc _, ?_⟩
      go_simp
      refine sched_law 2 (by kernel_rfl) rfl rfl ?_
      go_simp
      at_builtin
      refine app_all2 (r := Rep.ent) (v := .slice (some ⟨wd.heap.size + 1, 0, none⟩) 0 0) (vy := (.slice AA l.length cc)) (l := []) (l' := l) rfl _ _ 56 72 (.agg #[.int .u64 0, .int .i64 0, .int .i64 0, .int .u64 0, .bool false, .slice none 0 0, .slice none 0 0, .int .i64 0, .int .u64 0, .int .i64 0]) 112 rfl Try.underlying56 (iEnt _ (by decide)) rfl (by decide) rfl rfl HO2.out HB2.out HL2.out HT2.out (by simp; have := hl2.out; omega) ?_
      intro v1 w2 hat2 ho2 hu2
      have HA2 := Lib.hid (show AddA wd w2 (fun b => F b ∨ T b) v1 l from by simpa using HA1.out.app hat2 ho2 hu2)
      have hov := Lib.hid (show v1.ownBlock = some (wd.heap.size + 1) ∨ v1.ownBlock = some ((wd.alloc (.cells #[.int .u64 x.ep, .int .i64 x.kd, .int .i64 x.tc, .int .u64 x.tq, .bool x.pl, .slice A x.rd.length c, .slice B x.wr.length d, .int .i64 x.ec, .int .u64 x.eq, .int .i64 x.cd] 72)).alloc (.cells #[] 72)).heap.size from hat2)
      obtain ⟨AV, cV, _, eV, _⟩ := HA2.out.os.read
      refine law_done ⟨hu2.mono (fun b _ hb => HA1.out.ge b hb), ?_⟩
      subst eV
      have hb4 := Lib.hid (show wd.heap.size ≤ wd.heap.size ∧ wd.heap.size < w2.heap.size from ⟨Nat.le_refl _, by have := hu2.size; have := hq.out.2; omega⟩)
      have HA5 := HA2
      have hne4 := Lib.hid (show (Value.slice AV l.length cV).ownBlock ≠ some wd.heap.size from fun e => by
        have h1 := hq.out.1
        have h2 := hq.out.2
        rcases hov.out with h | h
        · rw [h] at e; have := Option.some.inj e; omega
        · rw [h] at e; have := Option.some.inj e; omega)
      have HX5 := Lib.hid (hX2.out.upd hu2 (fun b hb f => by
        have f' : wd.heap.size + 1 = b := Option.some.inj f
        have h1 := hq.out.1
        rcases hb with h | h
        · have := hBT.out b h; have := hsd2.out; omega
        · omega))
      have HO5 := Lib.hid HA5.out.os
      have HB5 := Lib.hid HA5.out.bd
      have HT5 := Lib.hid (fun cs hc => HA5.out.rows2 (T := T) (fun b hb => ⟨.inr hb, by have := hBT.out b hb; have := hsd.out; omega⟩) hb4.out hne4.out [x] cs hc)
      clear hat2 ho2 hu2
      go_simp
      refine sched_law 5 (by kernel_rfl) rfl rfl ?_
      go_simp
      at_builtin
      refine app_all2 (r := Rep.ent) (v := .slice AV l.length cV) (vy := .slice (some ⟨wd.heap.size, 0, none⟩) 1 1) (l := l) (l' := [x]) rfl _ _ 56 72 (.agg #[.int .u64 0, .int .i64 0, .int .i64 0, .int .u64 0, .bool false, .slice none 0 0, .slice none 0 0, .int .i64 0, .int .u64 0, .int .i64 0]) 112 rfl Try.underlying56 (iEnt _ (by decide)) rfl (by decide) rfl rfl HO5.out HB5.out HX5.out HT5.out (by simp; have := hl2.out; omega) ?_
      intro v2 w9 hat5 ho5 hu5
      have HF := Lib.hid (HA5.out.app hat5 ho5 hu5)
      refine law_done ⟨hu5.mono (fun b _ hb => HA5.out.ge b hb), ?_⟩
      clear hat5 ho5 hu5
      go_simp
      refine sched_take 6 rfl (by kernel_rfl) (by kernel_rfl) (by kernel_rfl) (fun _ _ _ h => h) rfl (fun x hx => by go_simp; rfl) ?_
      go_simp
      refine sched_take 7 rfl (by kernel_rfl) (by kernel_rfl) (by kernel_rfl) (fun _ _ _ h => h) rfl (fun x hx => by go_simp; rfl) ?_
      go_simp
      refine sched_done (by kernel_rfl) ?_
      obtain ⟨AF, cF, _, e9, _⟩ := HF.out.os.read
      have HFin := Lib.hid (HF.out.os.read.mono (fun b hb => show ((F b ∨ T b) ∨ w.heap.size ≤ b) ∧ b < _ from ⟨hb.1.imp id (fun h => by have := hsd.out; omega), hb.2⟩))
      have HFu := Lib.hid HF.out.upd
      generalize List.length _ = nF at e9
      subst e9
      clear HF
      go_wp2_with fail
      go_ret2
      exact ⟨_, rfl, HFin.out, HUa.out.trans (HUw.out.trans HFu.out)⟩
end Go.Proofs.Ytobfolkcpfaplaa
