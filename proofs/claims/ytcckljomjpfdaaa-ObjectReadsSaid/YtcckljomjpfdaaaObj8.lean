/- Versions, function by function (8): without elder ones; is there a later one? -/
import Derived.Test.YtcckljomjpfdaaaObj7
namespace Go.Proofs.Ytcckljomjpfdaaa
open Go.RowKit Kit
set_option linter.unusedVariables false

set_option maxHeartbeats 4000000 in
set_option maxRecDepth 100000 in
theorem clean_any {S : Nat → Prop} (v : Value) (l : List Ver) (n : Int) (w : World) (h : RSl Rep.ver w S v l) (hl : l.length ≤ 1000) :
    Calls Try.prog 29 #[.agg #[v], .int .i64 n] w fun e w' => ∃ v', e = .returned (.agg #[v']) ∧ Mine Rep.ver 50 w w' v' (if rightB l = true then l.drop (uptoN l n - 1) else []) := by
  have HX := Lib.hid h
  obtain ⟨A, c, cs, rfl, d1, d2, d3, d4, d5⟩ := id h
  have d2' : c ≤ 9223372036854775807 := d2
  have hrt := Lib.hid (fun w1 (hu : Upd NoB w w1) => right_obj (.slice A l.length c) l w1 (h.upd hu (fun _ _ h => h)) hl)
  have hup := Lib.hid (fun w1 (hu : Upd NoB w w1) (hr : rightB l = true) => (upto_any (.slice A l.length c) l n w1 (h.upd hu (fun _ _ h => h)) hl hr).mono (fun e w' ⟨u, he, hx, hu⟩ => show e = Ending.returned (.int .i64 (uptoN l n)) ∧ Upd NoB w1 w' from ⟨by rw [he, upto_eq l n u hx], hu⟩))
  obtain ⟨wa, hwa⟩ : ∃ wa, (w.alloc (.cells #[.slice A l.length c] 44)).alloc (.cells #[.slice none 0 0] 44) = wa := ⟨_, rfl⟩
  have hua : Upd NoB w wa := by rw [← hwa]; exact ((Upd.refl _ _).alloc _).alloc _
  have hBo : wa.heap[w.heap.size]? = some (.cells #[.slice A l.length c] 44 (0, 0)) := by
    rw [← hwa, Below.heap_alloc _ _ _ (by simp)]
    exact heap_alloc_new _ _
  have hBv : wa.heap[w.heap.size + 1]? = some (.cells #[.slice none 0 0] 44 (0, 0)) := by
    have := heap_alloc_new (w.alloc (.cells #[.slice A l.length c] 44)) (.cells #[.slice none 0 0] 44 (0, 0))
    rw [show (w.alloc (.cells #[.slice A l.length c] 44)).heap.size = w.heap.size + 1 by simp, hwa] at this
    exact this
  have HU := Lib.hid hua
  have hsz : w.heap.size + 1 < wa.heap.size := lt_of_heap hBv
  have hok := Lib.hid (fun x (hx : Upd NoB wa x) => show x.cell? ⟨w.heap.size, 0, none⟩ = some (.slice A l.length c) ∧ x.cell? ⟨w.heap.size + 1, 0, none⟩ = some (.slice none 0 0) ∧ x.frozen? ⟨w.heap.size + 1, 0, none⟩ = false by
    have a := hx.heap hBo (fun h => h)
    have b := hx.heap hBv (fun h => h)
    simp [World.cell?, World.frozen?, a, b])
  have o0 := (hok.out wa (Upd.refl _ _)).1
  have hset := Lib.hid (fun x (hx : Upd NoB w x) (v : Value) => show Upd NoB w (x.setCell ⟨w.heap.size + 1, 0, none⟩ v) from hx.setCell (p := ⟨w.heap.size + 1, 0, none⟩) (fun e => by simp only at e; omega) v)
  clear hBo hBv hua h d3
  have hrx := hrt.out wa HU.out
  cases hR : rightB l
  · rw [hR] at hrx
    have HRX := Lib.hid hrx
    simp only [Bool.false_eq_true, if_false]
    clear hrx hR d5
    go_enter Try.func29, Try.ntmps29
    go_wp2_with fail
    refine HRX.out.mono ?_
    rintro e w2 ⟨rfl, hu⟩
    have HU2 := Lib.hid (HU.out.trans hu)
    obtain ⟨z1, z2, z3⟩ := hok.out w2 hu
    clear hu
    go_wp2_with fail
    refine bodyPost_ret (v := .agg #[.slice none 0 0]) (by simp [results, Try.results29, go_sem, *]) rfl ⟨_, rfl, Mine.nil w (hset.out w2 HU2.out _)⟩
  · rw [hR] at hrx
    have HRX := Lib.hid hrx
    have hul := uptoN_le l n
    have hupt := Lib.hid (fun w1 (hu : Upd NoB w w1) => hup.out w1 hu hR)
    simp only [if_true]
    have hdl : (l.drop (uptoN l n - 1)).length = l.length - (uptoN l n - 1) := List.length_drop
    have hpost : Hid (∀ g o, A = some ⟨g, o, none⟩ → RSl Rep.ver w S (.slice (if c = uptoN l n - 1 then some ⟨g, o, none⟩ else some ⟨g, o + (uptoN l n - 1) * 4, none⟩) (l.length - (uptoN l n - 1)) (c - (uptoN l n - 1))) (l.drop (uptoN l n - 1))) := Lib.hid (fun g o e => by
      subst e
      exact HX.out.post (uptoN l n - 1) (by omega))
    have hnil : Hid (A = none → c = 0 ∧ l = [] ∧ uptoN l n = 0) := Lib.hid (fun e => by
      have h1 := d4 e
      have h2 : l = [] := List.eq_nil_of_length_eq_zero (by omega)
      exact ⟨h1, h2, by rw [h2]; rfl⟩)
    generalize hLT : l.drop (uptoN l n - 1) = LT at *
    generalize uptoN l n = U at *
    have hw1 : IntKind.i64.wrap ((U : Int) - 1) = (U : Int) - 1 := by simp only [IntKind.wrap, IntKind.bits, IntKind.signed]; simp; omega
    obtain ⟨D, hD⟩ : ∃ D, D = U - 1 := ⟨_, rfl⟩
    rw [← hD] at hpost hdl
    have hif : (if ((U : Int) - 1) < 0 then (0 : Int) else ((U : Int) - 1)) = (D : Int) := by split <;> omega
    have hmx : max ((U : Int) - 1) 0 = (D : Int) := by omega
    have hDl : (D : Int) ≤ (l.length : Int) := by omega
    have hD0 : (0 : Int) ≤ (D : Int) := by omega
    have hD1 : D ≤ l.length := by omega
    cases A with
    | none =>
      obtain ⟨rfl, hl0, rfl⟩ := hnil.out rfl
      obtain rfl : D = 0 := by omega
      subst hl0
      have hLN : LT = [] := by rw [← hLT]; rfl
      have hcl : Hid (∀ w1, Upd NoB w w1 → Calls Try.prog 50 #[.slice none 0 0] w1 fun e w' => ∃ v', e = .returned v' ∧ Mine Rep.ver 50 w1 w' v' LT) := Lib.hid (fun w1 hu => by
        rw [hLN]
        exact clonev_any _ ([] : List Ver) w1 (RSl.nil w1 S) (by simp))
      clear hrx hR d5 hpost hnil hLT hdl hD hLN
      simp only [List.length_nil] at *
      go_enter Try.func29, Try.ntmps29
      go_wp2_with fail
      refine HRX.out.mono ?_
      rintro e w2 ⟨rfl, hu⟩
      have HU2 := Lib.hid (HU.out.trans hu)
      have HUa := Lib.hid hu
      have Q0 := Lib.hid (show w2.drew.cell? ⟨w.heap.size, 0, none⟩ = _ from (hok.out w2 hu).1)
      clear hu
      go_wp2_with fail
      refine sched_begin (fun b => b = w.heap.size + 1) (by kernel_rfl) ?_
      refine sched_take 0 rfl (by kernel_rfl) (by kernel_rfl) (by kernel_rfl) (fun _ _ _ h => h) rfl (fun x hx => by go_simp; rfl) ?_
      go_simp
      refine sched_take 1 rfl (by kernel_rfl) (by kernel_rfl) (by kernel_rfl) (fun _ _ _ h => h) rfl (fun x hx => by have hcx := hx.cell Q0.out (fun h => by simp only at h; omega); go_simp; rfl) ?_
      go_simp
      refine sched_take 2 rfl (by kernel_rfl) (by kernel_rfl) (by kernel_rfl) (fun _ _ _ h => h) rfl (fun x hx => by have hcx := hx.cell Q0.out (fun h => by simp only at h; omega); go_simp; rfl) ?_
      go_simp
      refine sched_take 3 rfl (by kernel_rfl) (by kernel_rfl) (by kernel_rfl) (fun _ _ _ h => h) rfl (fun x hx => by go_simp; rfl) ?_
      go_simp
      refine sched_alone 4 (by kernel_rfl) rfl rfl ?_
      go_simp
      refine (hupt.out _ HU2.out.drew).mono ?_
      rintro e w3 ⟨rfl, hu⟩
      refine ⟨hu.mono (fun _ _ h => h.elim), ?_⟩
      have HU3 := Lib.hid (HU2.out.drew.trans hu)
      have HUa3 := Lib.hid (HUa.out.drew.trans hu)
      clear hu
      go_simp
      refine sched_take 5 rfl (by kernel_rfl) (by kernel_rfl) (by kernel_rfl) (fun _ _ _ h => h) rfl (fun x hx => by go_simp; rfl) ?_
      go_simp
      refine sched_take 6 rfl (by kernel_rfl) (by kernel_rfl) (by kernel_rfl) (fun _ _ _ h => h) rfl (fun x hx => by go_simp; rfl) ?_
      go_simp
      refine sched_take 7 rfl (by kernel_rfl) (by kernel_rfl) (by kernel_rfl) (fun _ _ _ h => h) rfl (fun x hx => by go_simp; rfl) ?_
      go_simp
      refine sched_alone 8 (by kernel_rfl) rfl rfl ?_
      go_simp
      refine (hcl.out _ HU3.out).mono ?_
      rintro e w4 ⟨v4, rfl, hM⟩
      refine ⟨hM.2.mono (fun _ _ h => h.elim), ?_⟩
      have HM := Lib.hid hM
      have hz := hok.out w4 (HUa3.out.trans hM.2)
      obtain ⟨z1, z2, z3⟩ := hz
      obtain ⟨A4, c4, _, rfl, _⟩ := hM.1.read
      have hz3 := HUa3.out.size
      clear hM
      go_simp
      refine sched_take 9 rfl (by kernel_rfl) (by kernel_rfl) (by kernel_rfl) (fun _ _ _ h => h) rfl (fun x hx => by go_simp; rfl) ?_
      go_simp
      refine sched_alone 10 (by kernel_rfl) rfl rfl ?_
      go_simp
      have hfin := Lib.hid (Mine.set HM.out HU3.out (p := w.heap.size + 1) (by omega) (by omega) 0 (.slice A4 LT.length c4))
      refine ⟨(Upd.refl (fun b => b = w.heap.size + 1) w4).setCell (p := ⟨w.heap.size + 1, 0, none⟩) (fun _ => rfl) _, ?_⟩
      go_simp
      refine sched_done (by kernel_rfl) ?_
      go_wp2_with fail
      refine bodyPost_ret (v := .agg #[.slice A4 LT.length c4]) (by simp [results, Try.results29, go_sem, *]) rfl ⟨_, rfl, hfin.out⟩
    | some a =>
      obtain ⟨f1, f2, f3⟩ := d5 a rfl
      obtain ⟨g, o, sp⟩ := a
      simp only at f1
      subst f1
      have hp := hpost.out g o rfl
      have hcl := Lib.hid (fun w1 (hu : Upd NoB w w1) => clonev_any _ LT w1 (hp.upd hu (fun _ _ h => h)) (by omega))
      clear hrx hR d5 hpost hnil hLT hp hD f3 hdl
      by_cases hcD : c = D
      · rw [if_pos hcD] at hcl
        subst hcD
        rw [show l.length - c = 0 by omega, show c - c = 0 by omega] at hcl
        go_enter Try.func29, Try.ntmps29
        go_wp2_with fail
        refine HRX.out.mono ?_
        rintro e w2 ⟨rfl, hu⟩
        have HU2 := Lib.hid (HU.out.trans hu)
        have HUa := Lib.hid hu
        have Q0 := Lib.hid (show w2.drew.cell? ⟨w.heap.size, 0, none⟩ = _ from (hok.out w2 hu).1)
        clear hu
        go_wp2_with fail
        refine sched_begin (fun b => b = w.heap.size + 1) (by kernel_rfl) ?_
        refine sched_take 0 rfl (by kernel_rfl) (by kernel_rfl) (by kernel_rfl) (fun _ _ _ h => h) rfl (fun x hx => by go_simp; rfl) ?_
        go_simp
        refine sched_take 1 rfl (by kernel_rfl) (by kernel_rfl) (by kernel_rfl) (fun _ _ _ h => h) rfl (fun x hx => by have hcx := hx.cell Q0.out (fun h => by simp only at h; omega); go_simp; rfl) ?_
        go_simp
        refine sched_take 2 rfl (by kernel_rfl) (by kernel_rfl) (by kernel_rfl) (fun _ _ _ h => h) rfl (fun x hx => by have hcx := hx.cell Q0.out (fun h => by simp only at h; omega); go_simp; rfl) ?_
        go_simp
        refine sched_take 3 rfl (by kernel_rfl) (by kernel_rfl) (by kernel_rfl) (fun _ _ _ h => h) rfl (fun x hx => by go_simp; rfl) ?_
        go_simp
        refine sched_alone 4 (by kernel_rfl) rfl rfl ?_
        go_simp
        refine (hupt.out _ HU2.out.drew).mono ?_
        rintro e w3 ⟨rfl, hu⟩
        refine ⟨hu.mono (fun _ _ h => h.elim), ?_⟩
        have HU3 := Lib.hid (HU2.out.drew.trans hu)
        have HUa3 := Lib.hid (HUa.out.drew.trans hu)
        clear hu
        go_simp
        refine sched_take 5 rfl (by kernel_rfl) (by kernel_rfl) (by kernel_rfl) (fun _ _ _ h => h) rfl (fun x hx => by go_simp; rfl) ?_
        go_simp
        refine sched_take 6 rfl (by kernel_rfl) (by kernel_rfl) (by kernel_rfl) (fun _ _ _ h => h) rfl (fun x hx => by go_simp; rfl) ?_
        go_simp
        refine sched_take 7 rfl (by kernel_rfl) (by kernel_rfl) (by kernel_rfl) (fun _ _ _ h => h) rfl (fun x hx => by go_simp; rfl) ?_
        go_simp
        refine sched_alone 8 (by kernel_rfl) rfl rfl ?_
        go_simp
        refine (hcl.out _ HU3.out).mono ?_
        rintro e w4 ⟨v4, rfl, hM⟩
        refine ⟨hM.2.mono (fun _ _ h => h.elim), ?_⟩
        have HM := Lib.hid hM
        have hz := hok.out w4 (HUa3.out.trans hM.2)
        obtain ⟨z1, z2, z3⟩ := hz
        obtain ⟨A4, c4, _, rfl, _⟩ := hM.1.read
        have hz3 := HUa3.out.size
        clear hM
        go_simp
        refine sched_take 9 rfl (by kernel_rfl) (by kernel_rfl) (by kernel_rfl) (fun _ _ _ h => h) rfl (fun x hx => by go_simp; rfl) ?_
        go_simp
        refine sched_alone 10 (by kernel_rfl) rfl rfl ?_
        go_simp
        have hfin := Lib.hid (Mine.set HM.out HU3.out (p := w.heap.size + 1) (by omega) (by omega) 0 (.slice A4 LT.length c4))
        refine ⟨(Upd.refl (fun b => b = w.heap.size + 1) w4).setCell (p := ⟨w.heap.size + 1, 0, none⟩) (fun _ => rfl) _, ?_⟩
        go_simp
        refine sched_done (by kernel_rfl) ?_
        go_wp2_with fail
        refine bodyPost_ret (v := .agg #[.slice A4 LT.length c4]) (by simp [results, Try.results29, go_sem, *]) rfl ⟨_, rfl, hfin.out⟩
      · rw [if_neg hcD] at hcl
        go_enter Try.func29, Try.ntmps29
        go_wp2_with fail
        refine HRX.out.mono ?_
        rintro e w2 ⟨rfl, hu⟩
        have HU2 := Lib.hid (HU.out.trans hu)
        have HUa := Lib.hid hu
        have Q0 := Lib.hid (show w2.drew.cell? ⟨w.heap.size, 0, none⟩ = _ from (hok.out w2 hu).1)
        clear hu
        go_wp2_with fail
        refine sched_begin (fun b => b = w.heap.size + 1) (by kernel_rfl) ?_
        refine sched_take 0 rfl (by kernel_rfl) (by kernel_rfl) (by kernel_rfl) (fun _ _ _ h => h) rfl (fun x hx => by go_simp; rfl) ?_
        go_simp
        refine sched_take 1 rfl (by kernel_rfl) (by kernel_rfl) (by kernel_rfl) (fun _ _ _ h => h) rfl (fun x hx => by have hcx := hx.cell Q0.out (fun h => by simp only at h; omega); go_simp; rfl) ?_
        go_simp
        refine sched_take 2 rfl (by kernel_rfl) (by kernel_rfl) (by kernel_rfl) (fun _ _ _ h => h) rfl (fun x hx => by have hcx := hx.cell Q0.out (fun h => by simp only at h; omega); go_simp; rfl) ?_
        go_simp
        refine sched_take 3 rfl (by kernel_rfl) (by kernel_rfl) (by kernel_rfl) (fun _ _ _ h => h) rfl (fun x hx => by go_simp; rfl) ?_
        go_simp
        refine sched_alone 4 (by kernel_rfl) rfl rfl ?_
        go_simp
        refine (hupt.out _ HU2.out.drew).mono ?_
        rintro e w3 ⟨rfl, hu⟩
        refine ⟨hu.mono (fun _ _ h => h.elim), ?_⟩
        have HU3 := Lib.hid (HU2.out.drew.trans hu)
        have HUa3 := Lib.hid (HUa.out.drew.trans hu)
        clear hu
        go_simp
        refine sched_take 5 rfl (by kernel_rfl) (by kernel_rfl) (by kernel_rfl) (fun _ _ _ h => h) rfl (fun x hx => by go_simp; rfl) ?_
        go_simp
        refine sched_take 6 rfl (by kernel_rfl) (by kernel_rfl) (by kernel_rfl) (fun _ _ _ h => h) rfl (fun x hx => by go_simp; rfl) ?_
        go_simp
        refine sched_take 7 rfl (by kernel_rfl) (by kernel_rfl) (by kernel_rfl) (fun _ _ _ h => h) rfl (fun x hx => by go_simp; rfl) ?_
        go_simp
        refine sched_alone 8 (by kernel_rfl) rfl rfl ?_
        go_simp
        refine (hcl.out _ HU3.out).mono ?_
        rintro e w4 ⟨v4, rfl, hM⟩
        refine ⟨hM.2.mono (fun _ _ h => h.elim), ?_⟩
        have HM := Lib.hid hM
        have hz := hok.out w4 (HUa3.out.trans hM.2)
        obtain ⟨z1, z2, z3⟩ := hz
        obtain ⟨A4, c4, _, rfl, _⟩ := hM.1.read
        have hz3 := HUa3.out.size
        clear hM
        go_simp
        refine sched_take 9 rfl (by kernel_rfl) (by kernel_rfl) (by kernel_rfl) (fun _ _ _ h => h) rfl (fun x hx => by go_simp; rfl) ?_
        go_simp
        refine sched_alone 10 (by kernel_rfl) rfl rfl ?_
        go_simp
        have hfin := Lib.hid (Mine.set HM.out HU3.out (p := w.heap.size + 1) (by omega) (by omega) 0 (.slice A4 LT.length c4))
        refine ⟨(Upd.refl (fun b => b = w.heap.size + 1) w4).setCell (p := ⟨w.heap.size + 1, 0, none⟩) (fun _ => rfl) _, ?_⟩
        go_simp
        refine sched_done (by kernel_rfl) ?_
        go_wp2_with fail
        refine bodyPost_ret (v := .agg #[.slice A4 LT.length c4]) (by simp [results, Try.results29, go_sem, *]) rfl ⟨_, rfl, hfin.out⟩

set_option maxHeartbeats 2000000 in
set_option maxRecDepth 100000 in
theorem dirty_any {S : Nat → Prop} (v : Value) (l : List Ver) (n : Int) (w : World) (h : RSl Rep.ver w S v l) (hl : l.length ≤ 1000) :
    Calls Try.prog 35 #[.agg #[v], .int .i64 n] w fun e w' => e = .returned (.bool (rightB l && decide (uptoN l n < l.length))) ∧ Upd NoB w w' := by
  have HX := Lib.hid h
  obtain ⟨A, c, cs, rfl, d1, d2, d3, d4, d5⟩ := id h
  have d2' : c ≤ 9223372036854775807 := d2
  have hrt := Lib.hid (fun w1 (hu : Upd NoB w w1) => right_obj (.slice A l.length c) l w1 (h.upd hu (fun _ _ h => h)) hl)
  have hup := Lib.hid (fun w1 (hu : Upd NoB w w1) (hr : rightB l = true) => (upto_any (.slice A l.length c) l n w1 (h.upd hu (fun _ _ h => h)) hl hr).mono (fun e w' ⟨u, he, hx, hu⟩ => show e = Ending.returned (.int .i64 (uptoN l n)) ∧ Upd NoB w1 w' from ⟨by rw [he, upto_eq l n u hx], hu⟩))
  obtain ⟨wa, hwa⟩ : ∃ wa, w.alloc (.cells #[.slice A l.length c] 44) = wa := ⟨_, rfl⟩
  have HU := Lib.hid (show Upd NoB w wa by rw [← hwa]; exact (Upd.refl _ _).alloc _)
  have hBo : wa.heap[w.heap.size]? = some (.cells #[.slice A l.length c] 44 (0, 0)) := by rw [← hwa]; exact heap_alloc_new _ _
  have Q0 := Lib.hid (show wa.drew.cell? ⟨w.heap.size, 0, none⟩ = some (.slice A l.length c) by
    have : wa.drew.heap[w.heap.size]? = some (.cells #[.slice A l.length c] 44 (0, 0)) := hBo
    simp [World.cell?, this])
  have hrx := hrt.out wa.drew HU.out.drew
  have hul := uptoN_le l n
  clear hBo h d3
  cases hR : rightB l
  · rw [hR] at hrx
    have HRX := Lib.hid hrx
    clear hrx hR d5
    go_enter Try.func35, Try.ntmps35
    go_wp2_with fail
    refine sched_begin NoB (by kernel_rfl) ?_
    refine sched_take 0 rfl (by kernel_rfl) (by kernel_rfl) (by kernel_rfl) (fun _ _ _ h => h) rfl (fun x hx => by have hcx := hx.cell Q0.out (fun h => h); go_simp; rfl) ?_
    go_simp
    refine sched_alone 1 (by kernel_rfl) rfl rfl ?_
    go_simp
    refine HRX.out.mono ?_
    rintro e w2 ⟨rfl, hu⟩
    refine ⟨hu, ?_⟩
    have HU2 := Lib.hid (HU.out.drew.trans hu)
    clear hu
    go_simp
    refine sched_take 2 rfl (by kernel_rfl) (by kernel_rfl) (by kernel_rfl) (fun _ _ _ h => h) rfl (fun x hx => by go_simp; rfl) ?_
    go_simp
    refine sched_skip 3 rfl (by kernel_rfl) (by kernel_rfl) (by kernel_rfl) (fun _ _ _ h => h) rfl ?_
    go_simp
    refine sched_skip 4 rfl (by kernel_rfl) (by kernel_rfl) (by kernel_rfl) (fun _ _ _ h => h) rfl ?_
    go_simp
    refine sched_skip 5 rfl (by kernel_rfl) (by kernel_rfl) (by kernel_rfl) (fun _ _ _ h => h) rfl ?_
    go_simp
    refine sched_skip 6 rfl (by kernel_rfl) (by kernel_rfl) (by kernel_rfl) (fun _ _ _ h => h) rfl ?_
    go_simp
    refine sched_skip 7 rfl (by kernel_rfl) (by kernel_rfl) (by kernel_rfl) (fun _ _ _ h => h) rfl ?_
    go_simp
    refine sched_skip 8 rfl (by kernel_rfl) (by kernel_rfl) (by kernel_rfl) (fun _ _ _ h => h) rfl ?_
    go_simp
    refine sched_skip 9 rfl (by kernel_rfl) (by kernel_rfl) (by kernel_rfl) (fun _ _ _ h => h) rfl ?_
    go_simp
    refine sched_take 10 rfl (by kernel_rfl) (by kernel_rfl) (by kernel_rfl) (fun _ _ _ h => h) rfl (fun x hx => by go_simp; rfl) ?_
    go_simp
    refine sched_take 11 rfl (by kernel_rfl) (by kernel_rfl) (by kernel_rfl) (fun _ _ _ h => h) rfl (fun x hx => by go_simp; rfl) ?_
    go_simp
    refine sched_done (by kernel_rfl) ?_
    go_wp2_with fail
    go_ret
    exact ⟨rfl, HU2.out⟩
  · rw [hR] at hrx
    have HRX := Lib.hid hrx
    have hupt := Lib.hid (fun w1 (hu : Upd NoB w w1) => hup.out w1 hu hR)
    generalize uptoN l n = U at *
    clear hrx hR d5
    have hdd := Lib.hid (show decide ((U : Int) < (l.length : Int)) = decide (U < l.length) from decide_eq_decide.2 (by omega))
    go_enter Try.func35, Try.ntmps35
    go_wp2_with fail
    refine sched_begin NoB (by kernel_rfl) ?_
    refine sched_take 0 rfl (by kernel_rfl) (by kernel_rfl) (by kernel_rfl) (fun _ _ _ h => h) rfl (fun x hx => by have hcx := hx.cell Q0.out (fun h => h); go_simp; rfl) ?_
    go_simp
    refine sched_alone 1 (by kernel_rfl) rfl rfl ?_
    go_simp
    refine HRX.out.mono ?_
    rintro e w2 ⟨rfl, hu⟩
    refine ⟨hu, ?_⟩
    have Q2 := Lib.hid (hu.cell Q0.out (fun h => h))
    have HU2 := Lib.hid (HU.out.drew.trans hu)
    clear hu
    go_simp
    refine sched_take 2 rfl (by kernel_rfl) (by kernel_rfl) (by kernel_rfl) (fun _ _ _ h => h) rfl (fun x hx => by go_simp; rfl) ?_
    go_simp
    refine sched_take 3 rfl (by kernel_rfl) (by kernel_rfl) (by kernel_rfl) (fun _ _ _ h => h) rfl (fun x hx => by have hcx := hx.cell Q2.out (fun h => h); go_simp; rfl) ?_
    go_simp
    refine sched_take 4 rfl (by kernel_rfl) (by kernel_rfl) (by kernel_rfl) (fun _ _ _ h => h) rfl (fun x hx => by go_simp; rfl) ?_
    go_simp
    refine sched_take 6 rfl (by kernel_rfl) (by kernel_rfl) (by kernel_rfl) (fun _ _ _ h => h) rfl (fun x hx => by go_simp; rfl) ?_
    go_simp
    refine sched_take 7 rfl (by kernel_rfl) (by kernel_rfl) (by kernel_rfl) (fun _ _ _ h => h) rfl (fun x hx => by have hcx := hx.cell Q2.out (fun h => h); go_simp; rfl) ?_
    go_simp
    refine sched_take 8 rfl (by kernel_rfl) (by kernel_rfl) (by kernel_rfl) (fun _ _ _ h => h) rfl (fun x hx => by go_simp; rfl) ?_
    go_simp
    refine sched_alone 5 (by kernel_rfl) rfl rfl ?_
    go_simp
    refine (hupt.out _ HU2.out).mono ?_
    rintro e w3 ⟨rfl, hu⟩
    refine ⟨hu, ?_⟩
    have HU3 := Lib.hid (HU2.out.trans hu)
    clear hu
    go_simp
    refine sched_take 9 rfl (by kernel_rfl) (by kernel_rfl) (by kernel_rfl) (fun _ _ _ h => h) rfl (fun x hx => by go_simp; rfl) ?_
    go_simp
    refine sched_take 10 rfl (by kernel_rfl) (by kernel_rfl) (by kernel_rfl) (fun _ _ _ h => h) rfl (fun x hx => by go_simp; rfl) ?_
    go_simp
    refine sched_take 11 rfl (by kernel_rfl) (by kernel_rfl) (by kernel_rfl) (fun _ _ _ h => h) rfl (fun x hx => by go_simp; rfl) ?_
    go_simp
    refine sched_done (by kernel_rfl) ?_
    go_wp2_with fail
    go_ret
    exact ⟨by first | rfl | (rw [Bool.true_and, ← hdd.out]; first | rfl | simp), HU3.out⟩
end Go.Proofs.Ytcckljomjpfdaaa
