/- Versions, function by function (7): without later, without elder ones; is there a later one? -/
import Derived.Test.YtcckljomjpfdaaaObj6
namespace Go.Proofs.Ytcckljomjpfdaaa
open Go.RowKit Kit
set_option linter.unusedVariables false

set_option maxHeartbeats 1000000 in
set_option maxRecDepth 100000 in
/-- slices.Clone of what is read: a row of its own. -/
theorem clonev_any {S : Nat → Prop} (v : Value) (l : List Ver) (w : World) (h : RSl Rep.ver w S v l) (hl : l.length * 40 ≤ 140737488355328) :
    Calls Try.prog 50 #[v] w fun e w' => ∃ v', e = .returned v' ∧ Mine Rep.ver 50 w w' v' l := by
  obtain ⟨A, c, cs, rfl, h1, h2, h3, h4, h5⟩ := id h
  cases A with
  | none =>
    obtain rfl : c = 0 := h4 rfl
    obtain rfl : l = [] := List.eq_nil_of_length_eq_zero (by omega)
    have hnil := fun w => Lib.run_eql_slice_nil (P := Try.prog) w 42 50 none 0 0 0 0 Try.underlying42
    have fin := Lib.hid (show Mine Rep.ver 50 w w (.slice none 0 0) [] from Mine.nil _ (Upd.refl _ _))
    clear h h3 h5
    go_enter Try.func50, Try.ntmps50
    go_wp2_with fail
    go_ret
    exact ⟨_, rfl, fin.out⟩
  | some a =>
    have hnil := fun w => Lib.run_eql_slice_nil (P := Try.prog) w 42 50 (some a) l.length c 0 0 Try.underlying42
    have hs : S a.block := (h5 a rfl).2.1
    have u0 : Upd NoB w (w.alloc (.cells #[] 50)) := (Upd.refl NoB w).alloc _
    have H := Lib.hid (h.upd u0 (fun b _ hf => hf))
    have H0 := Lib.hid (show Mine Rep.ver 50 w (w.alloc (.cells #[] 50)) (.slice (some ⟨w.heap.size, 0, none⟩) 0 0) [] from
      ⟨OSl.made (r := Rep.ver) (e := 50) (w := w) (S := grow NoB w (w.alloc (.cells #[] 50))) #[] 0 (by simp) (by decide) ⟨.inr (Nat.le_refl _), by simp⟩, u0⟩)
    have HB := Lib.hid H0.out.bd
    have HO := Lib.hid H0.out.1
    clear h h3 h5 h4
    go_enter Try.func50, Try.ntmps50
    go_wp2_with (at_builtin; go_must (refine app_all (r := Rep.ver) rfl _ _ 42 50 (.agg #[.int .i64 0, .int .u64 0, .string ⟨#[]⟩, .bool false]) 40 rfl Try.underlying42 iVer rfl (by decide) rfl rfl HO.out HB.out H.out (fun cs hc => Rows.flat flat_ver hc _ _) ?_ ?_))
    · simpa using hl
    · intro v1 w1 ho hu
      have fin := Lib.hid (H0.out.app ho hu)
      clear ho hu
      go_wp2_with fail
      go_ret
      exact ⟨_, rfl, by simpa using fin.out⟩

/-- A slice that was made, behind a store elsewhere. -/
theorem Mine.set {α : Type} {r : Rep α} {e : TypeId} {w wb x : World} {v : Value} {l : List α} (h : Mine r e wb x v l) (hb : Upd NoB w wb) {p : Nat} (hp : p < wb.heap.size) (hp0 : w.heap.size ≤ p) (i : Nat) (u : Value) : Mine r e w (x.setCell ⟨p, i, none⟩ u) v l := by
  obtain ⟨h1, h2⟩ := h
  have us : Upd (fun b => b = p) x (x.setCell ⟨p, i, none⟩ u) := (Upd.refl (fun b => b = p) x).setCell (p := ⟨p, i, none⟩) (fun _ => rfl) u
  refine ⟨h1.keep (fun b hb' hl => ⟨⟨.inr ?_, Nat.lt_of_lt_of_le hb'.2 us.size⟩, us.block b hl ?_⟩) (fun b hb' => ⟨.inr ?_, Nat.lt_of_lt_of_le hb'.2 us.size⟩), (hb.trans h2).then us (fun i hi e => by omega)⟩
  · have := hb'.1.resolve_left (fun h => h); have := hb.size; omega
  · have := hb'.1.resolve_left (fun h => h); omega
  · have := hb'.1.resolve_left (fun h => h); have := hb.size; omega
set_option maxHeartbeats 2000000 in
set_option maxRecDepth 100000 in
theorem undo_any {S : Nat → Prop} (v : Value) (l : List Ver) (n : Int) (w : World) (h : RSl Rep.ver w S v l) (hl : l.length ≤ 1000) :
    Calls Try.prog 36 #[.agg #[v], .int .i64 n] w fun e w' => ∃ v', e = .returned (.agg #[v']) ∧ Mine Rep.ver 50 w w' v' (if rightB l = true then l.take (uptoN l n) else []) := by
  have HX := Lib.hid h
  obtain ⟨A, c, cs, rfl, d1, d2, d3, d4, d5⟩ := id h
  have d2' : c ≤ 9223372036854775807 := d2
  have hrt := Lib.hid (fun w1 (hu : Upd NoB w w1) => right_obj (.slice A l.length c) l w1 (h.upd hu (fun _ _ h => h)) hl)
  have hup := Lib.hid (fun w1 (hu : Upd NoB w w1) (hr : rightB l = true) => (upto_any (.slice A l.length c) l n w1 (h.upd hu (fun _ _ h => h)) hl hr).mono (fun e w' ⟨u, he, hx, hu⟩ => show e = Ending.returned (.int .i64 (uptoN l n)) ∧ Upd NoB w1 w' from ⟨by rw [he, upto_eq l n u hx], hu⟩))
  obtain ⟨wa, hwa⟩ : ∃ wa, (w.alloc (.cells #[.slice A l.length c] 44)).alloc (.cells #[.slice none 0 0] 44) = wa := ⟨_, rfl⟩
  have hua : Upd NoB w wa := by rw [← hwa]; exact ((Upd.refl _ _).alloc _).alloc _
  have hBo : wa.heap[w.heap.size]? = some (.cells #[.slice A l.length c] 44 (0, 0)) := by
    rw [← hwa, Below.heap_alloc _ _ _ (by simp)]
    exact heap_alloc_new _ _
  have hBv : wa.heap[w.heap.size + 1]? = some (.cells #[.slice none 0 0] 44 (0, 0)) := by
    have := heap_alloc_new (w.alloc (.cells #[.slice A l.length c] 44)) (.cells #[.slice none 0 0] 44 (0, 0))
    rw [show (w.alloc (.cells #[.slice A l.length c] 44)).heap.size = w.heap.size + 1 by simp, hwa] at this
    exact this
  have HU := Lib.hid hua
  have hsz : w.heap.size + 1 < wa.heap.size := lt_of_heap hBv
  have hok := Lib.hid (fun x (hx : Upd NoB wa x) => show x.cell? ⟨w.heap.size, 0, none⟩ = some (.slice A l.length c) ∧ x.cell? ⟨w.heap.size + 1, 0, none⟩ = some (.slice none 0 0) ∧ x.frozen? ⟨w.heap.size + 1, 0, none⟩ = false by
    have a := hx.heap hBo (fun h => h)
    have b := hx.heap hBv (fun h => h)
    simp [World.cell?, World.frozen?, a, b])
  have o0 := (hok.out wa (Upd.refl _ _)).1
  have hset := Lib.hid (fun x (hx : Upd NoB w x) (v : Value) => show Upd NoB w (x.setCell ⟨w.heap.size + 1, 0, none⟩ v) from hx.setCell (p := ⟨w.heap.size + 1, 0, none⟩) (fun e => by simp only at e; omega) v)
  clear hBo hBv hua h d3
  have hrx := hrt.out wa HU.out
  cases hR : rightB l
  · rw [hR] at hrx
    have HRX := Lib.hid hrx
    simp only [Bool.false_eq_true, if_false]
    clear hrx hR d5
    go_enter Try.func36, Try.ntmps36
    go_wp2_with fail
    refine HRX.out.mono ?_
    rintro e w2 ⟨rfl, hu⟩
    have HU2 := Lib.hid (HU.out.trans hu)
    obtain ⟨z1, z2, z3⟩ := hok.out w2 hu
    clear hu
    go_wp2_with fail
    refine bodyPost_ret (v := .agg #[.slice none 0 0]) (by simp [results, Try.results36, go_sem, *]) rfl ⟨_, rfl, Mine.nil w (hset.out w2 HU2.out _)⟩
  · rw [hR] at hrx
    have HRX := Lib.hid hrx
    have hul := uptoN_le l n
    have hupt := Lib.hid (fun w1 (hu : Upd NoB w w1) => hup.out w1 hu hR)
    simp only [if_true]
    have hpre : ∃ A' c', RSl Rep.ver w S (.slice A' (uptoN l n) c') (l.take (uptoN l n)) ∧ (A = none → A' = none ∧ c' = 0 ∧ uptoN l n = 0) ∧ (A ≠ none → A' = A ∧ c' = c) := by
      cases A with
      | none =>
        obtain rfl : c = 0 := d4 rfl
        have : uptoN l n = 0 := by omega
        refine ⟨none, 0, ?_, fun _ => ⟨rfl, rfl, this⟩, fun h => absurd rfl h⟩
        rw [this]
        exact RSl.nil w S
      | some a =>
        obtain ⟨f1, f2, f3⟩ := d5 a rfl
        obtain ⟨g, o, sp⟩ := a
        simp only at f1
        subst f1
        exact ⟨some ⟨g, o, none⟩, c, HX.out.pre (uptoN l n) hul (by omega) (Nat.le_refl _), (fun h => nomatch h), fun _ => ⟨rfl, rfl⟩⟩
    obtain ⟨A', c', hp1, hp2, hp3⟩ := hpre
    have hcl := Lib.hid (fun w1 (hu : Upd NoB w w1) => clonev_any _ (l.take (uptoN l n)) w1 (hp1.upd hu (fun _ _ h => h)) (by rw [List.length_take]; omega))
    generalize l.take (uptoN l n) = LT at *
    generalize uptoN l n = U at *
    have hUc : (U : Int) ≤ (c : Int) := by omega
    have hU0 : (0 : Int) ≤ (U : Int) := by omega
    clear hrx hR d5
    cases A with
    | none =>
      obtain ⟨rfl, rfl, rfl⟩ := hp2 rfl
      obtain rfl : c = 0 := d4 rfl
      clear hp1 hp2 hp3
      go_enter Try.func36, Try.ntmps36
      go_wp2_with fail
      refine HRX.out.mono ?_
      rintro e w2 ⟨rfl, hu⟩
      have HU2 := Lib.hid (HU.out.trans hu)
      have HUa := Lib.hid hu
      have Q0 := Lib.hid (show w2.drew.cell? ⟨w.heap.size, 0, none⟩ = _ from (hok.out w2 hu).1)
      clear hu
      go_wp2_with fail
      refine sched_begin (fun b => b = w.heap.size + 1) (by kernel_rfl) ?_
      refine sched_take 0 rfl (by kernel_rfl) (by kernel_rfl) (by kernel_rfl) (fun _ _ _ h => h) rfl (fun x hx => by go_simp; rfl) ?_
      go_simp
      refine sched_take 1 rfl (by kernel_rfl) (by kernel_rfl) (by kernel_rfl) (fun _ _ _ h => h) rfl (fun x hx => by have hcx := hx.cell Q0.out (fun h => by simp only at h; omega); go_simp; rfl) ?_
      go_simp
      refine sched_take 2 rfl (by kernel_rfl) (by kernel_rfl) (by kernel_rfl) (fun _ _ _ h => h) rfl (fun x hx => by have hcx := hx.cell Q0.out (fun h => by simp only at h; omega); go_simp; rfl) ?_
      go_simp
      refine sched_take 3 rfl (by kernel_rfl) (by kernel_rfl) (by kernel_rfl) (fun _ _ _ h => h) rfl (fun x hx => by go_simp; rfl) ?_
      go_simp
      refine sched_alone 4 (by kernel_rfl) rfl rfl ?_
      go_simp
      refine (hupt.out _ HU2.out.drew).mono ?_
      rintro e w3 ⟨rfl, hu⟩
      refine ⟨hu.mono (fun _ _ h => h.elim), ?_⟩
      have HU3 := Lib.hid (HU2.out.drew.trans hu)
      have HUa3 := Lib.hid (HUa.out.drew.trans hu)
      clear hu
      go_simp
      refine sched_take 5 rfl (by kernel_rfl) (by kernel_rfl) (by kernel_rfl) (fun _ _ _ h => h) rfl (fun x hx => by go_simp; rfl) ?_
      go_simp
      refine sched_alone 6 (by kernel_rfl) rfl rfl ?_
      go_simp
      refine (hcl.out _ HU3.out).mono ?_
      rintro e w4 ⟨v4, rfl, hM⟩
      refine ⟨hM.2.mono (fun _ _ h => h.elim), ?_⟩
      have HM := Lib.hid hM
      have hz := hok.out w4 (HUa3.out.trans hM.2)
      obtain ⟨z1, z2, z3⟩ := hz
      obtain ⟨A4, c4, _, rfl, _⟩ := hM.1.read
      have hz3 := HUa3.out.size
      clear hM
      go_simp
      refine sched_take 7 rfl (by kernel_rfl) (by kernel_rfl) (by kernel_rfl) (fun _ _ _ h => h) rfl (fun x hx => by go_simp; rfl) ?_
      go_simp
      refine sched_alone 8 (by kernel_rfl) rfl rfl ?_
      go_simp
      have hfin := Lib.hid (Mine.set HM.out HU3.out (p := w.heap.size + 1) (by omega) (by omega) 0 (.slice A4 LT.length c4))
      refine ⟨(Upd.refl (fun b => b = w.heap.size + 1) w4).setCell (p := ⟨w.heap.size + 1, 0, none⟩) (fun _ => rfl) _, ?_⟩
      go_simp
      refine sched_done (by kernel_rfl) ?_
      go_wp2_with fail
      refine bodyPost_ret (v := .agg #[.slice A4 LT.length c4]) (by simp [results, Try.results36, go_sem, *]) rfl ⟨_, rfl, hfin.out⟩
    | some a =>
      obtain ⟨rfl, rfl⟩ := hp3 (fun h => by cases h)
      clear hp1 hp2 hp3
      go_enter Try.func36, Try.ntmps36
      go_wp2_with fail
      refine HRX.out.mono ?_
      rintro e w2 ⟨rfl, hu⟩
      have HU2 := Lib.hid (HU.out.trans hu)
      have HUa := Lib.hid hu
      have Q0 := Lib.hid (show w2.drew.cell? ⟨w.heap.size, 0, none⟩ = _ from (hok.out w2 hu).1)
      clear hu
      go_wp2_with fail
      refine sched_begin (fun b => b = w.heap.size + 1) (by kernel_rfl) ?_
      refine sched_take 0 rfl (by kernel_rfl) (by kernel_rfl) (by kernel_rfl) (fun _ _ _ h => h) rfl (fun x hx => by go_simp; rfl) ?_
      go_simp
      refine sched_take 1 rfl (by kernel_rfl) (by kernel_rfl) (by kernel_rfl) (fun _ _ _ h => h) rfl (fun x hx => by have hcx := hx.cell Q0.out (fun h => by simp only at h; omega); go_simp; rfl) ?_
      go_simp
      refine sched_take 2 rfl (by kernel_rfl) (by kernel_rfl) (by kernel_rfl) (fun _ _ _ h => h) rfl (fun x hx => by have hcx := hx.cell Q0.out (fun h => by simp only at h; omega); go_simp; rfl) ?_
      go_simp
      refine sched_take 3 rfl (by kernel_rfl) (by kernel_rfl) (by kernel_rfl) (fun _ _ _ h => h) rfl (fun x hx => by go_simp; rfl) ?_
      go_simp
      refine sched_alone 4 (by kernel_rfl) rfl rfl ?_
      go_simp
      refine (hupt.out _ HU2.out.drew).mono ?_
      rintro e w3 ⟨rfl, hu⟩
      refine ⟨hu.mono (fun _ _ h => h.elim), ?_⟩
      have HU3 := Lib.hid (HU2.out.drew.trans hu)
      have HUa3 := Lib.hid (HUa.out.drew.trans hu)
      clear hu
      go_simp
      refine sched_take 5 rfl (by kernel_rfl) (by kernel_rfl) (by kernel_rfl) (fun _ _ _ h => h) rfl (fun x hx => by go_simp; rfl) ?_
      go_simp
      refine sched_alone 6 (by kernel_rfl) rfl rfl ?_
      go_simp
      refine (hcl.out _ HU3.out).mono ?_
      rintro e w4 ⟨v4, rfl, hM⟩
      refine ⟨hM.2.mono (fun _ _ h => h.elim), ?_⟩
      have HM := Lib.hid hM
      have hz := hok.out w4 (HUa3.out.trans hM.2)
      obtain ⟨z1, z2, z3⟩ := hz
      obtain ⟨A4, c4, _, rfl, _⟩ := hM.1.read
      have hz3 := HUa3.out.size
      clear hM
      go_simp
      refine sched_take 7 rfl (by kernel_rfl) (by kernel_rfl) (by kernel_rfl) (fun _ _ _ h => h) rfl (fun x hx => by go_simp; rfl) ?_
      go_simp
      refine sched_alone 8 (by kernel_rfl) rfl rfl ?_
      go_simp
      have hfin := Lib.hid (Mine.set HM.out HU3.out (p := w.heap.size + 1) (by omega) (by omega) 0 (.slice A4 LT.length c4))
      refine ⟨(Upd.refl (fun b => b = w.heap.size + 1) w4).setCell (p := ⟨w.heap.size + 1, 0, none⟩) (fun _ => rfl) _, ?_⟩
      go_simp
      refine sched_done (by kernel_rfl) ?_
      go_wp2_with fail
      refine bodyPost_ret (v := .agg #[.slice A4 LT.length c4]) (by simp [results, Try.results36, go_sem, *]) rfl ⟨_, rfl, hfin.out⟩
end Go.Proofs.Ytcckljomjpfdaaa
