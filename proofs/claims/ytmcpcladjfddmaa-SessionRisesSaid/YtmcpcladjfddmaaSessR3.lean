/- The document's table of slots (3): what is opened, and done. -/
import Derived.Test.YtmcpcladjfddmaaSessR2
namespace Go.Proofs.Ytmcpcladjfddmaa
open Go.RowKit Kit
set_option linter.unusedVariables false

set_option maxHeartbeats 16000000 in
set_option maxRecDepth 100000 in
theorem ropen_any (w0 : World) (xs : List Nat) (p : Nat) (l : List Srw) (m : Tab) (c q a : Int) (w : World) (h : RSt w0 w xs p l) (hS : ∀ c, m.f c = rof l c)
    (hp : p ∈ xs) (hxs : ∀ x ∈ xs, x < w.heap.size) (h0 : w0.heap.size ≤ w.heap.size) (hl : l.length ≤ 1000) (hq0 : 0 ≤ q) :
    Calls Try.prog 36 #[.pointer (some ⟨p, 0, none⟩), .agg #[.int .i64 c, .int .u64 q], .int .i64 a] w fun e w' => e = .returned (.int .i64 (m.may c q a false)) ∧ RSt w0 w' xs p (if m.may c q a false = 0 then l ++ [(c, ⟨q, true, a, 0, 0⟩)] else l) ∧ Upd (fun b => b = p ∨ New w0 w xs b) w w' := by
  have HK := Lib.hid (fun x (hx : Upd NoB w x) => h.keep hx (fun h => h) (fun _ h => h.elim))
  obtain ⟨v, h1, h2⟩ := id h
  have H1 := Lib.hid h1
  have hplt := lt_of_heap h1
  obtain ⟨wa, hwa⟩ : ∃ wa, w.alloc (.cells #[.int .i64 c, .int .u64 q] 47) = wa := ⟨_, rfl⟩
  have hua : Upd NoB w wa := by rw [← hwa]; exact (Upd.refl _ _).alloc _
  have hB : wa.heap[w.heap.size]? = some (.cells #[.int .i64 c, .int .u64 q] 47 (0, 0)) := by rw [← hwa]; exact heap_alloc_new _ _
  have hcell := Lib.hid (fun (F : Nat → Prop) x (hx : Upd F wa x) (hf : ¬ F w.heap.size) => two_cells (hx.heap hB hf))
  have hof := Lib.hid (fun w1 (hu : Upd NoB w w1) => by
    have := rof_fn w0 xs p l c w1 (HK.out _ hu)
    rw [← hS] at this
    exact this)
  have hho := Lib.hid (fun w1 (hu : Upd NoB w w1) => by
    have := rhow_any w0 xs p l c q w1 (HK.out _ hu)
    rw [← hS, ← how_eq] at this
    exact this)
  have hri := Lib.hid (fun w1 => rrightid_any c q w1 hq0)
  have HO := Lib.hid (fun x (hx : Upd NoB w x) => h2.new_keep hx (fun _ h => h.elim))
  have hown := Lib.hid (fun k (hk : v.ownBlock = some k) => h2.new_own k hk)
  obtain ⟨b0, b1⟩ := hcell.out NoB wa (Upd.refl _ _) (fun h => h)
  have HUa := Lib.hid hua
  have HU0 := Lib.hid (Upd.refl NoB wa)
  have hsz : w.heap.size < wa.heap.size := lt_of_heap hB
  have hcs := how_cases m c q
  obtain ⟨A, cc, _, rfl, _⟩ := h2.read
  clear hua hB h h1 h2 hS
  unfold Tab.may
  have hge : (m.f c).getD Slot.zero = m.get c := rfl
  rw [hge] at hof
  generalize m.how c q = Ho at *
  generalize m.get c = s at *
  generalize (m.f c).isSome = B at *
  generalize rightID c q = R at *
  clear hge
  cases R
  · simp only [if_true, Int.reduceEq, if_false]
    clear hcs
    go_enter Try.func36, Try.ntmps36
    go_wp2_with fail
    refine (hof.out _ HUa.out).mono ?_
    rintro e' w1 ⟨oc, rfl, hu⟩
    have hz1 : w.heap.size < w1.heap.size := Nat.lt_of_lt_of_le hsz hu.size
    obtain ⟨wb, hwb⟩ : ∃ wb, w1.alloc (.cells #[.int .i64 oc, .int .u64 s.seq, .bool s.opn, .int .i64 s.at_, .int .i64 s.code, .int .u64 s.num] 79) = wb := ⟨_, rfl⟩
    have hub : Upd NoB w1 wb := by rw [← hwb]; exact (Upd.refl _ _).alloc _
    have hBs := Lib.hid (show wb.heap[w1.heap.size]? = some (.cells #[.int .i64 oc, .int .u64 s.seq, .bool s.opn, .int .i64 s.at_, .int .i64 s.code, .int .u64 s.num] 79 (0, 0)) by rw [← hwb]; exact heap_alloc_new _ _)
    have HUab := Lib.hid (hu.trans hub)
    have HUbb := Lib.hid (Upd.refl NoB wb)
    obtain ⟨b0, b1⟩ := hcell.out NoB w1 hu (fun h => h)
    obtain ⟨b0, b1⟩ := hcell.out NoB wb (hu.trans hub) (fun h => h)
    clear hu hub
    go_wp2_with fail
    refine (hri.out _).mono ?_
    rintro e' w2 ⟨rfl, hu⟩
    have HUb2 := Lib.hid hu
    have HU2 := Lib.hid (HUab.out.trans hu)
    obtain ⟨b0, b1⟩ := hcell.out NoB w2 HU2.out (fun h => h)
    clear hu
    go_wp2_with fail
    go_ret
    exact ⟨rfl, HK.out _ (HUa.out.trans HU2.out), (HUa.out.trans HU2.out).mono (fun _ _ h => h.elim)⟩
  simp only [Bool.true_eq_false, if_false]
  by_cases ha : a < 1
  · simp only [if_pos ha, Int.reduceEq, if_false]
    have had : decide (a < 1) = true := decide_eq_true ha
    clear ha hcs
    go_enter Try.func36, Try.ntmps36
    go_wp2_with fail
    refine (hof.out _ HUa.out).mono ?_
    rintro e' w1 ⟨oc, rfl, hu⟩
    have hz1 : w.heap.size < w1.heap.size := Nat.lt_of_lt_of_le hsz hu.size
    obtain ⟨wb, hwb⟩ : ∃ wb, w1.alloc (.cells #[.int .i64 oc, .int .u64 s.seq, .bool s.opn, .int .i64 s.at_, .int .i64 s.code, .int .u64 s.num] 79) = wb := ⟨_, rfl⟩
    have hub : Upd NoB w1 wb := by rw [← hwb]; exact (Upd.refl _ _).alloc _
    have hBs := Lib.hid (show wb.heap[w1.heap.size]? = some (.cells #[.int .i64 oc, .int .u64 s.seq, .bool s.opn, .int .i64 s.at_, .int .i64 s.code, .int .u64 s.num] 79 (0, 0)) by rw [← hwb]; exact heap_alloc_new _ _)
    have HUab := Lib.hid (hu.trans hub)
    have HUbb := Lib.hid (Upd.refl NoB wb)
    obtain ⟨b0, b1⟩ := hcell.out NoB w1 hu (fun h => h)
    obtain ⟨b0, b1⟩ := hcell.out NoB wb (hu.trans hub) (fun h => h)
    clear hu hub
    go_wp2_with fail
    refine (hri.out _).mono ?_
    rintro e' w2 ⟨rfl, hu⟩
    have HUb2 := Lib.hid hu
    have HU2 := Lib.hid (HUab.out.trans hu)
    obtain ⟨b0, b1⟩ := hcell.out NoB w2 HU2.out (fun h => h)
    clear hu
    go_wp2_with fail
    go_ret
    exact ⟨rfl, HK.out _ (HUa.out.trans HU2.out), (HUa.out.trans HU2.out).mono (fun _ _ h => h.elim)⟩
  simp only [if_neg ha]
  have had : decide (a < 1) = false := decide_eq_false ha
  clear ha
  have hob : s.opn = true ∨ s.opn = false := by cases s.opn <;> simp
  rcases hcs with rfl | rfl | rfl
  · simp only [show ¬ (0 : Int) = 2 by decide, show ¬ (0 : Int) = 1 by decide, if_false]
    rcases hob with hO | hO
    · simp only [if_pos hO, show ¬ (10 : Int) = 0 by decide, if_false]
      replace hO := Lib.hid hO
      go_enter Try.func36, Try.ntmps36
      go_wp2_with fail
      refine (hof.out _ HUa.out).mono ?_
      rintro e' w1 ⟨oc, rfl, hu⟩
      have hz1 : w.heap.size < w1.heap.size := Nat.lt_of_lt_of_le hsz hu.size
      obtain ⟨wb, hwb⟩ : ∃ wb, w1.alloc (.cells #[.int .i64 oc, .int .u64 s.seq, .bool s.opn, .int .i64 s.at_, .int .i64 s.code, .int .u64 s.num] 79) = wb := ⟨_, rfl⟩
      have hub : Upd NoB w1 wb := by rw [← hwb]; exact (Upd.refl _ _).alloc _
      have hBs := Lib.hid (show wb.heap[w1.heap.size]? = some (.cells #[.int .i64 oc, .int .u64 s.seq, .bool s.opn, .int .i64 s.at_, .int .i64 s.code, .int .u64 s.num] 79 (0, 0)) by rw [← hwb]; exact heap_alloc_new _ _)
      have HUab := Lib.hid (hu.trans hub)
      have HUbb := Lib.hid (Upd.refl NoB wb)
      obtain ⟨b0, b1⟩ := hcell.out NoB w1 hu (fun h => h)
      obtain ⟨b0, b1⟩ := hcell.out NoB wb (hu.trans hub) (fun h => h)
      clear hu hub
      go_wp2_with fail
      refine (hri.out _).mono ?_
      rintro e' w2 ⟨rfl, hu⟩
      have HUb2 := Lib.hid hu
      have HU2 := Lib.hid (HUab.out.trans hu)
      obtain ⟨b0, b1⟩ := hcell.out NoB w2 HU2.out (fun h => h)
      clear hu
      go_wp2_with fail
      refine (hho.out _ (HUa.out.trans HU2.out)).mono ?_
      rintro e' w3 ⟨rfl, hu⟩
      have HUb3 := Lib.hid (HUb2.out.trans hu)
      have HU3 := Lib.hid (HU2.out.trans hu)
      obtain ⟨b0, b1⟩ := hcell.out NoB w3 HU3.out (fun h => h)
      obtain ⟨_, _, s2, _⟩ := six_cells (HUb3.out.heap hBs.out (fun h => h))
      skip
      clear hu
      go_wp2_with fail
      refine (hho.out _ (HUa.out.trans HU3.out)).mono ?_
      rintro e' w4 ⟨rfl, hu⟩
      have HUb4 := Lib.hid (HUb3.out.trans hu)
      have HU4 := Lib.hid (HU3.out.trans hu)
      obtain ⟨b0, b1⟩ := hcell.out NoB w4 HU4.out (fun h => h)
      obtain ⟨_, _, s2, _⟩ := six_cells (HUb4.out.heap hBs.out (fun h => h))
      rw [hO.out] at s2
      clear hu
      go_wp2_with fail
      go_ret
      exact ⟨rfl, HK.out _ (HUa.out.trans HU4.out), (HUa.out.trans HU4.out).mono (fun _ _ h => h.elim)⟩
    · have hOn : ¬ s.opn = true := by rw [hO]; simp
      simp only [if_neg hOn, if_true]
      clear hOn
      replace hO := Lib.hid hO
      go_enter Try.func36, Try.ntmps36
      go_wp2_with fail
      refine (hof.out _ HUa.out).mono ?_
      rintro e' w1 ⟨oc, rfl, hu⟩
      have hz1 : w.heap.size < w1.heap.size := Nat.lt_of_lt_of_le hsz hu.size
      obtain ⟨wb, hwb⟩ : ∃ wb, w1.alloc (.cells #[.int .i64 oc, .int .u64 s.seq, .bool s.opn, .int .i64 s.at_, .int .i64 s.code, .int .u64 s.num] 79) = wb := ⟨_, rfl⟩
      have hub : Upd NoB w1 wb := by rw [← hwb]; exact (Upd.refl _ _).alloc _
      have hBs := Lib.hid (show wb.heap[w1.heap.size]? = some (.cells #[.int .i64 oc, .int .u64 s.seq, .bool s.opn, .int .i64 s.at_, .int .i64 s.code, .int .u64 s.num] 79 (0, 0)) by rw [← hwb]; exact heap_alloc_new _ _)
      have HUab := Lib.hid (hu.trans hub)
      have HUbb := Lib.hid (Upd.refl NoB wb)
      obtain ⟨b0, b1⟩ := hcell.out NoB w1 hu (fun h => h)
      obtain ⟨b0, b1⟩ := hcell.out NoB wb (hu.trans hub) (fun h => h)
      clear hu hub
      go_wp2_with fail
      refine (hri.out _).mono ?_
      rintro e' w2 ⟨rfl, hu⟩
      have HUb2 := Lib.hid hu
      have HU2 := Lib.hid (HUab.out.trans hu)
      obtain ⟨b0, b1⟩ := hcell.out NoB w2 HU2.out (fun h => h)
      clear hu
      go_wp2_with fail
      refine (hho.out _ (HUa.out.trans HU2.out)).mono ?_
      rintro e' w3 ⟨rfl, hu⟩
      have HUb3 := Lib.hid (HUb2.out.trans hu)
      have HU3 := Lib.hid (HU2.out.trans hu)
      obtain ⟨b0, b1⟩ := hcell.out NoB w3 HU3.out (fun h => h)
      obtain ⟨_, _, s2, _⟩ := six_cells (HUb3.out.heap hBs.out (fun h => h))
      skip
      clear hu
      go_wp2_with fail
      refine (hho.out _ (HUa.out.trans HU3.out)).mono ?_
      rintro e' w4 ⟨rfl, hu⟩
      have HUb4 := Lib.hid (HUb3.out.trans hu)
      have HU4 := Lib.hid (HU3.out.trans hu)
      obtain ⟨b0, b1⟩ := hcell.out NoB w4 HU4.out (fun h => h)
      obtain ⟨_, _, s2, _⟩ := six_cells (HUb4.out.heap hBs.out (fun h => h))
      rw [hO.out] at s2
      clear hu
      go_wp2_with fail
      have hUd := HU4.out.trans (Upd.refl NoB w4).drew
      obtain ⟨wd, hwd⟩ : ∃ wd, w4.drew = wd := ⟨_, rfl⟩
      rw [hwd] at hUd
      have HUd := Lib.hid hUd
      have hnp : ¬ (Value.slice A l.length cc).ownBlock = some p := fun e => (hown.out p e).2.2 hp
      have hns : ¬ (Value.slice A l.length cc).ownBlock = some w.heap.size := fun e => by have := (hown.out _ e).2.1; omega
      have hpc := (one_cell ((HUa.out.trans hUd).heap H1.out (fun h => h))).1
      have hic := hcell.out NoB wd hUd (fun h => h)
      have HO7 := Lib.hid (HO.out wd (HUa.out.trans hUd))
      have HB7 := Lib.hid (New.bd w0 wd xs)
      have HY := Lib.hid (show Rep.srw.rep wd NoB (c, ⟨q, true, a, 0, 0⟩) (#[.int .i64 c, .int .u64 q, .bool true, .int .i64 a, .int .i64 0, .int .u64 0] : Array Value).toList from rfl)
      have hall : (l.length + 1) * 48 ≤ 140737488355328 := by omega
      clear hUd
      refine sched2_begin (fun b => (Value.slice A l.length cc).ownBlock = some b) (fun b => b = p ∨ (Value.slice A l.length cc).ownBlock = some b) [15] (by kernel_rfl) ?_
      rw [hwd]
      clear hwd
      refine sched2_take 0 rfl (by kernel_rfl) (by kernel_rfl) (by kernel_rfl) (by kernel_rfl) (by kernel_rfl) (fun _ _ _ h => h) (.inl ⟨rfl, fun x hx => by go_simp; rfl⟩) ?_
      go_simp
      refine sched2_take 1 rfl (by kernel_rfl) (by kernel_rfl) (by kernel_rfl) (by kernel_rfl) (by kernel_rfl) (fun _ _ _ h => h) (.inl ⟨rfl, fun x hx => by go_simp; rfl⟩) ?_
      go_simp
      refine sched2_take 2 rfl (by kernel_rfl) (by kernel_rfl) (by kernel_rfl) (by kernel_rfl) (by kernel_rfl) (fun _ _ _ h => h) (.inl ⟨rfl, fun x hx => by go_simp; rfl⟩) ?_
      go_simp
      refine sched2_take 3 rfl (by kernel_rfl) (by kernel_rfl) (by kernel_rfl) (by kernel_rfl) (by kernel_rfl) (fun _ _ _ h => h) (.inl ⟨rfl, fun x hx => by go_simp; rfl⟩) ?_
      go_simp
      refine sched2_take 4 rfl (by kernel_rfl) (by kernel_rfl) (by kernel_rfl) (by kernel_rfl) (by kernel_rfl) (fun _ _ _ h => h) (.inl ⟨rfl, fun x hx => by have hcx := hx.cell hpc hnp; go_simp; rfl⟩) ?_
      go_simp
      refine sched2_take 5 rfl (by kernel_rfl) (by kernel_rfl) (by kernel_rfl) (by kernel_rfl) (by kernel_rfl) (fun _ _ _ h => h) (.inl ⟨rfl, fun x hx => by go_simp; rfl⟩) ?_
      go_simp
      refine sched2_take 6 rfl (by kernel_rfl) (by kernel_rfl) (by kernel_rfl) (by kernel_rfl) (by kernel_rfl) (fun _ _ _ h => h) (.inl ⟨rfl, fun x hx => by have hcx := hx.cell hic.1 hns; have hcy := hx.cell hic.2 hns; go_simp; rfl⟩) ?_
      go_simp
      refine sched2_take 7 rfl (by kernel_rfl) (by kernel_rfl) (by kernel_rfl) (by kernel_rfl) (by kernel_rfl) (fun _ _ _ h => h) (.inl ⟨rfl, fun x hx => by go_simp; rfl⟩) ?_
      go_simp
      refine sched2_take 8 rfl (by kernel_rfl) (by kernel_rfl) (by kernel_rfl) (by kernel_rfl) (by kernel_rfl) (fun _ _ _ h => h) (.inl ⟨rfl, fun x hx => by have hcx := hx.cell hic.1 hns; have hcy := hx.cell hic.2 hns; go_simp; rfl⟩) ?_
      go_simp
      refine sched2_take 9 rfl (by kernel_rfl) (by kernel_rfl) (by kernel_rfl) (by kernel_rfl) (by kernel_rfl) (fun _ _ _ h => h) (.inl ⟨rfl, fun x hx => by go_simp; rfl⟩) ?_
      go_simp
      refine sched2_take 10 rfl (by kernel_rfl) (by kernel_rfl) (by kernel_rfl) (by kernel_rfl) (by kernel_rfl) (fun _ _ _ h => h) (.inl ⟨rfl, fun x hx => by go_simp; rfl⟩) ?_
      go_simp
      refine sched2_alone 11 (by kernel_rfl) rfl rfl ?_
      go_simp
      refine ⟨both ((Upd.refl _ _).alloc _) (fun _ h => .inr h), ?_⟩
      go_simp
      refine sched2_law 12 (by kernel_rfl) rfl rfl ?_
      go_simp
      at_builtin
      refine app_one' (r := Rep.srw) (v := .slice A l.length cc) (y := (c, ⟨q, true, a, 0, 0⟩)) rfl _ _ 51 79 (.agg #[.int .i64 0, .int .u64 0, .bool false, .int .i64 0, .int .i64 0, .int .u64 0]) 48 rfl Try.underlying51 iSrw rfl (by decide) rfl rfl HO7.out HB7.out HY.out (fun b hb => hb.elim) hall ?_
      intro v1 w9 ho2 hu2 hu3
      refine law_done ⟨both hu3 (fun _ h => .inr h), ?_⟩
      have hwz : w.heap.size ≤ wd.heap.size := (HUa.out.trans HUd.out).size
      have HN := Lib.hid (ho2.new_app (Nat.le_trans h0 hwz) (fun x hx => Nat.lt_of_lt_of_le (hxs x hx) hwz))
      have HU9 := Lib.hid hu2
      have G1 := Lib.hid (hu2.heap ((HUa.out.trans HUd.out).heap H1.out (fun h => h)) hnp)
      obtain ⟨k0, f0⟩ := one_cell G1.out
      obtain ⟨A1, c1, _, e1, _⟩ := HN.out.read
      rw [List.length_append, List.length_singleton] at e1
      subst e1
      clear ho2 hu2 hu3
      go_simp
      refine sched2_take 13 rfl (by kernel_rfl) (by kernel_rfl) (by kernel_rfl) (by kernel_rfl) (by kernel_rfl) (fun _ _ _ h => h) (.inl ⟨rfl, fun x hx => by go_simp; rfl⟩) ?_
      go_simp
      refine sched2_take 14 rfl (by kernel_rfl) (by kernel_rfl) (by kernel_rfl) (by kernel_rfl) (by kernel_rfl) (fun _ _ _ h => h) (.inl ⟨rfl, fun x hx => by go_simp; rfl⟩) ?_
      go_simp
      refine sched2_alone 15 (by kernel_rfl) rfl rfl ?_
      go_simp
      refine ⟨⟨((Upd.refl _ w9).setCell (p := ⟨p, 0, none⟩) (fun _ => .inl rfl) _), fun hn => ?_⟩, ?_⟩
      · have := hn 15 (by simp)
        simp at this
      go_simp
      refine sched2_done (by kernel_rfl) ?_
      have G2 := Lib.hid (heap_put G1.out 0 (.slice A1 (l.length + 1) c1))
      have U10 := Lib.hid ((Upd.refl (fun b => b = p) w9).setCell (p := ⟨p, 0, none⟩) (fun _ => rfl) (.slice A1 (l.length + 1) c1))
      go_wp2_with fail
      go_ret
      refine ⟨rfl, ⟨_, by simpa using G2.out, HN.out.new_keep U10.out (fun b hb => .inl (by rw [show b = p from hb]; exact hp))⟩, ?_⟩
      refine (((HUa.out.trans HUd.out).mono (fun _ _ h => h.elim)).then HU9.out (fun i hi e => ?_)).then U10.out (fun i hi e => .inl e)
      obtain ⟨a1, a2, a3⟩ := hown.out i e
      exact .inr ⟨a1, hi, a3⟩
  · simp only [show ¬ (1 : Int) = 2 by decide, if_true, if_false, Bool.false_and, Int.reduceEq]
    go_enter Try.func36, Try.ntmps36
    go_wp2_with fail
    refine (hof.out _ HUa.out).mono ?_
    rintro e' w1 ⟨oc, rfl, hu⟩
    have hz1 : w.heap.size < w1.heap.size := Nat.lt_of_lt_of_le hsz hu.size
    obtain ⟨wb, hwb⟩ : ∃ wb, w1.alloc (.cells #[.int .i64 oc, .int .u64 s.seq, .bool s.opn, .int .i64 s.at_, .int .i64 s.code, .int .u64 s.num] 79) = wb := ⟨_, rfl⟩
    have hub : Upd NoB w1 wb := by rw [← hwb]; exact (Upd.refl _ _).alloc _
    have hBs := Lib.hid (show wb.heap[w1.heap.size]? = some (.cells #[.int .i64 oc, .int .u64 s.seq, .bool s.opn, .int .i64 s.at_, .int .i64 s.code, .int .u64 s.num] 79 (0, 0)) by rw [← hwb]; exact heap_alloc_new _ _)
    have HUab := Lib.hid (hu.trans hub)
    have HUbb := Lib.hid (Upd.refl NoB wb)
    obtain ⟨b0, b1⟩ := hcell.out NoB w1 hu (fun h => h)
    obtain ⟨b0, b1⟩ := hcell.out NoB wb (hu.trans hub) (fun h => h)
    clear hu hub
    go_wp2_with fail
    refine (hri.out _).mono ?_
    rintro e' w2 ⟨rfl, hu⟩
    have HUb2 := Lib.hid hu
    have HU2 := Lib.hid (HUab.out.trans hu)
    obtain ⟨b0, b1⟩ := hcell.out NoB w2 HU2.out (fun h => h)
    clear hu
    go_wp2_with fail
    refine (hho.out _ (HUa.out.trans HU2.out)).mono ?_
    rintro e' w3 ⟨rfl, hu⟩
    have HUb3 := Lib.hid (HUb2.out.trans hu)
    have HU3 := Lib.hid (HU2.out.trans hu)
    obtain ⟨b0, b1⟩ := hcell.out NoB w3 HU3.out (fun h => h)
    obtain ⟨_, _, s2, _⟩ := six_cells (HUb3.out.heap hBs.out (fun h => h))
    skip
    clear hu
    go_wp2_with fail
    refine (hho.out _ (HUa.out.trans HU3.out)).mono ?_
    rintro e' w4 ⟨rfl, hu⟩
    have HUb4 := Lib.hid (HUb3.out.trans hu)
    have HU4 := Lib.hid (HU3.out.trans hu)
    obtain ⟨b0, b1⟩ := hcell.out NoB w4 HU4.out (fun h => h)
    obtain ⟨_, _, s2, _⟩ := six_cells (HUb4.out.heap hBs.out (fun h => h))
    skip
    clear hu
    go_wp2_with fail
    go_ret
    exact ⟨rfl, HK.out _ (HUa.out.trans HU4.out), (HUa.out.trans HU4.out).mono (fun _ _ h => h.elim)⟩
  · simp only [if_true, Int.reduceEq, if_false]
    go_enter Try.func36, Try.ntmps36
    go_wp2_with fail
    refine (hof.out _ HUa.out).mono ?_
    rintro e' w1 ⟨oc, rfl, hu⟩
    have hz1 : w.heap.size < w1.heap.size := Nat.lt_of_lt_of_le hsz hu.size
    obtain ⟨wb, hwb⟩ : ∃ wb, w1.alloc (.cells #[.int .i64 oc, .int .u64 s.seq, .bool s.opn, .int .i64 s.at_, .int .i64 s.code, .int .u64 s.num] 79) = wb := ⟨_, rfl⟩
    have hub : Upd NoB w1 wb := by rw [← hwb]; exact (Upd.refl _ _).alloc _
    have hBs := Lib.hid (show wb.heap[w1.heap.size]? = some (.cells #[.int .i64 oc, .int .u64 s.seq, .bool s.opn, .int .i64 s.at_, .int .i64 s.code, .int .u64 s.num] 79 (0, 0)) by rw [← hwb]; exact heap_alloc_new _ _)
    have HUab := Lib.hid (hu.trans hub)
    have HUbb := Lib.hid (Upd.refl NoB wb)
    obtain ⟨b0, b1⟩ := hcell.out NoB w1 hu (fun h => h)
    obtain ⟨b0, b1⟩ := hcell.out NoB wb (hu.trans hub) (fun h => h)
    clear hu hub
    go_wp2_with fail
    refine (hri.out _).mono ?_
    rintro e' w2 ⟨rfl, hu⟩
    have HUb2 := Lib.hid hu
    have HU2 := Lib.hid (HUab.out.trans hu)
    obtain ⟨b0, b1⟩ := hcell.out NoB w2 HU2.out (fun h => h)
    clear hu
    go_wp2_with fail
    refine (hho.out _ (HUa.out.trans HU2.out)).mono ?_
    rintro e' w3 ⟨rfl, hu⟩
    have HUb3 := Lib.hid (HUb2.out.trans hu)
    have HU3 := Lib.hid (HU2.out.trans hu)
    obtain ⟨b0, b1⟩ := hcell.out NoB w3 HU3.out (fun h => h)
    obtain ⟨_, _, s2, _⟩ := six_cells (HUb3.out.heap hBs.out (fun h => h))
    skip
    clear hu
    go_wp2_with fail
    go_ret
    exact ⟨rfl, HK.out _ (HUa.out.trans HU3.out), (HUa.out.trans HU3.out).mono (fun _ _ h => h.elim)⟩
set_option maxHeartbeats 16000000 in
set_option maxRecDepth 100000 in
theorem rdone_any (w0 : World) (xs : List Nat) (p : Nat) (l : List Srw) (m : Tab) (c q a code num : Int) (w : World) (h : RSt w0 w xs p l) (hS : ∀ c, m.f c = rof l c)
    (hp : p ∈ xs) (hxs : ∀ x ∈ xs, x < w.heap.size) (h0 : w0.heap.size ≤ w.heap.size) (hl : l.length ≤ 1000) (hq0 : 0 ≤ q) :
    Calls Try.prog 37 #[.pointer (some ⟨p, 0, none⟩), .agg #[.int .i64 c, .int .u64 q], .int .i64 a, .int .i64 code, .int .u64 num] w fun e w' => e = .returned (.int .i64 (m.may c q a true)) ∧ RSt w0 w' xs p (if m.may c q a true = 0 then l ++ [(c, ⟨q, false, a, code, num⟩)] else l) ∧ Upd (fun b => b = p ∨ New w0 w xs b) w w' := by
  have HK := Lib.hid (fun x (hx : Upd NoB w x) => h.keep hx (fun h => h) (fun _ h => h.elim))
  obtain ⟨v, h1, h2⟩ := id h
  have H1 := Lib.hid h1
  have hplt := lt_of_heap h1
  obtain ⟨wa, hwa⟩ : ∃ wa, w.alloc (.cells #[.int .i64 c, .int .u64 q] 47) = wa := ⟨_, rfl⟩
  have hua : Upd NoB w wa := by rw [← hwa]; exact (Upd.refl _ _).alloc _
  have hB : wa.heap[w.heap.size]? = some (.cells #[.int .i64 c, .int .u64 q] 47 (0, 0)) := by rw [← hwa]; exact heap_alloc_new _ _
  have hcell := Lib.hid (fun (F : Nat → Prop) x (hx : Upd F wa x) (hf : ¬ F w.heap.size) => two_cells (hx.heap hB hf))
  have hof := Lib.hid (fun w1 (hu : Upd NoB w w1) => by
    have := rof_fn w0 xs p l c w1 (HK.out _ hu)
    rw [← hS] at this
    exact this)
  have hho := Lib.hid (fun w1 (hu : Upd NoB w w1) => by
    have := rhow_any w0 xs p l c q w1 (HK.out _ hu)
    rw [← hS, ← how_eq] at this
    exact this)
  have hri := Lib.hid (fun w1 => rrightid_any c q w1 hq0)
  have HO := Lib.hid (fun x (hx : Upd NoB w x) => h2.new_keep hx (fun _ h => h.elim))
  have hown := Lib.hid (fun k (hk : v.ownBlock = some k) => h2.new_own k hk)
  obtain ⟨b0, b1⟩ := hcell.out NoB wa (Upd.refl _ _) (fun h => h)
  have HUa := Lib.hid hua
  have HU0 := Lib.hid (Upd.refl NoB wa)
  have hsz : w.heap.size < wa.heap.size := lt_of_heap hB
  have hcs := how_cases m c q
  obtain ⟨A, cc, _, rfl, _⟩ := h2.read
  clear hua hB h h1 h2 hS
  unfold Tab.may
  have hge : (m.f c).getD Slot.zero = m.get c := rfl
  rw [hge] at hof
  generalize m.how c q = Ho at *
  generalize m.get c = s at *
  generalize (m.f c).isSome = B at *
  generalize rightID c q = R at *
  clear hge
  cases R
  · simp only [if_true, Int.reduceEq, if_false]
    clear hcs
    go_enter Try.func37, Try.ntmps37
    go_wp2_with fail
    refine (hof.out _ HUa.out).mono ?_
    rintro e' w1 ⟨oc, rfl, hu⟩
    have hz1 : w.heap.size < w1.heap.size := Nat.lt_of_lt_of_le hsz hu.size
    obtain ⟨wb, hwb⟩ : ∃ wb, w1.alloc (.cells #[.int .i64 oc, .int .u64 s.seq, .bool s.opn, .int .i64 s.at_, .int .i64 s.code, .int .u64 s.num] 79) = wb := ⟨_, rfl⟩
    have hub : Upd NoB w1 wb := by rw [← hwb]; exact (Upd.refl _ _).alloc _
    have hBs := Lib.hid (show wb.heap[w1.heap.size]? = some (.cells #[.int .i64 oc, .int .u64 s.seq, .bool s.opn, .int .i64 s.at_, .int .i64 s.code, .int .u64 s.num] 79 (0, 0)) by rw [← hwb]; exact heap_alloc_new _ _)
    have HUab := Lib.hid (hu.trans hub)
    have HUbb := Lib.hid (Upd.refl NoB wb)
    obtain ⟨b0, b1⟩ := hcell.out NoB w1 hu (fun h => h)
    obtain ⟨b0, b1⟩ := hcell.out NoB wb (hu.trans hub) (fun h => h)
    clear hu hub
    go_wp2_with fail
    refine (hri.out _).mono ?_
    rintro e' w2 ⟨rfl, hu⟩
    have HUb2 := Lib.hid hu
    have HU2 := Lib.hid (HUab.out.trans hu)
    obtain ⟨b0, b1⟩ := hcell.out NoB w2 HU2.out (fun h => h)
    clear hu
    go_wp2_with fail
    go_ret
    exact ⟨rfl, HK.out _ (HUa.out.trans HU2.out), (HUa.out.trans HU2.out).mono (fun _ _ h => h.elim)⟩
  simp only [Bool.true_eq_false, if_false]
  by_cases ha : a < 1
  · simp only [if_pos ha, Int.reduceEq, if_false]
    have had : decide (a < 1) = true := decide_eq_true ha
    clear ha hcs
    go_enter Try.func37, Try.ntmps37
    go_wp2_with fail
    refine (hof.out _ HUa.out).mono ?_
    rintro e' w1 ⟨oc, rfl, hu⟩
    have hz1 : w.heap.size < w1.heap.size := Nat.lt_of_lt_of_le hsz hu.size
    obtain ⟨wb, hwb⟩ : ∃ wb, w1.alloc (.cells #[.int .i64 oc, .int .u64 s.seq, .bool s.opn, .int .i64 s.at_, .int .i64 s.code, .int .u64 s.num] 79) = wb := ⟨_, rfl⟩
    have hub : Upd NoB w1 wb := by rw [← hwb]; exact (Upd.refl _ _).alloc _
    have hBs := Lib.hid (show wb.heap[w1.heap.size]? = some (.cells #[.int .i64 oc, .int .u64 s.seq, .bool s.opn, .int .i64 s.at_, .int .i64 s.code, .int .u64 s.num] 79 (0, 0)) by rw [← hwb]; exact heap_alloc_new _ _)
    have HUab := Lib.hid (hu.trans hub)
    have HUbb := Lib.hid (Upd.refl NoB wb)
    obtain ⟨b0, b1⟩ := hcell.out NoB w1 hu (fun h => h)
    obtain ⟨b0, b1⟩ := hcell.out NoB wb (hu.trans hub) (fun h => h)
    clear hu hub
    go_wp2_with fail
    refine (hri.out _).mono ?_
    rintro e' w2 ⟨rfl, hu⟩
    have HUb2 := Lib.hid hu
    have HU2 := Lib.hid (HUab.out.trans hu)
    obtain ⟨b0, b1⟩ := hcell.out NoB w2 HU2.out (fun h => h)
    clear hu
    go_wp2_with fail
    go_ret
    exact ⟨rfl, HK.out _ (HUa.out.trans HU2.out), (HUa.out.trans HU2.out).mono (fun _ _ h => h.elim)⟩
  simp only [if_neg ha]
  have had : decide (a < 1) = false := decide_eq_false ha
  clear ha
  have hob : s.opn = true ∨ s.opn = false := by cases s.opn <;> simp
  rcases hcs with rfl | rfl | rfl
  · simp only [show ¬ (0 : Int) = 2 by decide, show ¬ (0 : Int) = 1 by decide, if_false]
    rcases hob with hO | hO
    · simp only [if_pos hO, show ¬ (10 : Int) = 0 by decide, if_false]
      replace hO := Lib.hid hO
      go_enter Try.func37, Try.ntmps37
      go_wp2_with fail
      refine (hof.out _ HUa.out).mono ?_
      rintro e' w1 ⟨oc, rfl, hu⟩
      have hz1 : w.heap.size < w1.heap.size := Nat.lt_of_lt_of_le hsz hu.size
      obtain ⟨wb, hwb⟩ : ∃ wb, w1.alloc (.cells #[.int .i64 oc, .int .u64 s.seq, .bool s.opn, .int .i64 s.at_, .int .i64 s.code, .int .u64 s.num] 79) = wb := ⟨_, rfl⟩
      have hub : Upd NoB w1 wb := by rw [← hwb]; exact (Upd.refl _ _).alloc _
      have hBs := Lib.hid (show wb.heap[w1.heap.size]? = some (.cells #[.int .i64 oc, .int .u64 s.seq, .bool s.opn, .int .i64 s.at_, .int .i64 s.code, .int .u64 s.num] 79 (0, 0)) by rw [← hwb]; exact heap_alloc_new _ _)
      have HUab := Lib.hid (hu.trans hub)
      have HUbb := Lib.hid (Upd.refl NoB wb)
      obtain ⟨b0, b1⟩ := hcell.out NoB w1 hu (fun h => h)
      obtain ⟨b0, b1⟩ := hcell.out NoB wb (hu.trans hub) (fun h => h)
      clear hu hub
      go_wp2_with fail
      refine (hri.out _).mono ?_
      rintro e' w2 ⟨rfl, hu⟩
      have HUb2 := Lib.hid hu
      have HU2 := Lib.hid (HUab.out.trans hu)
      obtain ⟨b0, b1⟩ := hcell.out NoB w2 HU2.out (fun h => h)
      clear hu
      go_wp2_with fail
      refine (hho.out _ (HUa.out.trans HU2.out)).mono ?_
      rintro e' w3 ⟨rfl, hu⟩
      have HUb3 := Lib.hid (HUb2.out.trans hu)
      have HU3 := Lib.hid (HU2.out.trans hu)
      obtain ⟨b0, b1⟩ := hcell.out NoB w3 HU3.out (fun h => h)
      obtain ⟨_, _, s2, _⟩ := six_cells (HUb3.out.heap hBs.out (fun h => h))
      skip
      clear hu
      go_wp2_with fail
      refine (hho.out _ (HUa.out.trans HU3.out)).mono ?_
      rintro e' w4 ⟨rfl, hu⟩
      have HUb4 := Lib.hid (HUb3.out.trans hu)
      have HU4 := Lib.hid (HU3.out.trans hu)
      obtain ⟨b0, b1⟩ := hcell.out NoB w4 HU4.out (fun h => h)
      obtain ⟨_, _, s2, _⟩ := six_cells (HUb4.out.heap hBs.out (fun h => h))
      rw [hO.out] at s2
      clear hu
      go_wp2_with fail
      refine (hho.out _ (HUa.out.trans HU4.out)).mono ?_
      rintro e' w5 ⟨rfl, hu⟩
      have HUb5 := Lib.hid (HUb4.out.trans hu)
      have HU5 := Lib.hid (HU4.out.trans hu)
      obtain ⟨b0, b1⟩ := hcell.out NoB w5 HU5.out (fun h => h)
      obtain ⟨_, _, s2, _⟩ := six_cells (HUb5.out.heap hBs.out (fun h => h))
      rw [hO.out] at s2
      clear hu
      go_wp2_with fail
      go_ret
      exact ⟨rfl, HK.out _ (HUa.out.trans HU5.out), (HUa.out.trans HU5.out).mono (fun _ _ h => h.elim)⟩
    · have hOn : ¬ s.opn = true := by rw [hO]; simp
      simp only [if_neg hOn, if_true]
      clear hOn
      replace hO := Lib.hid hO
      go_enter Try.func37, Try.ntmps37
      go_wp2_with fail
      refine (hof.out _ HUa.out).mono ?_
      rintro e' w1 ⟨oc, rfl, hu⟩
      have hz1 : w.heap.size < w1.heap.size := Nat.lt_of_lt_of_le hsz hu.size
      obtain ⟨wb, hwb⟩ : ∃ wb, w1.alloc (.cells #[.int .i64 oc, .int .u64 s.seq, .bool s.opn, .int .i64 s.at_, .int .i64 s.code, .int .u64 s.num] 79) = wb := ⟨_, rfl⟩
      have hub : Upd NoB w1 wb := by rw [← hwb]; exact (Upd.refl _ _).alloc _
      have hBs := Lib.hid (show wb.heap[w1.heap.size]? = some (.cells #[.int .i64 oc, .int .u64 s.seq, .bool s.opn, .int .i64 s.at_, .int .i64 s.code, .int .u64 s.num] 79 (0, 0)) by rw [← hwb]; exact heap_alloc_new _ _)
      have HUab := Lib.hid (hu.trans hub)
      have HUbb := Lib.hid (Upd.refl NoB wb)
      obtain ⟨b0, b1⟩ := hcell.out NoB w1 hu (fun h => h)
      obtain ⟨b0, b1⟩ := hcell.out NoB wb (hu.trans hub) (fun h => h)
      clear hu hub
      go_wp2_with fail
      refine (hri.out _).mono ?_
      rintro e' w2 ⟨rfl, hu⟩
      have HUb2 := Lib.hid hu
      have HU2 := Lib.hid (HUab.out.trans hu)
      obtain ⟨b0, b1⟩ := hcell.out NoB w2 HU2.out (fun h => h)
      clear hu
      go_wp2_with fail
      refine (hho.out _ (HUa.out.trans HU2.out)).mono ?_
      rintro e' w3 ⟨rfl, hu⟩
      have HUb3 := Lib.hid (HUb2.out.trans hu)
      have HU3 := Lib.hid (HU2.out.trans hu)
      obtain ⟨b0, b1⟩ := hcell.out NoB w3 HU3.out (fun h => h)
      obtain ⟨_, _, s2, _⟩ := six_cells (HUb3.out.heap hBs.out (fun h => h))
      skip
      clear hu
      go_wp2_with fail
      refine (hho.out _ (HUa.out.trans HU3.out)).mono ?_
      rintro e' w4 ⟨rfl, hu⟩
      have HUb4 := Lib.hid (HUb3.out.trans hu)
      have HU4 := Lib.hid (HU3.out.trans hu)
      obtain ⟨b0, b1⟩ := hcell.out NoB w4 HU4.out (fun h => h)
      obtain ⟨_, _, s2, _⟩ := six_cells (HUb4.out.heap hBs.out (fun h => h))
      rw [hO.out] at s2
      clear hu
      go_wp2_with fail
      refine (hho.out _ (HUa.out.trans HU4.out)).mono ?_
      rintro e' w5 ⟨rfl, hu⟩
      have HUb5 := Lib.hid (HUb4.out.trans hu)
      have HU5 := Lib.hid (HU4.out.trans hu)
      obtain ⟨b0, b1⟩ := hcell.out NoB w5 HU5.out (fun h => h)
      obtain ⟨_, _, s2, _⟩ := six_cells (HUb5.out.heap hBs.out (fun h => h))
      rw [hO.out] at s2
      clear hu
      go_wp2_with fail
      have hUd := HU5.out.trans (Upd.refl NoB w5).drew
      obtain ⟨wd, hwd⟩ : ∃ wd, w5.drew = wd := ⟨_, rfl⟩
      rw [hwd] at hUd
      have HUd := Lib.hid hUd
      have hnp : ¬ (Value.slice A l.length cc).ownBlock = some p := fun e => (hown.out p e).2.2 hp
      have hns : ¬ (Value.slice A l.length cc).ownBlock = some w.heap.size := fun e => by have := (hown.out _ e).2.1; omega
      have hpc := (one_cell ((HUa.out.trans hUd).heap H1.out (fun h => h))).1
      have hic := hcell.out NoB wd hUd (fun h => h)
      have HO7 := Lib.hid (HO.out wd (HUa.out.trans hUd))
      have HB7 := Lib.hid (New.bd w0 wd xs)
      have HY := Lib.hid (show Rep.srw.rep wd NoB (c, ⟨q, false, a, code, num⟩) (#[.int .i64 c, .int .u64 q, .bool false, .int .i64 a, .int .i64 code, .int .u64 num] : Array Value).toList from rfl)
      have hall : (l.length + 1) * 48 ≤ 140737488355328 := by omega
      clear hUd
      refine sched2_begin (fun b => (Value.slice A l.length cc).ownBlock = some b) (fun b => b = p ∨ (Value.slice A l.length cc).ownBlock = some b) [17] (by kernel_rfl) ?_
      rw [hwd]
      clear hwd
      refine sched2_take 0 rfl (by kernel_rfl) (by kernel_rfl) (by kernel_rfl) (by kernel_rfl) (by kernel_rfl) (fun _ _ _ h => h) (.inl ⟨rfl, fun x hx => by go_simp; rfl⟩) ?_
      go_simp
      refine sched2_take 1 rfl (by kernel_rfl) (by kernel_rfl) (by kernel_rfl) (by kernel_rfl) (by kernel_rfl) (fun _ _ _ h => h) (.inl ⟨rfl, fun x hx => by go_simp; rfl⟩) ?_
      go_simp
      refine sched2_take 2 rfl (by kernel_rfl) (by kernel_rfl) (by kernel_rfl) (by kernel_rfl) (by kernel_rfl) (fun _ _ _ h => h) (.inl ⟨rfl, fun x hx => by go_simp; rfl⟩) ?_
      go_simp
      refine sched2_take 3 rfl (by kernel_rfl) (by kernel_rfl) (by kernel_rfl) (by kernel_rfl) (by kernel_rfl) (fun _ _ _ h => h) (.inl ⟨rfl, fun x hx => by go_simp; rfl⟩) ?_
      go_simp
      refine sched2_take 4 rfl (by kernel_rfl) (by kernel_rfl) (by kernel_rfl) (by kernel_rfl) (by kernel_rfl) (fun _ _ _ h => h) (.inl ⟨rfl, fun x hx => by have hcx := hx.cell hpc hnp; go_simp; rfl⟩) ?_
      go_simp
      refine sched2_take 5 rfl (by kernel_rfl) (by kernel_rfl) (by kernel_rfl) (by kernel_rfl) (by kernel_rfl) (fun _ _ _ h => h) (.inl ⟨rfl, fun x hx => by go_simp; rfl⟩) ?_
      go_simp
      refine sched2_take 6 rfl (by kernel_rfl) (by kernel_rfl) (by kernel_rfl) (by kernel_rfl) (by kernel_rfl) (fun _ _ _ h => h) (.inl ⟨rfl, fun x hx => by have hcx := hx.cell hic.1 hns; have hcy := hx.cell hic.2 hns; go_simp; rfl⟩) ?_
      go_simp
      refine sched2_take 7 rfl (by kernel_rfl) (by kernel_rfl) (by kernel_rfl) (by kernel_rfl) (by kernel_rfl) (fun _ _ _ h => h) (.inl ⟨rfl, fun x hx => by go_simp; rfl⟩) ?_
      go_simp
      refine sched2_take 8 rfl (by kernel_rfl) (by kernel_rfl) (by kernel_rfl) (by kernel_rfl) (by kernel_rfl) (fun _ _ _ h => h) (.inl ⟨rfl, fun x hx => by have hcx := hx.cell hic.1 hns; have hcy := hx.cell hic.2 hns; go_simp; rfl⟩) ?_
      go_simp
      refine sched2_take 9 rfl (by kernel_rfl) (by kernel_rfl) (by kernel_rfl) (by kernel_rfl) (by kernel_rfl) (fun _ _ _ h => h) (.inl ⟨rfl, fun x hx => by go_simp; rfl⟩) ?_
      go_simp
      refine sched2_take 10 rfl (by kernel_rfl) (by kernel_rfl) (by kernel_rfl) (by kernel_rfl) (by kernel_rfl) (fun _ _ _ h => h) (.inl ⟨rfl, fun x hx => by go_simp; rfl⟩) ?_
      go_simp
      refine sched2_take 11 rfl (by kernel_rfl) (by kernel_rfl) (by kernel_rfl) (by kernel_rfl) (by kernel_rfl) (fun _ _ _ h => h) (.inl ⟨rfl, fun x hx => by go_simp; rfl⟩) ?_
      go_simp
      refine sched2_take 12 rfl (by kernel_rfl) (by kernel_rfl) (by kernel_rfl) (by kernel_rfl) (by kernel_rfl) (fun _ _ _ h => h) (.inl ⟨rfl, fun x hx => by go_simp; rfl⟩) ?_
      go_simp
      refine sched2_alone 13 (by kernel_rfl) rfl rfl ?_
      go_simp
      refine ⟨both ((Upd.refl _ _).alloc _) (fun _ h => .inr h), ?_⟩
      go_simp
      refine sched2_law 14 (by kernel_rfl) rfl rfl ?_
      go_simp
      at_builtin
      refine app_one' (r := Rep.srw) (v := .slice A l.length cc) (y := (c, ⟨q, false, a, code, num⟩)) rfl _ _ 51 79 (.agg #[.int .i64 0, .int .u64 0, .bool false, .int .i64 0, .int .i64 0, .int .u64 0]) 48 rfl Try.underlying51 iSrw rfl (by decide) rfl rfl HO7.out HB7.out HY.out (fun b hb => hb.elim) hall ?_
      intro v1 w9 ho2 hu2 hu3
      refine law_done ⟨both hu3 (fun _ h => .inr h), ?_⟩
      have hwz : w.heap.size ≤ wd.heap.size := (HUa.out.trans HUd.out).size
      have HN := Lib.hid (ho2.new_app (Nat.le_trans h0 hwz) (fun x hx => Nat.lt_of_lt_of_le (hxs x hx) hwz))
      have HU9 := Lib.hid hu2
      have G1 := Lib.hid (hu2.heap ((HUa.out.trans HUd.out).heap H1.out (fun h => h)) hnp)
      obtain ⟨k0, f0⟩ := one_cell G1.out
      obtain ⟨A1, c1, _, e1, _⟩ := HN.out.read
      rw [List.length_append, List.length_singleton] at e1
      subst e1
      clear ho2 hu2 hu3
      go_simp
      refine sched2_take 15 rfl (by kernel_rfl) (by kernel_rfl) (by kernel_rfl) (by kernel_rfl) (by kernel_rfl) (fun _ _ _ h => h) (.inl ⟨rfl, fun x hx => by go_simp; rfl⟩) ?_
      go_simp
      refine sched2_take 16 rfl (by kernel_rfl) (by kernel_rfl) (by kernel_rfl) (by kernel_rfl) (by kernel_rfl) (fun _ _ _ h => h) (.inl ⟨rfl, fun x hx => by go_simp; rfl⟩) ?_
      go_simp
      refine sched2_alone 17 (by kernel_rfl) rfl rfl ?_
      go_simp
      refine ⟨⟨((Upd.refl _ w9).setCell (p := ⟨p, 0, none⟩) (fun _ => .inl rfl) _), fun hn => ?_⟩, ?_⟩
      · have := hn 17 (by simp)
        simp at this
      go_simp
      refine sched2_done (by kernel_rfl) ?_
      have G2 := Lib.hid (heap_put G1.out 0 (.slice A1 (l.length + 1) c1))
      have U10 := Lib.hid ((Upd.refl (fun b => b = p) w9).setCell (p := ⟨p, 0, none⟩) (fun _ => rfl) (.slice A1 (l.length + 1) c1))
      go_wp2_with fail
      go_ret
      refine ⟨rfl, ⟨_, by simpa using G2.out, HN.out.new_keep U10.out (fun b hb => .inl (by rw [show b = p from hb]; exact hp))⟩, ?_⟩
      refine (((HUa.out.trans HUd.out).mono (fun _ _ h => h.elim)).then HU9.out (fun i hi e => ?_)).then U10.out (fun i hi e => .inl e)
      obtain ⟨a1, a2, a3⟩ := hown.out i e
      exact .inr ⟨a1, hi, a3⟩
  · simp only [show ¬ (1 : Int) = 2 by decide, if_true, if_false, Bool.true_and]
    rcases hob with hO | hO
    · have hOn : ¬ s.opn = false := by rw [hO]; simp
      simp only [if_neg hOn, if_true]
      clear hOn
      replace hO := Lib.hid hO
      go_enter Try.func37, Try.ntmps37
      go_wp2_with fail
      refine (hof.out _ HUa.out).mono ?_
      rintro e' w1 ⟨oc, rfl, hu⟩
      have hz1 : w.heap.size < w1.heap.size := Nat.lt_of_lt_of_le hsz hu.size
      obtain ⟨wb, hwb⟩ : ∃ wb, w1.alloc (.cells #[.int .i64 oc, .int .u64 s.seq, .bool s.opn, .int .i64 s.at_, .int .i64 s.code, .int .u64 s.num] 79) = wb := ⟨_, rfl⟩
      have hub : Upd NoB w1 wb := by rw [← hwb]; exact (Upd.refl _ _).alloc _
      have hBs := Lib.hid (show wb.heap[w1.heap.size]? = some (.cells #[.int .i64 oc, .int .u64 s.seq, .bool s.opn, .int .i64 s.at_, .int .i64 s.code, .int .u64 s.num] 79 (0, 0)) by rw [← hwb]; exact heap_alloc_new _ _)
      have HUab := Lib.hid (hu.trans hub)
      have HUbb := Lib.hid (Upd.refl NoB wb)
      obtain ⟨b0, b1⟩ := hcell.out NoB w1 hu (fun h => h)
      obtain ⟨b0, b1⟩ := hcell.out NoB wb (hu.trans hub) (fun h => h)
      clear hu hub
      go_wp2_with fail
      refine (hri.out _).mono ?_
      rintro e' w2 ⟨rfl, hu⟩
      have HUb2 := Lib.hid hu
      have HU2 := Lib.hid (HUab.out.trans hu)
      obtain ⟨b0, b1⟩ := hcell.out NoB w2 HU2.out (fun h => h)
      clear hu
      go_wp2_with fail
      refine (hho.out _ (HUa.out.trans HU2.out)).mono ?_
      rintro e' w3 ⟨rfl, hu⟩
      have HUb3 := Lib.hid (HUb2.out.trans hu)
      have HU3 := Lib.hid (HU2.out.trans hu)
      obtain ⟨b0, b1⟩ := hcell.out NoB w3 HU3.out (fun h => h)
      obtain ⟨_, _, s2, _⟩ := six_cells (HUb3.out.heap hBs.out (fun h => h))
      skip
      clear hu
      go_wp2_with fail
      refine (hho.out _ (HUa.out.trans HU3.out)).mono ?_
      rintro e' w4 ⟨rfl, hu⟩
      have HUb4 := Lib.hid (HUb3.out.trans hu)
      have HU4 := Lib.hid (HU3.out.trans hu)
      obtain ⟨b0, b1⟩ := hcell.out NoB w4 HU4.out (fun h => h)
      obtain ⟨_, _, s2, _⟩ := six_cells (HUb4.out.heap hBs.out (fun h => h))
      rw [hO.out] at s2
      clear hu
      go_wp2_with fail
      refine (hho.out _ (HUa.out.trans HU4.out)).mono ?_
      rintro e' w5 ⟨rfl, hu⟩
      have HUb5 := Lib.hid (HUb4.out.trans hu)
      have HU5 := Lib.hid (HU4.out.trans hu)
      obtain ⟨b0, b1⟩ := hcell.out NoB w5 HU5.out (fun h => h)
      obtain ⟨_, _, s2, _⟩ := six_cells (HUb5.out.heap hBs.out (fun h => h))
      rw [hO.out] at s2
      clear hu
      go_wp2_with fail
      have hUd := HU5.out.trans (Upd.refl NoB w5).drew
      obtain ⟨wd, hwd⟩ : ∃ wd, w5.drew = wd := ⟨_, rfl⟩
      rw [hwd] at hUd
      have HUd := Lib.hid hUd
      have hnp : ¬ (Value.slice A l.length cc).ownBlock = some p := fun e => (hown.out p e).2.2 hp
      have hns : ¬ (Value.slice A l.length cc).ownBlock = some w.heap.size := fun e => by have := (hown.out _ e).2.1; omega
      have hpc := (one_cell ((HUa.out.trans hUd).heap H1.out (fun h => h))).1
      have hic := hcell.out NoB wd hUd (fun h => h)
      have HO7 := Lib.hid (HO.out wd (HUa.out.trans hUd))
      have HB7 := Lib.hid (New.bd w0 wd xs)
      have HY := Lib.hid (show Rep.srw.rep wd NoB (c, ⟨q, false, a, code, num⟩) (#[.int .i64 c, .int .u64 q, .bool false, .int .i64 a, .int .i64 code, .int .u64 num] : Array Value).toList from rfl)
      have hall : (l.length + 1) * 48 ≤ 140737488355328 := by omega
      clear hUd
      refine sched2_begin (fun b => (Value.slice A l.length cc).ownBlock = some b) (fun b => b = p ∨ (Value.slice A l.length cc).ownBlock = some b) [17] (by kernel_rfl) ?_
      rw [hwd]
      clear hwd
      refine sched2_take 0 rfl (by kernel_rfl) (by kernel_rfl) (by kernel_rfl) (by kernel_rfl) (by kernel_rfl) (fun _ _ _ h => h) (.inl ⟨rfl, fun x hx => by go_simp; rfl⟩) ?_
      go_simp
      refine sched2_take 1 rfl (by kernel_rfl) (by kernel_rfl) (by kernel_rfl) (by kernel_rfl) (by kernel_rfl) (fun _ _ _ h => h) (.inl ⟨rfl, fun x hx => by go_simp; rfl⟩) ?_
      go_simp
      refine sched2_take 2 rfl (by kernel_rfl) (by kernel_rfl) (by kernel_rfl) (by kernel_rfl) (by kernel_rfl) (fun _ _ _ h => h) (.inl ⟨rfl, fun x hx => by go_simp; rfl⟩) ?_
      go_simp
      refine sched2_take 3 rfl (by kernel_rfl) (by kernel_rfl) (by kernel_rfl) (by kernel_rfl) (by kernel_rfl) (fun _ _ _ h => h) (.inl ⟨rfl, fun x hx => by go_simp; rfl⟩) ?_
      go_simp
      refine sched2_take 4 rfl (by kernel_rfl) (by kernel_rfl) (by kernel_rfl) (by kernel_rfl) (by kernel_rfl) (fun _ _ _ h => h) (.inl ⟨rfl, fun x hx => by have hcx := hx.cell hpc hnp; go_simp; rfl⟩) ?_
      go_simp
      refine sched2_take 5 rfl (by kernel_rfl) (by kernel_rfl) (by kernel_rfl) (by kernel_rfl) (by kernel_rfl) (fun _ _ _ h => h) (.inl ⟨rfl, fun x hx => by go_simp; rfl⟩) ?_
      go_simp
      refine sched2_take 6 rfl (by kernel_rfl) (by kernel_rfl) (by kernel_rfl) (by kernel_rfl) (by kernel_rfl) (fun _ _ _ h => h) (.inl ⟨rfl, fun x hx => by have hcx := hx.cell hic.1 hns; have hcy := hx.cell hic.2 hns; go_simp; rfl⟩) ?_
      go_simp
      refine sched2_take 7 rfl (by kernel_rfl) (by kernel_rfl) (by kernel_rfl) (by kernel_rfl) (by kernel_rfl) (fun _ _ _ h => h) (.inl ⟨rfl, fun x hx => by go_simp; rfl⟩) ?_
      go_simp
      refine sched2_take 8 rfl (by kernel_rfl) (by kernel_rfl) (by kernel_rfl) (by kernel_rfl) (by kernel_rfl) (fun _ _ _ h => h) (.inl ⟨rfl, fun x hx => by have hcx := hx.cell hic.1 hns; have hcy := hx.cell hic.2 hns; go_simp; rfl⟩) ?_
      go_simp
      refine sched2_take 9 rfl (by kernel_rfl) (by kernel_rfl) (by kernel_rfl) (by kernel_rfl) (by kernel_rfl) (fun _ _ _ h => h) (.inl ⟨rfl, fun x hx => by go_simp; rfl⟩) ?_
      go_simp
      refine sched2_take 10 rfl (by kernel_rfl) (by kernel_rfl) (by kernel_rfl) (by kernel_rfl) (by kernel_rfl) (fun _ _ _ h => h) (.inl ⟨rfl, fun x hx => by go_simp; rfl⟩) ?_
      go_simp
      refine sched2_take 11 rfl (by kernel_rfl) (by kernel_rfl) (by kernel_rfl) (by kernel_rfl) (by kernel_rfl) (fun _ _ _ h => h) (.inl ⟨rfl, fun x hx => by go_simp; rfl⟩) ?_
      go_simp
      refine sched2_take 12 rfl (by kernel_rfl) (by kernel_rfl) (by kernel_rfl) (by kernel_rfl) (by kernel_rfl) (fun _ _ _ h => h) (.inl ⟨rfl, fun x hx => by go_simp; rfl⟩) ?_
      go_simp
      refine sched2_alone 13 (by kernel_rfl) rfl rfl ?_
      go_simp
      refine ⟨both ((Upd.refl _ _).alloc _) (fun _ h => .inr h), ?_⟩
      go_simp
      refine sched2_law 14 (by kernel_rfl) rfl rfl ?_
      go_simp
      at_builtin
      refine app_one' (r := Rep.srw) (v := .slice A l.length cc) (y := (c, ⟨q, false, a, code, num⟩)) rfl _ _ 51 79 (.agg #[.int .i64 0, .int .u64 0, .bool false, .int .i64 0, .int .i64 0, .int .u64 0]) 48 rfl Try.underlying51 iSrw rfl (by decide) rfl rfl HO7.out HB7.out HY.out (fun b hb => hb.elim) hall ?_
      intro v1 w9 ho2 hu2 hu3
      refine law_done ⟨both hu3 (fun _ h => .inr h), ?_⟩
      have hwz : w.heap.size ≤ wd.heap.size := (HUa.out.trans HUd.out).size
      have HN := Lib.hid (ho2.new_app (Nat.le_trans h0 hwz) (fun x hx => Nat.lt_of_lt_of_le (hxs x hx) hwz))
      have HU9 := Lib.hid hu2
      have G1 := Lib.hid (hu2.heap ((HUa.out.trans HUd.out).heap H1.out (fun h => h)) hnp)
      obtain ⟨k0, f0⟩ := one_cell G1.out
      obtain ⟨A1, c1, _, e1, _⟩ := HN.out.read
      rw [List.length_append, List.length_singleton] at e1
      subst e1
      clear ho2 hu2 hu3
      go_simp
      refine sched2_take 15 rfl (by kernel_rfl) (by kernel_rfl) (by kernel_rfl) (by kernel_rfl) (by kernel_rfl) (fun _ _ _ h => h) (.inl ⟨rfl, fun x hx => by go_simp; rfl⟩) ?_
      go_simp
      refine sched2_take 16 rfl (by kernel_rfl) (by kernel_rfl) (by kernel_rfl) (by kernel_rfl) (by kernel_rfl) (fun _ _ _ h => h) (.inl ⟨rfl, fun x hx => by go_simp; rfl⟩) ?_
      go_simp
      refine sched2_alone 17 (by kernel_rfl) rfl rfl ?_
      go_simp
      refine ⟨⟨((Upd.refl _ w9).setCell (p := ⟨p, 0, none⟩) (fun _ => .inl rfl) _), fun hn => ?_⟩, ?_⟩
      · have := hn 17 (by simp)
        simp at this
      go_simp
      refine sched2_done (by kernel_rfl) ?_
      have G2 := Lib.hid (heap_put G1.out 0 (.slice A1 (l.length + 1) c1))
      have U10 := Lib.hid ((Upd.refl (fun b => b = p) w9).setCell (p := ⟨p, 0, none⟩) (fun _ => rfl) (.slice A1 (l.length + 1) c1))
      go_wp2_with fail
      go_ret
      refine ⟨rfl, ⟨_, by simpa using G2.out, HN.out.new_keep U10.out (fun b hb => .inl (by rw [show b = p from hb]; exact hp))⟩, ?_⟩
      refine (((HUa.out.trans HUd.out).mono (fun _ _ h => h.elim)).then HU9.out (fun i hi e => ?_)).then U10.out (fun i hi e => .inl e)
      obtain ⟨a1, a2, a3⟩ := hown.out i e
      exact .inr ⟨a1, hi, a3⟩
    · simp only [if_pos hO, show ¬ (7 : Int) = 0 by decide, if_false]
      replace hO := Lib.hid hO
      go_enter Try.func37, Try.ntmps37
      go_wp2_with fail
      refine (hof.out _ HUa.out).mono ?_
      rintro e' w1 ⟨oc, rfl, hu⟩
      have hz1 : w.heap.size < w1.heap.size := Nat.lt_of_lt_of_le hsz hu.size
      obtain ⟨wb, hwb⟩ : ∃ wb, w1.alloc (.cells #[.int .i64 oc, .int .u64 s.seq, .bool s.opn, .int .i64 s.at_, .int .i64 s.code, .int .u64 s.num] 79) = wb := ⟨_, rfl⟩
      have hub : Upd NoB w1 wb := by rw [← hwb]; exact (Upd.refl _ _).alloc _
      have hBs := Lib.hid (show wb.heap[w1.heap.size]? = some (.cells #[.int .i64 oc, .int .u64 s.seq, .bool s.opn, .int .i64 s.at_, .int .i64 s.code, .int .u64 s.num] 79 (0, 0)) by rw [← hwb]; exact heap_alloc_new _ _)
      have HUab := Lib.hid (hu.trans hub)
      have HUbb := Lib.hid (Upd.refl NoB wb)
      obtain ⟨b0, b1⟩ := hcell.out NoB w1 hu (fun h => h)
      obtain ⟨b0, b1⟩ := hcell.out NoB wb (hu.trans hub) (fun h => h)
      clear hu hub
      go_wp2_with fail
      refine (hri.out _).mono ?_
      rintro e' w2 ⟨rfl, hu⟩
      have HUb2 := Lib.hid hu
      have HU2 := Lib.hid (HUab.out.trans hu)
      obtain ⟨b0, b1⟩ := hcell.out NoB w2 HU2.out (fun h => h)
      clear hu
      go_wp2_with fail
      refine (hho.out _ (HUa.out.trans HU2.out)).mono ?_
      rintro e' w3 ⟨rfl, hu⟩
      have HUb3 := Lib.hid (HUb2.out.trans hu)
      have HU3 := Lib.hid (HU2.out.trans hu)
      obtain ⟨b0, b1⟩ := hcell.out NoB w3 HU3.out (fun h => h)
      obtain ⟨_, _, s2, _⟩ := six_cells (HUb3.out.heap hBs.out (fun h => h))
      skip
      clear hu
      go_wp2_with fail
      refine (hho.out _ (HUa.out.trans HU3.out)).mono ?_
      rintro e' w4 ⟨rfl, hu⟩
      have HUb4 := Lib.hid (HUb3.out.trans hu)
      have HU4 := Lib.hid (HU3.out.trans hu)
      obtain ⟨b0, b1⟩ := hcell.out NoB w4 HU4.out (fun h => h)
      obtain ⟨_, _, s2, _⟩ := six_cells (HUb4.out.heap hBs.out (fun h => h))
      rw [hO.out] at s2
      clear hu
      go_wp2_with fail
      go_ret
      exact ⟨rfl, HK.out _ (HUa.out.trans HU4.out), (HUa.out.trans HU4.out).mono (fun _ _ h => h.elim)⟩
  · simp only [if_true, Int.reduceEq, if_false]
    go_enter Try.func37, Try.ntmps37
    go_wp2_with fail
    refine (hof.out _ HUa.out).mono ?_
    rintro e' w1 ⟨oc, rfl, hu⟩
    have hz1 : w.heap.size < w1.heap.size := Nat.lt_of_lt_of_le hsz hu.size
    obtain ⟨wb, hwb⟩ : ∃ wb, w1.alloc (.cells #[.int .i64 oc, .int .u64 s.seq, .bool s.opn, .int .i64 s.at_, .int .i64 s.code, .int .u64 s.num] 79) = wb := ⟨_, rfl⟩
    have hub : Upd NoB w1 wb := by rw [← hwb]; exact (Upd.refl _ _).alloc _
    have hBs := Lib.hid (show wb.heap[w1.heap.size]? = some (.cells #[.int .i64 oc, .int .u64 s.seq, .bool s.opn, .int .i64 s.at_, .int .i64 s.code, .int .u64 s.num] 79 (0, 0)) by rw [← hwb]; exact heap_alloc_new _ _)
    have HUab := Lib.hid (hu.trans hub)
    have HUbb := Lib.hid (Upd.refl NoB wb)
    obtain ⟨b0, b1⟩ := hcell.out NoB w1 hu (fun h => h)
    obtain ⟨b0, b1⟩ := hcell.out NoB wb (hu.trans hub) (fun h => h)
    clear hu hub
    go_wp2_with fail
    refine (hri.out _).mono ?_
    rintro e' w2 ⟨rfl, hu⟩
    have HUb2 := Lib.hid hu
    have HU2 := Lib.hid (HUab.out.trans hu)
    obtain ⟨b0, b1⟩ := hcell.out NoB w2 HU2.out (fun h => h)
    clear hu
    go_wp2_with fail
    refine (hho.out _ (HUa.out.trans HU2.out)).mono ?_
    rintro e' w3 ⟨rfl, hu⟩
    have HUb3 := Lib.hid (HUb2.out.trans hu)
    have HU3 := Lib.hid (HU2.out.trans hu)
    obtain ⟨b0, b1⟩ := hcell.out NoB w3 HU3.out (fun h => h)
    obtain ⟨_, _, s2, _⟩ := six_cells (HUb3.out.heap hBs.out (fun h => h))
    skip
    clear hu
    go_wp2_with fail
    go_ret
    exact ⟨rfl, HK.out _ (HUa.out.trans HU3.out), (HUa.out.trans HU3.out).mono (fun _ _ h => h.elim)⟩
end Go.Proofs.Ytmcpcladjfddmaa
