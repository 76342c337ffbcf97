/- A table of slots, function by function (3): what is opened, and done. -/
import Derived.Test.YtmcpcladjfddmaaSess2
namespace Go.Proofs.Ytmcpcladjfddmaa
open Go.RowKit Kit
set_option linter.unusedVariables false

/-- Can an ID's slot be opened, or (with e) be done? -/
def Tab.may (m : Tab) (c q a : Int) (e : Bool) : Int :=
  if rightID c q = false then 1
  else if a < 1 then 1
  else if m.how c q = 2 then 13
  else if m.how c q = 1 then (if (e && (m.get c).opn) = false then 7 else 0)
  else if (m.get c).opn = true then 10 else 0
theorem how_cases (m : Tab) (c q : Int) : m.how c q = 0 ∨ m.how c q = 1 ∨ m.how c q = 2 := by
  unfold Tab.how
  split
  · split
    · exact .inr (.inl rfl)
    · split
      · exact .inr (.inr rfl)
      · exact .inl rfl
  · exact .inl rfl
set_option maxHeartbeats 4000000 in
set_option maxRecDepth 100000 in
theorem may_any (p b : Nat) (m : Tab) (c q a : Int) (e : Bool) (w : World) (h : Tbl w p b m) (hc : (Lit.int .i64 c).wf = true) :
    Calls Try.prog 39 #[.pointer (some ⟨p, 0, none⟩), .agg #[.int .i64 c, .int .u64 q], .int .i64 a, .bool e] w fun e' w' => e' = .returned (.int .i64 (m.may c q a e)) ∧ Upd NoB w w' := by
  obtain ⟨wa, hwa⟩ : ∃ wa, w.alloc (.cells #[.int .i64 c, .int .u64 q] 47) = wa := ⟨_, rfl⟩
  have hua : Upd NoB w wa := by rw [← hwa]; exact (Upd.refl _ _).alloc _
  have hB : wa.heap[w.heap.size]? = some (.cells #[.int .i64 c, .int .u64 q] 47 (0, 0)) := by rw [← hwa]; exact heap_alloc_new _ _
  have hcell := Lib.hid (fun x (hx : Upd NoB wa x) => two_cells (hx.heap hB (fun h => h)))
  have hof := Lib.hid (fun w1 (hu : Upd NoB w w1) => of_any p b m c w1 (h.keep hu (fun h => h) (fun h => h)) hc)
  have hho := Lib.hid (fun w1 (hu : Upd NoB w w1) => how_any p b m c q w1 (h.keep hu (fun h => h) (fun h => h)) hc)
  have hri := Lib.hid (fun w1 => rightid_any c q w1)
  obtain ⟨b0, b1⟩ := hcell.out wa (Upd.refl _ _)
  have HUa := Lib.hid hua
  have hsz : w.heap.size < wa.heap.size := lt_of_heap hB
  have hcs := how_cases m c q
  clear hua hB h
  unfold Tab.may
  generalize m.how c q = Ho at *
  generalize m.get c = s at *
  generalize (m.f c).isSome = B at *
  generalize rightID c q = R at *
  cases R
  · simp only [if_true]
    clear hcs
    go_enter Try.func39, Try.ntmps39
    go_wp2_with fail
    refine (hof.out _ HUa.out).mono ?_
    rintro e' w1 ⟨rfl, hu⟩
    obtain ⟨b0, b1⟩ := hcell.out w1 hu
    have hz1 : w.heap.size < w1.heap.size := Nat.lt_of_lt_of_le hsz hu.size
    obtain ⟨wb, hwb⟩ : ∃ wb, w1.alloc (.cells #[.int .u64 s.seq, .bool s.opn, .int .i64 s.at_, .int .i64 s.code, .int .u64 s.num] 61) = wb := ⟨_, rfl⟩
    have hub : Upd NoB w1 wb := by rw [← hwb]; exact (Upd.refl _ _).alloc _
    have hBs := Lib.hid (show wb.heap[w1.heap.size]? = some (.cells #[.int .u64 s.seq, .bool s.opn, .int .i64 s.at_, .int .i64 s.code, .int .u64 s.num] 61 (0, 0)) by rw [← hwb]; exact heap_alloc_new _ _)
    obtain ⟨b0, b1⟩ := hcell.out wb (hu.trans hub)
    have HUab := Lib.hid (hu.trans hub)
    have HUb := Lib.hid (HUa.out.trans (hu.trans hub))
    clear hu hub
    go_wp2_with fail
    refine (hho.out _ HUb.out).mono ?_
    rintro e' w2 ⟨rfl, hu⟩
    obtain ⟨b0, b1⟩ := hcell.out w2 (HUab.out.trans hu)
    have HU2 := Lib.hid (HUb.out.trans hu)
    have HUb2 := Lib.hid hu
    have HUa2 := Lib.hid (HUab.out.trans hu)
    clear hu
    go_wp2_with fail
    refine (hri.out _).mono ?_
    rintro e' w3 ⟨rfl, hu⟩
    obtain ⟨b0, b1⟩ := hcell.out w3 (HUa2.out.trans hu)
    have HU3 := Lib.hid (HU2.out.trans hu)
    obtain ⟨_, s1, _⟩ := five_cells ((HUb2.out.trans hu).heap hBs.out (fun h => h))
    skip
    clear hu
    go_wp2_with fail
    go_ret
    exact ⟨rfl, HU3.out⟩
  simp only [Bool.true_eq_false, if_false]
  by_cases ha : a < 1
  · rw [if_pos ha]
    have had : decide (a < 1) = true := decide_eq_true ha
    clear ha hcs
    go_enter Try.func39, Try.ntmps39
    go_wp2_with fail
    refine (hof.out _ HUa.out).mono ?_
    rintro e' w1 ⟨rfl, hu⟩
    obtain ⟨b0, b1⟩ := hcell.out w1 hu
    have hz1 : w.heap.size < w1.heap.size := Nat.lt_of_lt_of_le hsz hu.size
    obtain ⟨wb, hwb⟩ : ∃ wb, w1.alloc (.cells #[.int .u64 s.seq, .bool s.opn, .int .i64 s.at_, .int .i64 s.code, .int .u64 s.num] 61) = wb := ⟨_, rfl⟩
    have hub : Upd NoB w1 wb := by rw [← hwb]; exact (Upd.refl _ _).alloc _
    have hBs := Lib.hid (show wb.heap[w1.heap.size]? = some (.cells #[.int .u64 s.seq, .bool s.opn, .int .i64 s.at_, .int .i64 s.code, .int .u64 s.num] 61 (0, 0)) by rw [← hwb]; exact heap_alloc_new _ _)
    obtain ⟨b0, b1⟩ := hcell.out wb (hu.trans hub)
    have HUab := Lib.hid (hu.trans hub)
    have HUb := Lib.hid (HUa.out.trans (hu.trans hub))
    clear hu hub
    go_wp2_with fail
    refine (hho.out _ HUb.out).mono ?_
    rintro e' w2 ⟨rfl, hu⟩
    obtain ⟨b0, b1⟩ := hcell.out w2 (HUab.out.trans hu)
    have HU2 := Lib.hid (HUb.out.trans hu)
    have HUb2 := Lib.hid hu
    have HUa2 := Lib.hid (HUab.out.trans hu)
    clear hu
    go_wp2_with fail
    refine (hri.out _).mono ?_
    rintro e' w3 ⟨rfl, hu⟩
    obtain ⟨b0, b1⟩ := hcell.out w3 (HUa2.out.trans hu)
    have HU3 := Lib.hid (HU2.out.trans hu)
    obtain ⟨_, s1, _⟩ := five_cells ((HUb2.out.trans hu).heap hBs.out (fun h => h))
    skip
    clear hu
    go_wp2_with fail
    go_ret
    exact ⟨rfl, HU3.out⟩
  rw [if_neg ha]
  have had : decide (a < 1) = false := decide_eq_false ha
  clear ha
  have hob : s.opn = true ∨ s.opn = false := by cases s.opn <;> simp
  rcases hcs with rfl | rfl | rfl
  · simp only [show ¬ (0 : Int) = 2 by decide, show ¬ (0 : Int) = 1 by decide, if_false]
    rcases hob with hO | hO
    · rw [if_pos hO]
      replace hO := Lib.hid hO
      go_enter Try.func39, Try.ntmps39
      go_wp2_with fail
      refine (hof.out _ HUa.out).mono ?_
      rintro e' w1 ⟨rfl, hu⟩
      obtain ⟨b0, b1⟩ := hcell.out w1 hu
      have hz1 : w.heap.size < w1.heap.size := Nat.lt_of_lt_of_le hsz hu.size
      obtain ⟨wb, hwb⟩ : ∃ wb, w1.alloc (.cells #[.int .u64 s.seq, .bool s.opn, .int .i64 s.at_, .int .i64 s.code, .int .u64 s.num] 61) = wb := ⟨_, rfl⟩
      have hub : Upd NoB w1 wb := by rw [← hwb]; exact (Upd.refl _ _).alloc _
      have hBs := Lib.hid (show wb.heap[w1.heap.size]? = some (.cells #[.int .u64 s.seq, .bool s.opn, .int .i64 s.at_, .int .i64 s.code, .int .u64 s.num] 61 (0, 0)) by rw [← hwb]; exact heap_alloc_new _ _)
      obtain ⟨b0, b1⟩ := hcell.out wb (hu.trans hub)
      have HUab := Lib.hid (hu.trans hub)
      have HUb := Lib.hid (HUa.out.trans (hu.trans hub))
      clear hu hub
      go_wp2_with fail
      refine (hho.out _ HUb.out).mono ?_
      rintro e' w2 ⟨rfl, hu⟩
      obtain ⟨b0, b1⟩ := hcell.out w2 (HUab.out.trans hu)
      have HU2 := Lib.hid (HUb.out.trans hu)
      have HUb2 := Lib.hid hu
      have HUa2 := Lib.hid (HUab.out.trans hu)
      clear hu
      go_wp2_with fail
      refine (hri.out _).mono ?_
      rintro e' w3 ⟨rfl, hu⟩
      obtain ⟨b0, b1⟩ := hcell.out w3 (HUa2.out.trans hu)
      have HU3 := Lib.hid (HU2.out.trans hu)
      obtain ⟨_, s1, _⟩ := five_cells ((HUb2.out.trans hu).heap hBs.out (fun h => h))
      rw [hO.out] at s1
      clear hu
      go_wp2_with fail
      go_ret
      exact ⟨rfl, HU3.out⟩
    · rw [if_neg (by rw [hO]; simp)]
      replace hO := Lib.hid hO
      go_enter Try.func39, Try.ntmps39
      go_wp2_with fail
      refine (hof.out _ HUa.out).mono ?_
      rintro e' w1 ⟨rfl, hu⟩
      obtain ⟨b0, b1⟩ := hcell.out w1 hu
      have hz1 : w.heap.size < w1.heap.size := Nat.lt_of_lt_of_le hsz hu.size
      obtain ⟨wb, hwb⟩ : ∃ wb, w1.alloc (.cells #[.int .u64 s.seq, .bool s.opn, .int .i64 s.at_, .int .i64 s.code, .int .u64 s.num] 61) = wb := ⟨_, rfl⟩
      have hub : Upd NoB w1 wb := by rw [← hwb]; exact (Upd.refl _ _).alloc _
      have hBs := Lib.hid (show wb.heap[w1.heap.size]? = some (.cells #[.int .u64 s.seq, .bool s.opn, .int .i64 s.at_, .int .i64 s.code, .int .u64 s.num] 61 (0, 0)) by rw [← hwb]; exact heap_alloc_new _ _)
      obtain ⟨b0, b1⟩ := hcell.out wb (hu.trans hub)
      have HUab := Lib.hid (hu.trans hub)
      have HUb := Lib.hid (HUa.out.trans (hu.trans hub))
      clear hu hub
      go_wp2_with fail
      refine (hho.out _ HUb.out).mono ?_
      rintro e' w2 ⟨rfl, hu⟩
      obtain ⟨b0, b1⟩ := hcell.out w2 (HUab.out.trans hu)
      have HU2 := Lib.hid (HUb.out.trans hu)
      have HUb2 := Lib.hid hu
      have HUa2 := Lib.hid (HUab.out.trans hu)
      clear hu
      go_wp2_with fail
      refine (hri.out _).mono ?_
      rintro e' w3 ⟨rfl, hu⟩
      obtain ⟨b0, b1⟩ := hcell.out w3 (HUa2.out.trans hu)
      have HU3 := Lib.hid (HU2.out.trans hu)
      obtain ⟨_, s1, _⟩ := five_cells ((HUb2.out.trans hu).heap hBs.out (fun h => h))
      rw [hO.out] at s1
      clear hu
      go_wp2_with fail
      go_ret
      exact ⟨rfl, HU3.out⟩
  · simp only [show ¬ (1 : Int) = 2 by decide, if_true, if_false]
    rcases hob with hO | hO
    · cases e
      · rw [if_pos (by rfl)]
        replace hO := Lib.hid hO
        go_enter Try.func39, Try.ntmps39
        go_wp2_with fail
        refine (hof.out _ HUa.out).mono ?_
        rintro e' w1 ⟨rfl, hu⟩
        obtain ⟨b0, b1⟩ := hcell.out w1 hu
        have hz1 : w.heap.size < w1.heap.size := Nat.lt_of_lt_of_le hsz hu.size
        obtain ⟨wb, hwb⟩ : ∃ wb, w1.alloc (.cells #[.int .u64 s.seq, .bool s.opn, .int .i64 s.at_, .int .i64 s.code, .int .u64 s.num] 61) = wb := ⟨_, rfl⟩
        have hub : Upd NoB w1 wb := by rw [← hwb]; exact (Upd.refl _ _).alloc _
        have hBs := Lib.hid (show wb.heap[w1.heap.size]? = some (.cells #[.int .u64 s.seq, .bool s.opn, .int .i64 s.at_, .int .i64 s.code, .int .u64 s.num] 61 (0, 0)) by rw [← hwb]; exact heap_alloc_new _ _)
        obtain ⟨b0, b1⟩ := hcell.out wb (hu.trans hub)
        have HUab := Lib.hid (hu.trans hub)
        have HUb := Lib.hid (HUa.out.trans (hu.trans hub))
        clear hu hub
        go_wp2_with fail
        refine (hho.out _ HUb.out).mono ?_
        rintro e' w2 ⟨rfl, hu⟩
        obtain ⟨b0, b1⟩ := hcell.out w2 (HUab.out.trans hu)
        have HU2 := Lib.hid (HUb.out.trans hu)
        have HUb2 := Lib.hid hu
        have HUa2 := Lib.hid (HUab.out.trans hu)
        clear hu
        go_wp2_with fail
        refine (hri.out _).mono ?_
        rintro e' w3 ⟨rfl, hu⟩
        obtain ⟨b0, b1⟩ := hcell.out w3 (HUa2.out.trans hu)
        have HU3 := Lib.hid (HU2.out.trans hu)
        obtain ⟨_, s1, _⟩ := five_cells ((HUb2.out.trans hu).heap hBs.out (fun h => h))
        rw [hO.out] at s1
        clear hu
        go_wp2_with fail
        go_ret
        exact ⟨rfl, HU3.out⟩
      · rw [if_neg (by rw [hO]; simp)]
        replace hO := Lib.hid hO
        go_enter Try.func39, Try.ntmps39
        go_wp2_with fail
        refine (hof.out _ HUa.out).mono ?_
        rintro e' w1 ⟨rfl, hu⟩
        obtain ⟨b0, b1⟩ := hcell.out w1 hu
        have hz1 : w.heap.size < w1.heap.size := Nat.lt_of_lt_of_le hsz hu.size
        obtain ⟨wb, hwb⟩ : ∃ wb, w1.alloc (.cells #[.int .u64 s.seq, .bool s.opn, .int .i64 s.at_, .int .i64 s.code, .int .u64 s.num] 61) = wb := ⟨_, rfl⟩
        have hub : Upd NoB w1 wb := by rw [← hwb]; exact (Upd.refl _ _).alloc _
        have hBs := Lib.hid (show wb.heap[w1.heap.size]? = some (.cells #[.int .u64 s.seq, .bool s.opn, .int .i64 s.at_, .int .i64 s.code, .int .u64 s.num] 61 (0, 0)) by rw [← hwb]; exact heap_alloc_new _ _)
        obtain ⟨b0, b1⟩ := hcell.out wb (hu.trans hub)
        have HUab := Lib.hid (hu.trans hub)
        have HUb := Lib.hid (HUa.out.trans (hu.trans hub))
        clear hu hub
        go_wp2_with fail
        refine (hho.out _ HUb.out).mono ?_
        rintro e' w2 ⟨rfl, hu⟩
        obtain ⟨b0, b1⟩ := hcell.out w2 (HUab.out.trans hu)
        have HU2 := Lib.hid (HUb.out.trans hu)
        have HUb2 := Lib.hid hu
        have HUa2 := Lib.hid (HUab.out.trans hu)
        clear hu
        go_wp2_with fail
        refine (hri.out _).mono ?_
        rintro e' w3 ⟨rfl, hu⟩
        obtain ⟨b0, b1⟩ := hcell.out w3 (HUa2.out.trans hu)
        have HU3 := Lib.hid (HU2.out.trans hu)
        obtain ⟨_, s1, _⟩ := five_cells ((HUb2.out.trans hu).heap hBs.out (fun h => h))
        rw [hO.out] at s1
        clear hu
        go_wp2_with fail
        go_ret
        exact ⟨rfl, HU3.out⟩
    · rw [if_pos (by rw [hO]; simp)]
      replace hO := Lib.hid hO
      cases e
      all_goals
        go_enter Try.func39, Try.ntmps39
        go_wp2_with fail
        refine (hof.out _ HUa.out).mono ?_
        rintro e' w1 ⟨rfl, hu⟩
        obtain ⟨b0, b1⟩ := hcell.out w1 hu
        have hz1 : w.heap.size < w1.heap.size := Nat.lt_of_lt_of_le hsz hu.size
        obtain ⟨wb, hwb⟩ : ∃ wb, w1.alloc (.cells #[.int .u64 s.seq, .bool s.opn, .int .i64 s.at_, .int .i64 s.code, .int .u64 s.num] 61) = wb := ⟨_, rfl⟩
        have hub : Upd NoB w1 wb := by rw [← hwb]; exact (Upd.refl _ _).alloc _
        have hBs := Lib.hid (show wb.heap[w1.heap.size]? = some (.cells #[.int .u64 s.seq, .bool s.opn, .int .i64 s.at_, .int .i64 s.code, .int .u64 s.num] 61 (0, 0)) by rw [← hwb]; exact heap_alloc_new _ _)
        obtain ⟨b0, b1⟩ := hcell.out wb (hu.trans hub)
        have HUab := Lib.hid (hu.trans hub)
        have HUb := Lib.hid (HUa.out.trans (hu.trans hub))
        clear hu hub
        go_wp2_with fail
        refine (hho.out _ HUb.out).mono ?_
        rintro e' w2 ⟨rfl, hu⟩
        obtain ⟨b0, b1⟩ := hcell.out w2 (HUab.out.trans hu)
        have HU2 := Lib.hid (HUb.out.trans hu)
        have HUb2 := Lib.hid hu
        have HUa2 := Lib.hid (HUab.out.trans hu)
        clear hu
        go_wp2_with fail
        refine (hri.out _).mono ?_
        rintro e' w3 ⟨rfl, hu⟩
        obtain ⟨b0, b1⟩ := hcell.out w3 (HUa2.out.trans hu)
        have HU3 := Lib.hid (HU2.out.trans hu)
        obtain ⟨_, s1, _⟩ := five_cells ((HUb2.out.trans hu).heap hBs.out (fun h => h))
        rw [hO.out] at s1
        clear hu
        go_wp2_with fail
        go_ret
        exact ⟨rfl, HU3.out⟩
  · simp only [if_true]
    clear hob
    go_enter Try.func39, Try.ntmps39
    go_wp2_with fail
    refine (hof.out _ HUa.out).mono ?_
    rintro e' w1 ⟨rfl, hu⟩
    obtain ⟨b0, b1⟩ := hcell.out w1 hu
    have hz1 : w.heap.size < w1.heap.size := Nat.lt_of_lt_of_le hsz hu.size
    obtain ⟨wb, hwb⟩ : ∃ wb, w1.alloc (.cells #[.int .u64 s.seq, .bool s.opn, .int .i64 s.at_, .int .i64 s.code, .int .u64 s.num] 61) = wb := ⟨_, rfl⟩
    have hub : Upd NoB w1 wb := by rw [← hwb]; exact (Upd.refl _ _).alloc _
    have hBs := Lib.hid (show wb.heap[w1.heap.size]? = some (.cells #[.int .u64 s.seq, .bool s.opn, .int .i64 s.at_, .int .i64 s.code, .int .u64 s.num] 61 (0, 0)) by rw [← hwb]; exact heap_alloc_new _ _)
    obtain ⟨b0, b1⟩ := hcell.out wb (hu.trans hub)
    have HUab := Lib.hid (hu.trans hub)
    have HUb := Lib.hid (HUa.out.trans (hu.trans hub))
    clear hu hub
    go_wp2_with fail
    refine (hho.out _ HUb.out).mono ?_
    rintro e' w2 ⟨rfl, hu⟩
    obtain ⟨b0, b1⟩ := hcell.out w2 (HUab.out.trans hu)
    have HU2 := Lib.hid (HUb.out.trans hu)
    have HUb2 := Lib.hid hu
    have HUa2 := Lib.hid (HUab.out.trans hu)
    clear hu
    go_wp2_with fail
    refine (hri.out _).mono ?_
    rintro e' w3 ⟨rfl, hu⟩
    obtain ⟨b0, b1⟩ := hcell.out w3 (HUa2.out.trans hu)
    have HU3 := Lib.hid (HU2.out.trans hu)
    obtain ⟨_, s1, _⟩ := five_cells ((HUb2.out.trans hu).heap hBs.out (fun h => h))
    skip
    clear hu
    go_wp2_with fail
    go_ret
    exact ⟨rfl, HU3.out⟩
set_option maxHeartbeats 1000000 in
theorem may_nil (c q a : Int) (e : Bool) (w : World) :
    Calls Try.prog 39 #[.pointer none, .agg #[.int .i64 c, .int .u64 q], .int .i64 a, .bool e] w fun e' w' => e' = .returned (.int .i64 2) ∧ Upd NoB w w' := by
  have HUa := Lib.hid (fun o => (Upd.refl NoB w).alloc o)
  go_enter Try.func39, Try.ntmps39
  go_wp2_with fail
  go_ret
  exact ⟨rfl, HUa.out _⟩
end Go.Proofs.Ytmcpcladjfddmaa
