/- A table of slots, function by function (2): what it answers. -/
import Derived.Test.YtmcpcladjfddmaaSess1
namespace Go.Proofs.Ytmcpcladjfddmaa
open Go.RowKit Kit
set_option linter.unusedVariables false

theorem five_cells {x : World} {b : Nat} {T : TypeId} {c0 c1 c2 c3 c4 : Value} (h : x.heap[b]? = some (.cells #[c0, c1, c2, c3, c4] T (0, 0))) :
    x.cell? ⟨b, 0, none⟩ = some c0 ∧ x.cell? ⟨b, 1, none⟩ = some c1 ∧ x.cell? ⟨b, 2, none⟩ = some c2 ∧ x.cell? ⟨b, 3, none⟩ = some c3 ∧ x.cell? ⟨b, 4, none⟩ = some c4 := by
  simp [World.cell?, h]
theorem two_cells {x : World} {b : Nat} {T : TypeId} {fr : Nat × Nat} {c0 c1 : Value} (h : x.heap[b]? = some (.cells #[c0, c1] T fr)) :
    x.cell? ⟨b, 0, none⟩ = some c0 ∧ x.cell? ⟨b, 1, none⟩ = some c1 := by
  simp [World.cell?, h]
theorem Tbl.cell {w : World} {p b : Nat} {m : Tab} (h : Tbl w p b m) : w.cell? ⟨p, 0, none⟩ = some (.map (some b)) := by
  obtain ⟨D, h1, _⟩ := h
  simp [World.cell?, h1]
set_option maxHeartbeats 1000000 in
set_option maxRecDepth 100000 in
theorem newtable_any (w : World) : Calls Try.prog 24 #[] w fun e w' => ∃ p b, e = .returned (.pointer (some ⟨p, 0, none⟩)) ∧ w.heap.size ≤ p ∧ w.heap.size ≤ b ∧ Tbl w' p b Tab.new ∧ Upd NoB w w' := by
  have u := ((Upd.refl NoB w).alloc (.map #[] 0)).alloc (.cells #[.map (some w.heap.size)] 77)
  have hs : (w.alloc (.map #[] 0)).heap.size = w.heap.size + 1 := by simp
  have hn := heap_alloc_new (w.alloc (.map #[] 0)) (.cells #[.map (some w.heap.size)] 77 (0, 0))
  rw [hs] at hn
  have fin := Lib.hid (show Tbl ((w.alloc (.map #[] 0)).alloc (.cells #[.map (some w.heap.size)] 77)) (w.heap.size + 1) w.heap.size Tab.new from
    ⟨_, hn, (World.ownsMap_made w Try.prog 3 slotR).alloc _, tabD_new⟩)
  have HU := Lib.hid u
  have hmm := fun w => run_makeMap (P := Try.prog) 75 w
  clear u hs hn
  go_enter Try.func24, Try.ntmps24
  go_wp2_with fail
  go_ret
  exact ⟨_, _, rfl, by omega, Nat.le_refl _, fin.out, HU.out⟩

set_option maxHeartbeats 2000000 in
set_option maxRecDepth 100000 in
theorem of_any (p b : Nat) (m : Tab) (c : Int) (w : World) (h : Tbl w p b m) (hc : (Lit.int .i64 c).wf = true) :
    Calls Try.prog 34 #[.pointer (some ⟨p, 0, none⟩), .int .i64 c] w fun e w' => e = .returned (.tuple #[.agg #[.int .u64 (m.get c).seq, .bool (m.get c).opn, .int .i64 (m.get c).at_, .int .i64 (m.get c).code, .int .u64 (m.get c).num], .bool (m.f c).isSome]) ∧ Upd NoB w w' := by
  have hp := h.lt.1
  have c0 := h.cell
  have hl := fun o => Tbl.look (h.keep ((Upd.refl NoB w).alloc o) (fun h => h) (fun h => h)) hc
  simp only [Slot.val, Slot.cells] at hl
  generalize m.get c = s at *
  generalize (m.f c).isSome = B at *
  have HU := Lib.hid (fun o o' => ((Upd.refl NoB w).alloc o).alloc o')
  clear h
  go_enter Try.func34, Try.ntmps34
  go_wp2_with fail
  refine bodyPost_ret (v := .tuple #[.agg #[.int .u64 s.seq, .bool s.opn, .int .i64 s.at_, .int .i64 s.code, .int .u64 s.num], .bool B]) (by simp [results, Try.results34, go_sem, *]) rfl ⟨rfl, HU.out _ _⟩
set_option maxHeartbeats 1000000 in
theorem of_nil (c : Int) (w : World) :
    Calls Try.prog 34 #[.pointer none, .int .i64 c] w fun e w' => e = .returned (.tuple #[.agg #[.int .u64 0, .bool false, .int .i64 0, .int .i64 0, .int .u64 0], .bool false]) ∧ Upd NoB w w' := by
  have HU := Lib.hid (fun o => (Upd.refl NoB w).alloc o)
  go_enter Try.func34, Try.ntmps34
  go_wp2_with fail
  refine bodyPost_ret (v := .tuple #[.agg #[.int .u64 0, .bool false, .int .i64 0, .int .i64 0, .int .u64 0], .bool false]) (by simp [results, Try.results34, go_sem, *]) rfl ⟨rfl, HU.out _⟩

/-- What an ID is: 0 new, 1 the same, 2 old. -/
def Tab.how (m : Tab) (c q : Int) : Int := if (m.f c).isSome = true then (if (m.get c).seq = q then 1 else if q < (m.get c).seq then 2 else 0) else 0
set_option maxHeartbeats 2000000 in
set_option maxRecDepth 100000 in
theorem how_any (p b : Nat) (m : Tab) (c q : Int) (w : World) (h : Tbl w p b m) (hc : (Lit.int .i64 c).wf = true) :
    Calls Try.prog 27 #[.pointer (some ⟨p, 0, none⟩), .agg #[.int .i64 c, .int .u64 q]] w fun e w' => e = .returned (.int .i64 (m.how c q)) ∧ Upd NoB w w' := by
  obtain ⟨wa, hwa⟩ : ∃ wa, w.alloc (.cells #[.int .i64 c, .int .u64 q] 47) = wa := ⟨_, rfl⟩
  have hua : Upd NoB w wa := by rw [← hwa]; exact (Upd.refl _ _).alloc _
  have hB : wa.heap[w.heap.size]? = some (.cells #[.int .i64 c, .int .u64 q] 47 (0, 0)) := by rw [← hwa]; exact heap_alloc_new _ _
  have hcell := Lib.hid (fun x (hx : Upd NoB wa x) => two_cells (hx.heap hB (fun h => h)))
  have hof := Lib.hid (fun w1 (hu : Upd NoB w w1) => of_any p b m c w1 (h.keep hu (fun h => h) (fun h => h)) hc)
  obtain ⟨b0, b1⟩ := hcell.out wa (Upd.refl _ _)
  have HUa := Lib.hid hua
  have hsz : w.heap.size < wa.heap.size := lt_of_heap hB
  clear hua hB h
  unfold Tab.how
  generalize m.get c = s at *
  generalize (m.f c).isSome = B at *
  cases B
  · simp only [Bool.false_eq_true, if_false]
    go_enter Try.func27, Try.ntmps27
    go_wp2_with fail
    refine (hof.out _ HUa.out).mono ?_
    rintro e w1 ⟨rfl, hu⟩
    obtain ⟨b0, b1⟩ := hcell.out w1 hu
    have hz1 : w.heap.size < w1.heap.size := Nat.lt_of_lt_of_le hsz hu.size
    have HU1 := Lib.hid (fun o => (HUa.out.trans hu).alloc o)
    clear hu
    go_wp2_with fail
    go_ret
    exact ⟨rfl, HU1.out _⟩
  · simp only [if_true]
    by_cases e1 : s.seq = q
    · rw [if_pos e1]
      have e1b : (s.seq == q) = true := by simp [e1]
      clear e1
      go_enter Try.func27, Try.ntmps27
      go_wp2_with fail
      refine (hof.out _ HUa.out).mono ?_
      rintro e w1 ⟨rfl, hu⟩
      obtain ⟨b0, b1⟩ := hcell.out w1 hu
      have hz1 : w.heap.size < w1.heap.size := Nat.lt_of_lt_of_le hsz hu.size
      have HU1 := Lib.hid (fun o => (HUa.out.trans hu).alloc o)
      clear hu
      go_wp2_with fail
      go_ret
      exact ⟨rfl, HU1.out _⟩
    · rw [if_neg e1]
      have e1b : (s.seq == q) = false := by simp [e1]
      clear e1
      by_cases e2 : q < s.seq
      · rw [if_pos e2]
        have e2b : decide (q < s.seq) = true := decide_eq_true e2
        clear e2
        go_enter Try.func27, Try.ntmps27
        go_wp2_with fail
        refine (hof.out _ HUa.out).mono ?_
        rintro e w1 ⟨rfl, hu⟩
        obtain ⟨b0, b1⟩ := hcell.out w1 hu
        have hz1 : w.heap.size < w1.heap.size := Nat.lt_of_lt_of_le hsz hu.size
        have HU1 := Lib.hid (fun o => (HUa.out.trans hu).alloc o)
        clear hu
        go_wp2_with fail
        go_ret
        exact ⟨rfl, HU1.out _⟩
      · rw [if_neg e2]
        have e2b : decide (q < s.seq) = false := decide_eq_false e2
        clear e2
        go_enter Try.func27, Try.ntmps27
        go_wp2_with fail
        refine (hof.out _ HUa.out).mono ?_
        rintro e w1 ⟨rfl, hu⟩
        obtain ⟨b0, b1⟩ := hcell.out w1 hu
        have hz1 : w.heap.size < w1.heap.size := Nat.lt_of_lt_of_le hsz hu.size
        have HU1 := Lib.hid (fun o => (HUa.out.trans hu).alloc o)
        clear hu
        go_wp2_with fail
        go_ret
        exact ⟨rfl, HU1.out _⟩
set_option maxHeartbeats 1000000 in
theorem how_nil (c q : Int) (w : World) :
    Calls Try.prog 27 #[.pointer none, .agg #[.int .i64 c, .int .u64 q]] w fun e w' => e = .returned (.int .i64 0) ∧ Upd NoB w w' := by
  have hof := Lib.hid (fun w => of_nil c w)
  have HUa := Lib.hid (fun o => (Upd.refl NoB w).alloc o)
  go_enter Try.func27, Try.ntmps27
  go_wp2_with fail
  refine (hof.out _).mono ?_
  rintro e w1 ⟨rfl, hu⟩
  have HU1 := Lib.hid (fun o => ((HUa.out _).trans hu).alloc o)
  clear hu
  go_wp2_with fail
  go_ret
  exact ⟨rfl, HU1.out _⟩
set_option maxHeartbeats 1000000 in
theorem tlen_any (p b : Nat) (m : Tab) (w : World) (h : Tbl w p b m) :
    Calls Try.prog 29 #[.pointer (some ⟨p, 0, none⟩)] w fun e w' => e = .returned (.int .i64 m.n) ∧ Upd NoB w w' := by
  have c0 := h.cell
  obtain ⟨D, h1, h2, h3⟩ := h
  have hl := fun ty => h2.len Try.underlying75 ty
  rw [h3.size] at hl
  clear h1 h2 h3
  go_enter Try.func29, Try.ntmps29
  go_wp2_with fail
  go_ret
  exact ⟨rfl, Upd.refl _ _⟩
set_option maxHeartbeats 1000000 in
theorem tlen_nil (w : World) : Calls Try.prog 29 #[.pointer none] w fun e w' => e = .returned (.int .i64 0) ∧ Upd NoB w w' := by
  go_enter Try.func29, Try.ntmps29
  go_wp2_with fail
  go_ret
  exact ⟨rfl, Upd.refl _ _⟩
/-- May an ID be one? -/
def rightID (c q : Int) : Bool := decide (0 ≤ c) && (decide (c < 6) && decide (0 < q))
set_option maxHeartbeats 1000000 in
theorem rightid_any (c q : Int) (w : World) :
    Calls Try.prog 41 #[.agg #[.int .i64 c, .int .u64 q]] w fun e w' => e = .returned (.bool (rightID c q)) ∧ Upd NoB w w' := by
  have HUa := Lib.hid (fun o => (Upd.refl NoB w).alloc o)
  unfold rightID
  by_cases e1 : 0 ≤ c
  · have e1b : decide (0 ≤ c) = true := decide_eq_true e1
    rw [e1b]
    clear e1
    by_cases e2 : c < 6
    · have e2b : decide (c < 6) = true := decide_eq_true e2
      rw [e2b, Bool.true_and, Bool.true_and]
      clear e2
      generalize hD : decide (0 < q) = D at *
      go_enter Try.func41, Try.ntmps41
      go_wp2_with fail
      go_ret
      exact ⟨by first | rfl | (rw [← hD]; rfl), HUa.out _⟩
    · have e2b : decide (c < 6) = false := decide_eq_false e2
      rw [e2b]
      clear e2
      go_enter Try.func41, Try.ntmps41
      go_wp2_with fail
      go_ret
      exact ⟨rfl, HUa.out _⟩
  · have e1b : decide (0 ≤ c) = false := decide_eq_false e1
    rw [e1b]
    clear e1
    go_enter Try.func41, Try.ntmps41
    go_wp2_with fail
    go_ret
    exact ⟨rfl, HUa.out _⟩
end Go.Proofs.Ytmcpcladjfddmaa
