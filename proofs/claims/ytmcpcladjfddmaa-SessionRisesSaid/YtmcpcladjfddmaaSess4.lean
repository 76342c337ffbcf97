/- A table of slots, function by function (4): what is opened, and done; the chapter's example. -/
import Derived.Test.YtmcpcladjfddmaaSess3
namespace Go.Proofs.Ytmcpcladjfddmaa
open Go.RowKit Kit
set_option linter.unusedVariables false

def Tab.openT (m : Tab) (c q a : Int) : Int × Tab := (m.may c q a false, if m.may c q a false = 0 then m.put c ⟨q, true, a, 0, 0⟩ else m)
def Tab.doneT (m : Tab) (c q a code num : Int) : Int × Tab := (m.may c q a true, if m.may c q a true = 0 then m.put c ⟨q, false, a, code, num⟩ else m)
theorem put_n (m : Tab) (c : Int) (s : Slot) : (m.put c s).n ≤ m.n + 1 := by
  show (if (m.f c).isSome then m.n else m.n + 1) ≤ _
  split <;> omega
theorem openT_n (m : Tab) (c q a : Int) : (m.openT c q a).2.n ≤ m.n + 1 := by
  unfold Tab.openT
  simp only
  split
  · exact put_n _ _ _
  · omega
theorem doneT_n (m : Tab) (c q a code num : Int) : (m.doneT c q a code num).2.n ≤ m.n + 1 := by
  unfold Tab.doneT
  simp only
  split
  · exact put_n _ _ _
  · omega
set_option maxHeartbeats 4000000 in
set_option maxRecDepth 100000 in
theorem open_any (p b : Nat) (m : Tab) (c q a : Int) (w : World) (h : Tbl w p b m) (hc : (Lit.int .i64 c).wf = true) (hn : m.n < 1000000) :
    Calls Try.prog 32 #[.pointer (some ⟨p, 0, none⟩), .agg #[.int .i64 c, .int .u64 q], .int .i64 a] w fun e w' => e = .returned (.int .i64 (m.openT c q a).1) ∧ Tbl w' p b (m.openT c q a).2 ∧ Upd (fun x => x = b) w w' := by
  unfold Tab.openT
  have hTa := Lib.hid (fun x (hx : Upd NoB w x) => h.keep hx (fun h => h) (fun h => h))
  have hpb : p ≠ b := by
    obtain ⟨D, h1, ⟨es, clock, h2, _⟩, _⟩ := h
    rintro rfl
    rw [h1] at h2
    cases h2
  obtain ⟨hpl, hbl⟩ := h.lt
  obtain ⟨wa, hwa⟩ : ∃ wa, w.alloc (.cells #[.int .i64 c, .int .u64 q] 47) = wa := ⟨_, rfl⟩
  have hua : Upd NoB w wa := by rw [← hwa]; exact (Upd.refl _ _).alloc _
  have hB : wa.heap[w.heap.size]? = some (.cells #[.int .i64 c, .int .u64 q] 47 (0, 0)) := by rw [← hwa]; exact heap_alloc_new _ _
  have hcell := Lib.hid (fun (F : Nat → Prop) x (hx : Upd F wa x) (hf : ¬ F w.heap.size) => two_cells (hx.heap hB hf))
  obtain ⟨b0, b1⟩ := hcell.out NoB wa (Upd.refl _ _) (fun h => h)
  have HUa := Lib.hid hua
  have hsz : w.heap.size < wa.heap.size := lt_of_heap hB
  have hmy := Lib.hid (may_any p b m c q a false wa (hTa.out _ hua) hc)
  clear hua hB h
  generalize hM : m.may c q a false = M at *
  clear hM
  go_enter Try.func32, Try.ntmps32
  go_wp2_with fail
  refine hmy.out.mono ?_
  rintro e w1 ⟨rfl, hu⟩
  have HU1 := Lib.hid (HUa.out.trans hu)
  have HUb := Lib.hid hu
  obtain ⟨b0, b1⟩ := hcell.out NoB w1 hu (fun h => h)
  clear hu
  by_cases hm : M = 0
  · skip
    subst hm
    have hT1 := hTa.out w1.drew HU1.out.drew
    obtain ⟨w2, hr, hT2, hu2⟩ := hT1.store hn hc ⟨q, true, a, 0, 0⟩
    have HT2 := Lib.hid hT2
    have HU2 := Lib.hid (show Upd (fun x => x = b) w w2 from (HU1.out.drew.mono (fun _ _ h => h.elim)).trans hu2)
    have HU2' := Lib.hid hu2
    have HP := Lib.hid hT1.cell
    simp only [Slot.val, Slot.cells] at hr
    clear hT1 hT2 hu2
    go_wp2_with fail
    refine sched_begin (fun x => x = b) (by kernel_rfl) ?_
    refine sched_take 0 rfl (by kernel_rfl) (by kernel_rfl) (by kernel_rfl) (fun _ _ _ h => h) rfl (fun x hx => by go_simp; rfl) ?_
    go_simp
    refine sched_take 1 rfl (by kernel_rfl) (by kernel_rfl) (by kernel_rfl) (fun _ _ _ h => h) rfl (fun x hx => by go_simp; rfl) ?_
    go_simp
    refine sched_take 2 rfl (by kernel_rfl) (by kernel_rfl) (by kernel_rfl) (fun _ _ _ h => h) rfl (fun x hx => by go_simp; rfl) ?_
    go_simp
    refine sched_take 3 rfl (by kernel_rfl) (by kernel_rfl) (by kernel_rfl) (fun _ _ _ h => h) rfl (fun x hx => by have hcx := hx.cell HP.out hpb; go_simp; rfl) ?_
    go_simp
    refine sched_take 4 rfl (by kernel_rfl) (by kernel_rfl) (by kernel_rfl) (fun _ _ _ h => h) rfl (fun x hx => by go_simp; rfl) ?_
    go_simp
    refine sched_take 5 rfl (by kernel_rfl) (by kernel_rfl) (by kernel_rfl) (fun _ _ _ h => h) rfl (fun x hx => by have hcx := hcell.out (fun x => x = b) x ((HUb.out.drew.mono (fun _ _ h => h.elim)).trans hx) (by omega); go_simp; rfl) ?_
    go_simp
    refine sched_take 6 rfl (by kernel_rfl) (by kernel_rfl) (by kernel_rfl) (fun _ _ _ h => h) rfl (fun x hx => by go_simp; rfl) ?_
    go_simp
    refine sched_take 7 rfl (by kernel_rfl) (by kernel_rfl) (by kernel_rfl) (fun _ _ _ h => h) rfl (fun x hx => by have hcx := hcell.out (fun x => x = b) x ((HUb.out.drew.mono (fun _ _ h => h.elim)).trans hx) (by omega); go_simp; rfl) ?_
    go_simp
    refine sched_take 8 rfl (by kernel_rfl) (by kernel_rfl) (by kernel_rfl) (fun _ _ _ h => h) rfl (fun x hx => by go_simp; rfl) ?_
    go_simp
    refine sched_take 9 rfl (by kernel_rfl) (by kernel_rfl) (by kernel_rfl) (fun _ _ _ h => h) rfl (fun x hx => by go_simp; rfl) ?_
    go_simp
    refine sched_alone 10 (by kernel_rfl) rfl rfl ?_
    go_simp
    refine ⟨HU2'.out, ?_⟩
    go_simp
    refine sched_done (by kernel_rfl) ?_
    go_wp2_with fail
    go_ret
    exact ⟨rfl, by first | exact HT2.out | (rw [if_pos rfl]; exact HT2.out), HU2.out⟩
  · have hmb : (M == 0) = false := by simp [hm]
    have hmn := Lib.hid hm
    clear hm
    go_wp2_with fail
    go_ret
    exact ⟨rfl, by first | exact hTa.out _ HU1.out | (rw [if_neg hmn.out]; exact hTa.out _ HU1.out), HU1.out.mono (fun _ _ h => h.elim)⟩
set_option maxHeartbeats 4000000 in
set_option maxRecDepth 100000 in
theorem done_any (p b : Nat) (m : Tab) (c q a code num : Int) (w : World) (h : Tbl w p b m) (hc : (Lit.int .i64 c).wf = true) (hn : m.n < 1000000) :
    Calls Try.prog 33 #[.pointer (some ⟨p, 0, none⟩), .agg #[.int .i64 c, .int .u64 q], .int .i64 a, .int .i64 code, .int .u64 num] w fun e w' => e = .returned (.int .i64 (m.doneT c q a code num).1) ∧ Tbl w' p b (m.doneT c q a code num).2 ∧ Upd (fun x => x = b) w w' := by
  unfold Tab.doneT
  have hTa := Lib.hid (fun x (hx : Upd NoB w x) => h.keep hx (fun h => h) (fun h => h))
  have hpb : p ≠ b := by
    obtain ⟨D, h1, ⟨es, clock, h2, _⟩, _⟩ := h
    rintro rfl
    rw [h1] at h2
    cases h2
  obtain ⟨hpl, hbl⟩ := h.lt
  obtain ⟨wa, hwa⟩ : ∃ wa, w.alloc (.cells #[.int .i64 c, .int .u64 q] 47) = wa := ⟨_, rfl⟩
  have hua : Upd NoB w wa := by rw [← hwa]; exact (Upd.refl _ _).alloc _
  have hB : wa.heap[w.heap.size]? = some (.cells #[.int .i64 c, .int .u64 q] 47 (0, 0)) := by rw [← hwa]; exact heap_alloc_new _ _
  have hcell := Lib.hid (fun (F : Nat → Prop) x (hx : Upd F wa x) (hf : ¬ F w.heap.size) => two_cells (hx.heap hB hf))
  obtain ⟨b0, b1⟩ := hcell.out NoB wa (Upd.refl _ _) (fun h => h)
  have HUa := Lib.hid hua
  have hsz : w.heap.size < wa.heap.size := lt_of_heap hB
  have hmy := Lib.hid (may_any p b m c q a true wa (hTa.out _ hua) hc)
  clear hua hB h
  generalize hM : m.may c q a true = M at *
  clear hM
  go_enter Try.func33, Try.ntmps33
  go_wp2_with fail
  refine hmy.out.mono ?_
  rintro e w1 ⟨rfl, hu⟩
  have HU1 := Lib.hid (HUa.out.trans hu)
  have HUb := Lib.hid hu
  obtain ⟨b0, b1⟩ := hcell.out NoB w1 hu (fun h => h)
  clear hu
  by_cases hm : M = 0
  · skip
    subst hm
    have hT1 := hTa.out w1.drew HU1.out.drew
    obtain ⟨w2, hr, hT2, hu2⟩ := hT1.store hn hc ⟨q, false, a, code, num⟩
    have HT2 := Lib.hid hT2
    have HU2 := Lib.hid (show Upd (fun x => x = b) w w2 from (HU1.out.drew.mono (fun _ _ h => h.elim)).trans hu2)
    have HU2' := Lib.hid hu2
    have HP := Lib.hid hT1.cell
    simp only [Slot.val, Slot.cells] at hr
    clear hT1 hT2 hu2
    go_wp2_with fail
    refine sched_begin (fun x => x = b) (by kernel_rfl) ?_
    refine sched_take 0 rfl (by kernel_rfl) (by kernel_rfl) (by kernel_rfl) (fun _ _ _ h => h) rfl (fun x hx => by go_simp; rfl) ?_
    go_simp
    refine sched_take 1 rfl (by kernel_rfl) (by kernel_rfl) (by kernel_rfl) (fun _ _ _ h => h) rfl (fun x hx => by go_simp; rfl) ?_
    go_simp
    refine sched_take 2 rfl (by kernel_rfl) (by kernel_rfl) (by kernel_rfl) (fun _ _ _ h => h) rfl (fun x hx => by go_simp; rfl) ?_
    go_simp
    refine sched_take 3 rfl (by kernel_rfl) (by kernel_rfl) (by kernel_rfl) (fun _ _ _ h => h) rfl (fun x hx => by have hcx := hx.cell HP.out hpb; go_simp; rfl) ?_
    go_simp
    refine sched_take 4 rfl (by kernel_rfl) (by kernel_rfl) (by kernel_rfl) (fun _ _ _ h => h) rfl (fun x hx => by go_simp; rfl) ?_
    go_simp
    refine sched_take 5 rfl (by kernel_rfl) (by kernel_rfl) (by kernel_rfl) (fun _ _ _ h => h) rfl (fun x hx => by have hcx := hcell.out (fun x => x = b) x ((HUb.out.drew.mono (fun _ _ h => h.elim)).trans hx) (by omega); go_simp; rfl) ?_
    go_simp
    refine sched_take 6 rfl (by kernel_rfl) (by kernel_rfl) (by kernel_rfl) (fun _ _ _ h => h) rfl (fun x hx => by go_simp; rfl) ?_
    go_simp
    refine sched_take 7 rfl (by kernel_rfl) (by kernel_rfl) (by kernel_rfl) (fun _ _ _ h => h) rfl (fun x hx => by have hcx := hcell.out (fun x => x = b) x ((HUb.out.drew.mono (fun _ _ h => h.elim)).trans hx) (by omega); go_simp; rfl) ?_
    go_simp
    refine sched_take 8 rfl (by kernel_rfl) (by kernel_rfl) (by kernel_rfl) (fun _ _ _ h => h) rfl (fun x hx => by go_simp; rfl) ?_
    go_simp
    refine sched_take 9 rfl (by kernel_rfl) (by kernel_rfl) (by kernel_rfl) (fun _ _ _ h => h) rfl (fun x hx => by go_simp; rfl) ?_
    go_simp
    refine sched_take 10 rfl (by kernel_rfl) (by kernel_rfl) (by kernel_rfl) (fun _ _ _ h => h) rfl (fun x hx => by go_simp; rfl) ?_
    go_simp
    refine sched_take 11 rfl (by kernel_rfl) (by kernel_rfl) (by kernel_rfl) (fun _ _ _ h => h) rfl (fun x hx => by go_simp; rfl) ?_
    go_simp
    refine sched_alone 12 (by kernel_rfl) rfl rfl ?_
    go_simp
    refine ⟨HU2'.out, ?_⟩
    go_simp
    refine sched_done (by kernel_rfl) ?_
    go_wp2_with fail
    go_ret
    exact ⟨rfl, by first | exact HT2.out | (rw [if_pos rfl]; exact HT2.out), HU2.out⟩
  · have hmb : (M == 0) = false := by simp [hm]
    have hmn := Lib.hid hm
    clear hm
    go_wp2_with fail
    go_ret
    exact ⟨rfl, by first | exact hTa.out _ HU1.out | (rw [if_neg hmn.out]; exact hTa.out _ HU1.out), HU1.out.mono (fun _ _ h => h.elim)⟩
end Go.Proofs.Ytmcpcladjfddmaa
