/- A table of slots, function by function (5): what a table that is not there answers; the chapter's example; SessionNil's walk. -/
import Derived.Test.YtmcpcladjfddmaaSess4
namespace Go.Proofs.Ytmcpcladjfddmaa
open Go.RowKit Kit
set_option linter.unusedVariables false

set_option maxHeartbeats 1000000 in
theorem open_nil (c q a : Int) (w : World) :
    Calls Try.prog 32 #[.pointer none, .agg #[.int .i64 c, .int .u64 q], .int .i64 a] w fun e' w' => e' = .returned (.int .i64 2) ∧ Upd NoB w w' := by
  have HUa := Lib.hid (fun o => (Upd.refl NoB w).alloc o)
  have hm := Lib.hid (fun w => may_nil c q a false w)
  go_enter Try.func32, Try.ntmps32
  go_wp2_with fail
  refine (hm.out _).mono ?_
  rintro e w1 ⟨rfl, hu⟩
  have HU1 := Lib.hid ((HUa.out _).trans hu)
  clear hu
  go_wp2_with fail
  go_ret
  exact ⟨rfl, HU1.out⟩
set_option maxHeartbeats 1000000 in
theorem done_nil (c q a code num : Int) (w : World) :
    Calls Try.prog 33 #[.pointer none, .agg #[.int .i64 c, .int .u64 q], .int .i64 a, .int .i64 code, .int .u64 num] w fun e' w' => e' = .returned (.int .i64 2) ∧ Upd NoB w w' := by
  have HUa := Lib.hid (fun o => (Upd.refl NoB w).alloc o)
  have hm := Lib.hid (fun w => may_nil c q a true w)
  go_enter Try.func33, Try.ntmps33
  go_wp2_with fail
  refine (hm.out _).mono ?_
  rintro e w1 ⟨rfl, hu⟩
  have HU1 := Lib.hid ((HUa.out _).trans hu)
  clear hu
  go_wp2_with fail
  go_ret
  exact ⟨rfl, HU1.out⟩

def at1 : Tab := (Tab.new.openT 0 1 1).2
def at2 : Tab := (at1.openT 0 2 2).2
def at3 : Tab := (at2.doneT 0 1 3 8 0).2
def at4 : Tab := (at3.openT 0 2 4).2
theorem atw : (Tab.new.openT 0 1 1).1 = 0 ∧ (at1.openT 0 2 2).1 = 10 ∧ (at2.doneT 0 1 3 8 0).1 = 0 ∧ (at3.openT 0 2 4).1 = 0 ∧ Tab.new.n < 1000000 ∧ at1.n < 1000000 ∧ at2.n < 1000000 ∧ at3.n < 1000000 ∧ at4.n = 1 := by
  refine ⟨by kernel_rfl, by kernel_rfl, by kernel_rfl, by kernel_rfl, by decide, ?_, ?_, ?_, by kernel_rfl⟩
  · have : at1.n = 1 := by kernel_rfl
    omega
  · have : at2.n = 1 := by kernel_rfl
    omega
  · have : at3.n = 1 := by kernel_rfl
    omega
set_option maxHeartbeats 2000000 in
set_option maxRecDepth 100000 in
theorem sessAwake_any (w : World) : Calls Try.prog 31 #[] w fun e w' => e = .returned (.bool true) ∧ Upd NoB w w' := by
  obtain ⟨e1, e2, e3, e4, n0, n1, n2, n3, n4⟩ := atw
  have E1 := Lib.hid e1
  have E2 := Lib.hid e2
  have E3 := Lib.hid e3
  have E4 := Lib.hid e4
  have N4 := Lib.hid n4
  clear e1 e2 e3 e4 n4
  have h0 : (Lit.int .i64 0).wf = true := by decide
  go_enter Try.func31, Try.ntmps31
  go_wp2_with fail
  refine (newtable_any _).mono ?_
  rintro e w1 ⟨p, b, rfl, hp, hb, hT, hu⟩
  have HT1 := Lib.hid hT
  have HU1 := Lib.hid hu
  clear hT hu
  go_wp2_with fail
  refine (open_any p b _ 0 1 1 w1 HT1.out h0 n0).mono ?_
  rintro e w2 ⟨rfl, hT, hu⟩
  have HT2 := Lib.hid hT
  have HU2 := Lib.hid (HU1.out.then hu (fun i hi e => by have e' : i = b := e; omega))
  clear hT hu
  rw [E1.out]
  go_wp2_with fail
  refine (open_any p b at1 0 2 2 w2 HT2.out h0 n1).mono ?_
  rintro e w3 ⟨rfl, hT, hu⟩
  have HT3 := Lib.hid hT
  have HU3 := Lib.hid (HU2.out.then hu (fun i hi e => by have e' : i = b := e; omega))
  clear hT hu
  rw [E2.out]
  go_wp2_with fail
  refine (done_any p b at2 0 1 3 8 0 w3 HT3.out h0 n2).mono ?_
  rintro e w4 ⟨rfl, hT, hu⟩
  have HT4 := Lib.hid hT
  have HU4 := Lib.hid (HU3.out.then hu (fun i hi e => by have e' : i = b := e; omega))
  clear hT hu
  rw [E3.out]
  go_wp2_with fail
  refine (open_any p b at3 0 2 4 w4 HT4.out h0 n3).mono ?_
  rintro e w5 ⟨rfl, hT, hu⟩
  have HT5 := Lib.hid hT
  have HU5 := Lib.hid (HU4.out.then hu (fun i hi e => by have e' : i = b := e; omega))
  clear hT hu
  rw [E4.out]
  go_wp2_with fail
  refine (tlen_any p b at4 w5 HT5.out).mono ?_
  rintro e w6 ⟨rfl, hu⟩
  have HU6 := Lib.hid (HU5.out.trans hu)
  clear hu
  rw [N4.out]
  go_wp2_with fail
  go_ret
  exact ⟨rfl, HU6.out⟩
set_option maxHeartbeats 4000000 in
set_option maxRecDepth 100000 in
theorem sessionNil_walk (c q a : Int) (w : World) :
    Calls Try.prog 10 #[.agg #[.int .i64 c, .int .u64 q], .int .i64 a] w fun e w' => e = .returned (.bool true) ∧ Upd NoB w w' := by
  obtain ⟨wa, hwa⟩ : ∃ wa, w.alloc (.cells #[.int .i64 c, .int .u64 q] 47) = wa := ⟨_, rfl⟩
  have hua : Upd NoB w wa := by rw [← hwa]; exact (Upd.refl _ _).alloc _
  have hB : wa.heap[w.heap.size]? = some (.cells #[.int .i64 c, .int .u64 q] 47 (0, 0)) := by rw [← hwa]; exact heap_alloc_new _ _
  have hcell := Lib.hid (fun x (hx : Upd NoB wa x) => two_cells (hx.heap hB (fun h => h)))
  obtain ⟨b0, b1⟩ := hcell.out wa (Upd.refl _ _)
  have HUa := Lib.hid hua
  have hsz : w.heap.size < wa.heap.size := lt_of_heap hB
  clear hua hB
  go_enter Try.func10, Try.ntmps10
  go_wp2_with fail
  refine (of_nil c wa).mono ?_
  rintro e w1 ⟨rfl, hu⟩
  obtain ⟨k1, k2⟩ := hcell.out w1 hu
  have hz1 : w.heap.size < w1.heap.size := Nat.lt_of_lt_of_le hsz hu.size
  have HU2 := Lib.hid (fun o => hu.alloc o)
  clear hu
  go_wp2_with fail
  refine (how_nil c q _).mono ?_
  rintro e w3 ⟨rfl, hu⟩
  have HU3 := Lib.hid ((HU2.out _).trans hu)
  obtain ⟨k1, k2⟩ := hcell.out w3 HU3.out
  clear hu
  go_wp2_with fail
  refine (open_nil c q a _).mono ?_
  rintro e w4 ⟨rfl, hu⟩
  have HU4 := Lib.hid (HU3.out.trans hu)
  obtain ⟨k1, k2⟩ := hcell.out w4 HU4.out
  clear hu
  go_wp2_with fail
  refine (done_nil c q a 0 0 _).mono ?_
  rintro e w5 ⟨rfl, hu⟩
  have HU5 := Lib.hid (HU4.out.trans hu)
  obtain ⟨k1, k2⟩ := hcell.out w5 HU5.out
  clear hu
  go_wp2_with fail
  refine (tlen_nil _).mono ?_
  rintro e w6 ⟨rfl, hu⟩
  have HU6 := Lib.hid (HU5.out.trans hu)
  obtain ⟨k1, k2⟩ := hcell.out w6 HU6.out
  clear hu
  go_wp2_with fail
  refine (sessAwake_any _).mono ?_
  rintro e w7 ⟨rfl, hu⟩
  have HU7 := Lib.hid (HUa.out.trans (HU6.out.trans hu))
  clear hu
  go_wp2_with fail
  go_ret
  exact ⟨rfl, HU7.out⟩
end Go.Proofs.Ytmcpcladjfddmaa
