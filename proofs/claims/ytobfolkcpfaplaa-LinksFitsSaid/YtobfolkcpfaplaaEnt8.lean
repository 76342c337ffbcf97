/- Entries of a log, any: may a transaction be? -/
import Derived.Test.YtobfolkcpfaplaaEnt7
namespace Go.Proofs.Ytobfolkcpfaplaa
open Go.RowKit Kit
set_option linter.unusedVariables false
def txnB (tc tq : Int) (pl : Bool) (rd : List Rd) (wt : List Wt) : Bool :=
  idB tc tq && (decide (rd.length ≤ 8) && (decide (wt.length ≤ 8) && (!decide (rd.length + wt.length = 0) && (!(pl && (!decide (rd.length = 0) || !decide (wt.length = 1))) &&
    (allB (okK (rd.map fun x => x.key)) rd.length && (allB (okK (wt.map fun x => x.key)) wt.length && allB (okV wt) wt.length))))))
set_option maxHeartbeats 8000000 in
set_option maxRecDepth 100000 in
theorem righttxn_any {S : Nat → Prop} (tc tq : Int) (pl : Bool) (rd : List Rd) (wt : List Wt) (A B : Option Addr) (c d : Nat) (w : World) (h1 : RSl Rep.rd w S (.slice A rd.length c) rd) (h2 : RSl Rep.wt w S (.slice B wt.length d) wt) (hq : 0 ≤ tq) (hn : rd.length ≤ 100000) (hm : wt.length ≤ 100000) :
    Calls Try.prog 79 #[.agg #[.int .i64 tc, .int .u64 tq, .bool pl, .slice A rd.length c, .slice B wt.length d]] w fun e w' => e = .returned (.bool (txnB tc tq pl rd wt)) ∧ Upd NoB w w' := by
  obtain ⟨wa, hwa0⟩ : ∃ wa, w.alloc (.cells #[.int .i64 tc, .int .u64 tq, .bool pl, .slice A rd.length c, .slice B wt.length d] 63) = wa := ⟨_, rfl⟩
  have hua : Upd NoB w wa := by rw [← hwa0]; exact (Upd.refl _ _).alloc _
  have hB0 : wa.heap[w.heap.size]? = some (.cells #[.int .i64 tc, .int .u64 tq, .bool pl, .slice A rd.length c, .slice B wt.length d] 63 (0, 0)) := by rw [← hwa0]; exact heap_alloc_new _ _
  have hwa := Lib.hid hwa0
  have HUa := Lib.hid hua
  have hb := Lib.hid (fun x (hx : Upd NoB wa x) => five_cells2 (hx.heap hB0 (fun h => h)))
  have hid := Lib.hid (fun z => rid_any tc tq z hq)
  have hrk := Lib.hid (fun z (hz : Upd NoB w z) => readkeys_any tc tq pl rd wt A B c d z (h1.upd hz (fun _ _ h => h)) (h2.upd hz (fun _ _ h => h)) hn)
  have hwk := Lib.hid (fun z (hz : Upd NoB w z) => writekeys_any tc tq pl rd wt A B c d z (h1.upd hz (fun _ _ h => h)) (h2.upd hz (fun _ _ h => h)) hm)
  have hvl := Lib.hid (fun z (hz : Upd NoB w z) => values_any tc tq pl rd wt A B c d z (h1.upd hz (fun _ _ h => h)) (h2.upd hz (fun _ _ h => h)) hm)
  have hnn := Lib.hid (And.intro hn hm)
  clear hwa0 hua hB0 h1 h2 hq hn hm
  cases hI : idB tc tq
  · rw [hI] at hid
    have hres := Lib.hid (show txnB tc tq pl rd wt = false from by unfold txnB; rw [hI]; rfl)
    clear hI
    skip
    go_enter Try.func79, Try.ntmps79
    go_wp2_with fail
    rw [hwa.out]
    refine sched_begin NoB (by kernel_rfl) ?_
    have HUd := Lib.hid (Upd.refl NoB wa).drew
    refine sched_take 0 rfl (by kernel_rfl) (by kernel_rfl) (by kernel_rfl) (fun _ _ _ h => h) rfl (fun x hx => by obtain ⟨y0, y1, y2, y3, y4⟩ := hb.out x (HUd.out.trans hx); go_simp; rfl) ?_
    go_simp
    refine sched_take 1 rfl (by kernel_rfl) (by kernel_rfl) (by kernel_rfl) (fun _ _ _ h => h) rfl (fun x hx => by obtain ⟨y0, y1, y2, y3, y4⟩ := hb.out x (HUd.out.trans hx); go_simp; rfl) ?_
    go_simp
    refine sched_take 2 rfl (by kernel_rfl) (by kernel_rfl) (by kernel_rfl) (fun _ _ _ h => h) rfl (fun x hx => by obtain ⟨y0, y1, y2, y3, y4⟩ := hb.out x (HUd.out.trans hx); go_simp; rfl) ?_
    go_simp
    refine sched_take 3 rfl (by kernel_rfl) (by kernel_rfl) (by kernel_rfl) (fun _ _ _ h => h) rfl (fun x hx => by obtain ⟨y0, y1, y2, y3, y4⟩ := hb.out x (HUd.out.trans hx); go_simp; rfl) ?_
    go_simp
    refine sched_take 4 rfl (by kernel_rfl) (by kernel_rfl) (by kernel_rfl) (fun _ _ _ h => h) rfl (fun x hx => by obtain ⟨y0, y1, y2, y3, y4⟩ := hb.out x (HUd.out.trans hx); go_simp; rfl) ?_
    go_simp
    refine sched_take 5 rfl (by kernel_rfl) (by kernel_rfl) (by kernel_rfl) (fun _ _ _ h => h) rfl (fun x hx => by obtain ⟨y0, y1, y2, y3, y4⟩ := hb.out x (HUd.out.trans hx); go_simp; rfl) ?_
    go_simp
    refine sched_take 6 rfl (by kernel_rfl) (by kernel_rfl) (by kernel_rfl) (fun _ _ _ h => h) rfl (fun x hx => by go_simp; rfl) ?_
    go_simp
    refine sched_take 7 rfl (by kernel_rfl) (by kernel_rfl) (by kernel_rfl) (fun _ _ _ h => h) rfl (fun x hx => by go_simp; rfl) ?_
    go_simp
    refine sched_done (by kernel_rfl) ?_
    obtain ⟨y0, y1, y2, y3, y4⟩ := hb.out _ HUd.out
    go_wp2_with fail
    refine (hid.out _).mono ?_
    rintro e w1 ⟨rfl, hu⟩
    have HU1 := Lib.hid (HUd.out.trans hu)
    clear hu y0 y1 y2 y3 y4
    obtain ⟨y0, y1, y2, y3, y4⟩ := hb.out _ HU1.out
    go_wp2_with fail
    go_ret
    exact ⟨by rw [hres.out]; rfl, HUa.out.trans HU1.out⟩
  · rw [hI] at hid
    by_cases h8 : 8 < rd.length
    · have d8 : decide ((8 : Int) < (rd.length : Int)) = true := decide_eq_true (by omega)
      clear hI
      have hres := Lib.hid (show txnB tc tq pl rd wt = false from by unfold txnB; rw [show decide (rd.length ≤ 8) = false from decide_eq_false (by omega)]; simp)
      clear h8
      skip
      go_enter Try.func79, Try.ntmps79
      go_wp2_with fail
      rw [hwa.out]
      refine sched_begin NoB (by kernel_rfl) ?_
      have HUd := Lib.hid (Upd.refl NoB wa).drew
      refine sched_take 0 rfl (by kernel_rfl) (by kernel_rfl) (by kernel_rfl) (fun _ _ _ h => h) rfl (fun x hx => by obtain ⟨y0, y1, y2, y3, y4⟩ := hb.out x (HUd.out.trans hx); go_simp; rfl) ?_
      go_simp
      refine sched_take 1 rfl (by kernel_rfl) (by kernel_rfl) (by kernel_rfl) (fun _ _ _ h => h) rfl (fun x hx => by obtain ⟨y0, y1, y2, y3, y4⟩ := hb.out x (HUd.out.trans hx); go_simp; rfl) ?_
      go_simp
      refine sched_take 2 rfl (by kernel_rfl) (by kernel_rfl) (by kernel_rfl) (fun _ _ _ h => h) rfl (fun x hx => by obtain ⟨y0, y1, y2, y3, y4⟩ := hb.out x (HUd.out.trans hx); go_simp; rfl) ?_
      go_simp
      refine sched_take 3 rfl (by kernel_rfl) (by kernel_rfl) (by kernel_rfl) (fun _ _ _ h => h) rfl (fun x hx => by obtain ⟨y0, y1, y2, y3, y4⟩ := hb.out x (HUd.out.trans hx); go_simp; rfl) ?_
      go_simp
      refine sched_take 4 rfl (by kernel_rfl) (by kernel_rfl) (by kernel_rfl) (fun _ _ _ h => h) rfl (fun x hx => by obtain ⟨y0, y1, y2, y3, y4⟩ := hb.out x (HUd.out.trans hx); go_simp; rfl) ?_
      go_simp
      refine sched_take 5 rfl (by kernel_rfl) (by kernel_rfl) (by kernel_rfl) (fun _ _ _ h => h) rfl (fun x hx => by obtain ⟨y0, y1, y2, y3, y4⟩ := hb.out x (HUd.out.trans hx); go_simp; rfl) ?_
      go_simp
      refine sched_take 6 rfl (by kernel_rfl) (by kernel_rfl) (by kernel_rfl) (fun _ _ _ h => h) rfl (fun x hx => by go_simp; rfl) ?_
      go_simp
      refine sched_take 7 rfl (by kernel_rfl) (by kernel_rfl) (by kernel_rfl) (fun _ _ _ h => h) rfl (fun x hx => by go_simp; rfl) ?_
      go_simp
      refine sched_done (by kernel_rfl) ?_
      obtain ⟨y0, y1, y2, y3, y4⟩ := hb.out _ HUd.out
      go_wp2_with fail
      refine (hid.out _).mono ?_
      rintro e w1 ⟨rfl, hu⟩
      have HU1 := Lib.hid (HUd.out.trans hu)
      clear hu y0 y1 y2 y3 y4
      obtain ⟨y0, y1, y2, y3, y4⟩ := hb.out _ HU1.out
      go_wp2_with fail
      go_ret
      exact ⟨by rw [hres.out]; rfl, HUa.out.trans HU1.out⟩
    · have d8 : decide ((8 : Int) < (rd.length : Int)) = false := decide_eq_false (by omega)
      have q8 : decide (rd.length ≤ 8) = true := decide_eq_true (by omega)
      by_cases h9 : 8 < wt.length
      · have d9 : decide ((8 : Int) < (wt.length : Int)) = true := decide_eq_true (by omega)
        have hres := Lib.hid (show txnB tc tq pl rd wt = false from by unfold txnB; rw [show decide (wt.length ≤ 8) = false from decide_eq_false (by omega)]; simp)
        clear h9 h8 hI q8
        skip
        go_enter Try.func79, Try.ntmps79
        go_wp2_with fail
        rw [hwa.out]
        refine sched_begin NoB (by kernel_rfl) ?_
        have HUd := Lib.hid (Upd.refl NoB wa).drew
        refine sched_take 0 rfl (by kernel_rfl) (by kernel_rfl) (by kernel_rfl) (fun _ _ _ h => h) rfl (fun x hx => by obtain ⟨y0, y1, y2, y3, y4⟩ := hb.out x (HUd.out.trans hx); go_simp; rfl) ?_
        go_simp
        refine sched_take 1 rfl (by kernel_rfl) (by kernel_rfl) (by kernel_rfl) (fun _ _ _ h => h) rfl (fun x hx => by obtain ⟨y0, y1, y2, y3, y4⟩ := hb.out x (HUd.out.trans hx); go_simp; rfl) ?_
        go_simp
        refine sched_take 2 rfl (by kernel_rfl) (by kernel_rfl) (by kernel_rfl) (fun _ _ _ h => h) rfl (fun x hx => by obtain ⟨y0, y1, y2, y3, y4⟩ := hb.out x (HUd.out.trans hx); go_simp; rfl) ?_
        go_simp
        refine sched_take 3 rfl (by kernel_rfl) (by kernel_rfl) (by kernel_rfl) (fun _ _ _ h => h) rfl (fun x hx => by obtain ⟨y0, y1, y2, y3, y4⟩ := hb.out x (HUd.out.trans hx); go_simp; rfl) ?_
        go_simp
        refine sched_take 4 rfl (by kernel_rfl) (by kernel_rfl) (by kernel_rfl) (fun _ _ _ h => h) rfl (fun x hx => by obtain ⟨y0, y1, y2, y3, y4⟩ := hb.out x (HUd.out.trans hx); go_simp; rfl) ?_
        go_simp
        refine sched_take 5 rfl (by kernel_rfl) (by kernel_rfl) (by kernel_rfl) (fun _ _ _ h => h) rfl (fun x hx => by obtain ⟨y0, y1, y2, y3, y4⟩ := hb.out x (HUd.out.trans hx); go_simp; rfl) ?_
        go_simp
        refine sched_take 6 rfl (by kernel_rfl) (by kernel_rfl) (by kernel_rfl) (fun _ _ _ h => h) rfl (fun x hx => by go_simp; rfl) ?_
        go_simp
        refine sched_take 7 rfl (by kernel_rfl) (by kernel_rfl) (by kernel_rfl) (fun _ _ _ h => h) rfl (fun x hx => by go_simp; rfl) ?_
        go_simp
        refine sched_done (by kernel_rfl) ?_
        obtain ⟨y0, y1, y2, y3, y4⟩ := hb.out _ HUd.out
        go_wp2_with fail
        refine (hid.out _).mono ?_
        rintro e w1 ⟨rfl, hu⟩
        have HU1 := Lib.hid (HUd.out.trans hu)
        clear hu y0 y1 y2 y3 y4
        obtain ⟨y0, y1, y2, y3, y4⟩ := hb.out _ HU1.out
        go_wp2_with fail
        go_ret
        exact ⟨by rw [hres.out]; rfl, HUa.out.trans HU1.out⟩
      · have d9 : decide ((8 : Int) < (wt.length : Int)) = false := decide_eq_false (by omega)
        have q9 : decide (wt.length ≤ 8) = true := decide_eq_true (by omega)
        have hws : IntKind.i64.wrap ((rd.length : Int) + wt.length) = ((rd.length + wt.length : Nat) : Int) := by simp only [IntKind.wrap_i64]; omega
        by_cases h0 : rd.length + wt.length = 0
        · have hres := Lib.hid (show txnB tc tq pl rd wt = false from by unfold txnB; rw [show decide (rd.length + wt.length = 0) = true from decide_eq_true h0]; simp)
          have d0 : (((rd.length + wt.length : Nat) : Int) == 0) = true := by simp; omega
          clear h8 h9 hI q8 q9 h0
          skip
          go_enter Try.func79, Try.ntmps79
          go_wp2_with fail
          rw [hwa.out]
          refine sched_begin NoB (by kernel_rfl) ?_
          have HUd := Lib.hid (Upd.refl NoB wa).drew
          refine sched_take 0 rfl (by kernel_rfl) (by kernel_rfl) (by kernel_rfl) (fun _ _ _ h => h) rfl (fun x hx => by obtain ⟨y0, y1, y2, y3, y4⟩ := hb.out x (HUd.out.trans hx); go_simp; rfl) ?_
          go_simp
          refine sched_take 1 rfl (by kernel_rfl) (by kernel_rfl) (by kernel_rfl) (fun _ _ _ h => h) rfl (fun x hx => by obtain ⟨y0, y1, y2, y3, y4⟩ := hb.out x (HUd.out.trans hx); go_simp; rfl) ?_
          go_simp
          refine sched_take 2 rfl (by kernel_rfl) (by kernel_rfl) (by kernel_rfl) (fun _ _ _ h => h) rfl (fun x hx => by obtain ⟨y0, y1, y2, y3, y4⟩ := hb.out x (HUd.out.trans hx); go_simp; rfl) ?_
          go_simp
          refine sched_take 3 rfl (by kernel_rfl) (by kernel_rfl) (by kernel_rfl) (fun _ _ _ h => h) rfl (fun x hx => by obtain ⟨y0, y1, y2, y3, y4⟩ := hb.out x (HUd.out.trans hx); go_simp; rfl) ?_
          go_simp
          refine sched_take 4 rfl (by kernel_rfl) (by kernel_rfl) (by kernel_rfl) (fun _ _ _ h => h) rfl (fun x hx => by obtain ⟨y0, y1, y2, y3, y4⟩ := hb.out x (HUd.out.trans hx); go_simp; rfl) ?_
          go_simp
          refine sched_take 5 rfl (by kernel_rfl) (by kernel_rfl) (by kernel_rfl) (fun _ _ _ h => h) rfl (fun x hx => by obtain ⟨y0, y1, y2, y3, y4⟩ := hb.out x (HUd.out.trans hx); go_simp; rfl) ?_
          go_simp
          refine sched_take 6 rfl (by kernel_rfl) (by kernel_rfl) (by kernel_rfl) (fun _ _ _ h => h) rfl (fun x hx => by go_simp; rfl) ?_
          go_simp
          refine sched_take 7 rfl (by kernel_rfl) (by kernel_rfl) (by kernel_rfl) (fun _ _ _ h => h) rfl (fun x hx => by go_simp; rfl) ?_
          go_simp
          refine sched_done (by kernel_rfl) ?_
          obtain ⟨y0, y1, y2, y3, y4⟩ := hb.out _ HUd.out
          go_wp2_with fail
          refine (hid.out _).mono ?_
          rintro e w1 ⟨rfl, hu⟩
          have HU1 := Lib.hid (HUd.out.trans hu)
          clear hu y0 y1 y2 y3 y4
          obtain ⟨y0, y1, y2, y3, y4⟩ := hb.out _ HU1.out
          go_wp2_with fail
          go_ret
          exact ⟨by rw [hres.out]; rfl, HUa.out.trans HU1.out⟩
        · have q0 : decide (rd.length + wt.length = 0) = false := decide_eq_false h0
          have d0 : (((rd.length + wt.length : Nat) : Int) == 0) = false := by simp; omega
          have hQ := Lib.hid (And.intro q8 (And.intro q9 q0))
          clear h8 h9 h0 q8 q9 q0
          cases pl
          · have hpass := Lib.hid (show txnB tc tq false rd wt = (allB (okK (rd.map fun x => x.key)) rd.length && (allB (okK (wt.map fun x => x.key)) wt.length && allB (okV wt) wt.length)) from by
              unfold txnB; rw [hI, hQ.out.1, hQ.out.2.1, hQ.out.2.2]; rfl)
            clear hI
            skip
            go_enter Try.func79, Try.ntmps79
            go_wp2_with fail
            rw [hwa.out]
            refine sched_begin NoB (by kernel_rfl) ?_
            have HUd := Lib.hid (Upd.refl NoB wa).drew
            refine sched_take 0 rfl (by kernel_rfl) (by kernel_rfl) (by kernel_rfl) (fun _ _ _ h => h) rfl (fun x hx => by obtain ⟨y0, y1, y2, y3, y4⟩ := hb.out x (HUd.out.trans hx); go_simp; rfl) ?_
            go_simp
            refine sched_take 1 rfl (by kernel_rfl) (by kernel_rfl) (by kernel_rfl) (fun _ _ _ h => h) rfl (fun x hx => by obtain ⟨y0, y1, y2, y3, y4⟩ := hb.out x (HUd.out.trans hx); go_simp; rfl) ?_
            go_simp
            refine sched_take 2 rfl (by kernel_rfl) (by kernel_rfl) (by kernel_rfl) (fun _ _ _ h => h) rfl (fun x hx => by obtain ⟨y0, y1, y2, y3, y4⟩ := hb.out x (HUd.out.trans hx); go_simp; rfl) ?_
            go_simp
            refine sched_take 3 rfl (by kernel_rfl) (by kernel_rfl) (by kernel_rfl) (fun _ _ _ h => h) rfl (fun x hx => by obtain ⟨y0, y1, y2, y3, y4⟩ := hb.out x (HUd.out.trans hx); go_simp; rfl) ?_
            go_simp
            refine sched_take 4 rfl (by kernel_rfl) (by kernel_rfl) (by kernel_rfl) (fun _ _ _ h => h) rfl (fun x hx => by obtain ⟨y0, y1, y2, y3, y4⟩ := hb.out x (HUd.out.trans hx); go_simp; rfl) ?_
            go_simp
            refine sched_take 5 rfl (by kernel_rfl) (by kernel_rfl) (by kernel_rfl) (fun _ _ _ h => h) rfl (fun x hx => by obtain ⟨y0, y1, y2, y3, y4⟩ := hb.out x (HUd.out.trans hx); go_simp; rfl) ?_
            go_simp
            refine sched_take 6 rfl (by kernel_rfl) (by kernel_rfl) (by kernel_rfl) (fun _ _ _ h => h) rfl (fun x hx => by go_simp; rfl) ?_
            go_simp
            refine sched_take 7 rfl (by kernel_rfl) (by kernel_rfl) (by kernel_rfl) (fun _ _ _ h => h) rfl (fun x hx => by go_simp; rfl) ?_
            go_simp
            refine sched_done (by kernel_rfl) ?_
            obtain ⟨y0, y1, y2, y3, y4⟩ := hb.out _ HUd.out
            go_wp2_with fail
            refine (hid.out _).mono ?_
            rintro e w1 ⟨rfl, hu⟩
            have HU1 := Lib.hid (HUd.out.trans hu)
            clear hu y0 y1 y2 y3 y4
            obtain ⟨y0, y1, y2, y3, y4⟩ := hb.out _ HU1.out
            go_wp2_with fail
            refine (hrk.out _ (HUa.out.trans HU1.out)).mono ?_
            rintro e w2 ⟨v2, rfl, hM⟩
            have HU2 := Lib.hid (HU1.out.trans hM.2)
            have hon := Lib.hid (once_any _ _ w2 hM.1.read (by rw [List.length_map]; exact hnn.out.1))
            rw [List.length_map] at hon
            clear hM y0 y1 y2 y3 y4
            go_wp2_with fail
            cases hK1 : allB (okK (rd.map fun x => x.key)) rd.length
            · rw [hK1] at hon hpass
              clear hK1
              refine hon.out.mono ?_
              rintro e w3 ⟨rfl, hu⟩
              have HU3 := Lib.hid (HU2.out.trans hu)
              clear hu
              go_wp2_with fail
              go_ret
              exact ⟨by rw [hpass.out]; rfl, HUa.out.trans HU3.out⟩
            · rw [hK1] at hon hpass
              clear hK1
              refine hon.out.mono ?_
              rintro e w3 ⟨rfl, hu⟩
              have HU3 := Lib.hid (HU2.out.trans hu)
              clear hu
              obtain ⟨y0, y1, y2, y3, y4⟩ := hb.out _ HU3.out
              go_wp2_with fail
              refine (hwk.out _ (HUa.out.trans HU3.out)).mono ?_
              rintro e w4 ⟨v4, rfl, hM⟩
              have HU4 := Lib.hid (HU3.out.trans hM.2)
              have hon2 := Lib.hid (once_any _ _ w4 hM.1.read (by rw [List.length_map]; exact hnn.out.2))
              rw [List.length_map] at hon2
              clear hM y0 y1 y2 y3 y4 hon
              go_wp2_with fail
              cases hK2 : allB (okK (wt.map fun x => x.key)) wt.length
              · rw [hK2] at hon2 hpass
                clear hK2
                refine hon2.out.mono ?_
                rintro e w5 ⟨rfl, hu⟩
                have HU5 := Lib.hid (HU4.out.trans hu)
                clear hu
                go_wp2_with fail
                go_ret
                exact ⟨by rw [hpass.out]; rfl, HUa.out.trans HU5.out⟩
              · rw [hK2] at hon2 hpass
                clear hK2
                refine hon2.out.mono ?_
                rintro e w5 ⟨rfl, hu⟩
                have HU5 := Lib.hid (HU4.out.trans hu)
                clear hu
                obtain ⟨y0, y1, y2, y3, y4⟩ := hb.out _ HU5.out
                go_wp2_with fail
                refine (hvl.out _ (HUa.out.trans HU5.out)).mono ?_
                rintro e w6 ⟨rfl, hu⟩
                have HU6 := Lib.hid (HU5.out.trans hu)
                clear hu
                generalize allB (okV wt) wt.length = V at *
                go_wp2_with fail
                go_ret
                exact ⟨by rw [hpass.out]; rfl, HUa.out.trans HU6.out⟩
          · by_cases hr : rd.length = 0
            · by_cases hw1 : wt.length = 1
              · have hpass := Lib.hid (show txnB tc tq true rd wt = (allB (okK (rd.map fun x => x.key)) rd.length && (allB (okK (wt.map fun x => x.key)) wt.length && allB (okV wt) wt.length)) from by
                  unfold txnB; rw [hI, hQ.out.1, hQ.out.2.1, hQ.out.2.2, show decide (rd.length = 0) = true from decide_eq_true hr, show decide (wt.length = 1) = true from decide_eq_true hw1]; rfl)
                have dr : ((rd.length : Int) == 0) = true := by simp [hr]
                have dr2 : ((rd.length : Int) != 0) = false := by simp [hr]
                have dw : ((wt.length : Int) == 1) = true := beq_iff_eq.2 (by omega)
                have dw2 : ((wt.length : Int) != 1) = false := by rw [bne, dw]; rfl
                clear hI hr hw1
                skip
                go_enter Try.func79, Try.ntmps79
                go_wp2_with fail
                rw [hwa.out]
                refine sched_begin NoB (by kernel_rfl) ?_
                have HUd := Lib.hid (Upd.refl NoB wa).drew
                refine sched_take 0 rfl (by kernel_rfl) (by kernel_rfl) (by kernel_rfl) (fun _ _ _ h => h) rfl (fun x hx => by obtain ⟨y0, y1, y2, y3, y4⟩ := hb.out x (HUd.out.trans hx); go_simp; rfl) ?_
                go_simp
                refine sched_take 1 rfl (by kernel_rfl) (by kernel_rfl) (by kernel_rfl) (fun _ _ _ h => h) rfl (fun x hx => by obtain ⟨y0, y1, y2, y3, y4⟩ := hb.out x (HUd.out.trans hx); go_simp; rfl) ?_
                go_simp
                refine sched_take 2 rfl (by kernel_rfl) (by kernel_rfl) (by kernel_rfl) (fun _ _ _ h => h) rfl (fun x hx => by obtain ⟨y0, y1, y2, y3, y4⟩ := hb.out x (HUd.out.trans hx); go_simp; rfl) ?_
                go_simp
                refine sched_take 3 rfl (by kernel_rfl) (by kernel_rfl) (by kernel_rfl) (fun _ _ _ h => h) rfl (fun x hx => by obtain ⟨y0, y1, y2, y3, y4⟩ := hb.out x (HUd.out.trans hx); go_simp; rfl) ?_
                go_simp
                refine sched_take 4 rfl (by kernel_rfl) (by kernel_rfl) (by kernel_rfl) (fun _ _ _ h => h) rfl (fun x hx => by obtain ⟨y0, y1, y2, y3, y4⟩ := hb.out x (HUd.out.trans hx); go_simp; rfl) ?_
                go_simp
                refine sched_take 5 rfl (by kernel_rfl) (by kernel_rfl) (by kernel_rfl) (fun _ _ _ h => h) rfl (fun x hx => by obtain ⟨y0, y1, y2, y3, y4⟩ := hb.out x (HUd.out.trans hx); go_simp; rfl) ?_
                go_simp
                refine sched_take 6 rfl (by kernel_rfl) (by kernel_rfl) (by kernel_rfl) (fun _ _ _ h => h) rfl (fun x hx => by go_simp; rfl) ?_
                go_simp
                refine sched_take 7 rfl (by kernel_rfl) (by kernel_rfl) (by kernel_rfl) (fun _ _ _ h => h) rfl (fun x hx => by go_simp; rfl) ?_
                go_simp
                refine sched_done (by kernel_rfl) ?_
                obtain ⟨y0, y1, y2, y3, y4⟩ := hb.out _ HUd.out
                go_wp2_with fail
                refine (hid.out _).mono ?_
                rintro e w1 ⟨rfl, hu⟩
                have HU1 := Lib.hid (HUd.out.trans hu)
                clear hu y0 y1 y2 y3 y4
                obtain ⟨y0, y1, y2, y3, y4⟩ := hb.out _ HU1.out
                go_wp2_with fail
                refine (hrk.out _ (HUa.out.trans HU1.out)).mono ?_
                rintro e w2 ⟨v2, rfl, hM⟩
                have HU2 := Lib.hid (HU1.out.trans hM.2)
                have hon := Lib.hid (once_any _ _ w2 hM.1.read (by rw [List.length_map]; exact hnn.out.1))
                rw [List.length_map] at hon
                clear hM y0 y1 y2 y3 y4
                go_wp2_with fail
                cases hK1 : allB (okK (rd.map fun x => x.key)) rd.length
                · rw [hK1] at hon hpass
                  clear hK1
                  refine hon.out.mono ?_
                  rintro e w3 ⟨rfl, hu⟩
                  have HU3 := Lib.hid (HU2.out.trans hu)
                  clear hu
                  go_wp2_with fail
                  go_ret
                  exact ⟨by rw [hpass.out]; rfl, HUa.out.trans HU3.out⟩
                · rw [hK1] at hon hpass
                  clear hK1
                  refine hon.out.mono ?_
                  rintro e w3 ⟨rfl, hu⟩
                  have HU3 := Lib.hid (HU2.out.trans hu)
                  clear hu
                  obtain ⟨y0, y1, y2, y3, y4⟩ := hb.out _ HU3.out
                  go_wp2_with fail
                  refine (hwk.out _ (HUa.out.trans HU3.out)).mono ?_
                  rintro e w4 ⟨v4, rfl, hM⟩
                  have HU4 := Lib.hid (HU3.out.trans hM.2)
                  have hon2 := Lib.hid (once_any _ _ w4 hM.1.read (by rw [List.length_map]; exact hnn.out.2))
                  rw [List.length_map] at hon2
                  clear hM y0 y1 y2 y3 y4 hon
                  go_wp2_with fail
                  cases hK2 : allB (okK (wt.map fun x => x.key)) wt.length
                  · rw [hK2] at hon2 hpass
                    clear hK2
                    refine hon2.out.mono ?_
                    rintro e w5 ⟨rfl, hu⟩
                    have HU5 := Lib.hid (HU4.out.trans hu)
                    clear hu
                    go_wp2_with fail
                    go_ret
                    exact ⟨by rw [hpass.out]; rfl, HUa.out.trans HU5.out⟩
                  · rw [hK2] at hon2 hpass
                    clear hK2
                    refine hon2.out.mono ?_
                    rintro e w5 ⟨rfl, hu⟩
                    have HU5 := Lib.hid (HU4.out.trans hu)
                    clear hu
                    obtain ⟨y0, y1, y2, y3, y4⟩ := hb.out _ HU5.out
                    go_wp2_with fail
                    refine (hvl.out _ (HUa.out.trans HU5.out)).mono ?_
                    rintro e w6 ⟨rfl, hu⟩
                    have HU6 := Lib.hid (HU5.out.trans hu)
                    clear hu
                    generalize allB (okV wt) wt.length = V at *
                    go_wp2_with fail
                    go_ret
                    exact ⟨by rw [hpass.out]; rfl, HUa.out.trans HU6.out⟩
              · have hres := Lib.hid (show txnB tc tq true rd wt = false from by unfold txnB; rw [show decide (wt.length = 1) = false from decide_eq_false hw1]; simp)
                have dr : ((rd.length : Int) == 0) = true := by simp [hr]
                have dr2 : ((rd.length : Int) != 0) = false := by simp [hr]
                have dw : ((wt.length : Int) == 1) = false := beq_eq_false_iff_ne.2 (by omega)
                have dw2 : ((wt.length : Int) != 1) = true := bne_iff_ne.2 (by omega)
                clear hI hr hw1
                skip
                go_enter Try.func79, Try.ntmps79
                go_wp2_with fail
                rw [hwa.out]
                refine sched_begin NoB (by kernel_rfl) ?_
                have HUd := Lib.hid (Upd.refl NoB wa).drew
                refine sched_take 0 rfl (by kernel_rfl) (by kernel_rfl) (by kernel_rfl) (fun _ _ _ h => h) rfl (fun x hx => by obtain ⟨y0, y1, y2, y3, y4⟩ := hb.out x (HUd.out.trans hx); go_simp; rfl) ?_
                go_simp
                refine sched_take 1 rfl (by kernel_rfl) (by kernel_rfl) (by kernel_rfl) (fun _ _ _ h => h) rfl (fun x hx => by obtain ⟨y0, y1, y2, y3, y4⟩ := hb.out x (HUd.out.trans hx); go_simp; rfl) ?_
                go_simp
                refine sched_take 2 rfl (by kernel_rfl) (by kernel_rfl) (by kernel_rfl) (fun _ _ _ h => h) rfl (fun x hx => by obtain ⟨y0, y1, y2, y3, y4⟩ := hb.out x (HUd.out.trans hx); go_simp; rfl) ?_
                go_simp
                refine sched_take 3 rfl (by kernel_rfl) (by kernel_rfl) (by kernel_rfl) (fun _ _ _ h => h) rfl (fun x hx => by obtain ⟨y0, y1, y2, y3, y4⟩ := hb.out x (HUd.out.trans hx); go_simp; rfl) ?_
                go_simp
                refine sched_take 4 rfl (by kernel_rfl) (by kernel_rfl) (by kernel_rfl) (fun _ _ _ h => h) rfl (fun x hx => by obtain ⟨y0, y1, y2, y3, y4⟩ := hb.out x (HUd.out.trans hx); go_simp; rfl) ?_
                go_simp
                refine sched_take 5 rfl (by kernel_rfl) (by kernel_rfl) (by kernel_rfl) (fun _ _ _ h => h) rfl (fun x hx => by obtain ⟨y0, y1, y2, y3, y4⟩ := hb.out x (HUd.out.trans hx); go_simp; rfl) ?_
                go_simp
                refine sched_take 6 rfl (by kernel_rfl) (by kernel_rfl) (by kernel_rfl) (fun _ _ _ h => h) rfl (fun x hx => by go_simp; rfl) ?_
                go_simp
                refine sched_take 7 rfl (by kernel_rfl) (by kernel_rfl) (by kernel_rfl) (fun _ _ _ h => h) rfl (fun x hx => by go_simp; rfl) ?_
                go_simp
                refine sched_done (by kernel_rfl) ?_
                obtain ⟨y0, y1, y2, y3, y4⟩ := hb.out _ HUd.out
                go_wp2_with fail
                refine (hid.out _).mono ?_
                rintro e w1 ⟨rfl, hu⟩
                have HU1 := Lib.hid (HUd.out.trans hu)
                clear hu y0 y1 y2 y3 y4
                obtain ⟨y0, y1, y2, y3, y4⟩ := hb.out _ HU1.out
                go_wp2_with fail
                go_ret
                exact ⟨by rw [hres.out]; rfl, HUa.out.trans HU1.out⟩
            · have hres := Lib.hid (show txnB tc tq true rd wt = false from by unfold txnB; rw [show decide (rd.length = 0) = false from decide_eq_false hr]; simp)
              have dr : ((rd.length : Int) == 0) = false := beq_eq_false_iff_ne.2 (by omega)
              have dr2 : ((rd.length : Int) != 0) = true := bne_iff_ne.2 (by omega)
              clear hI hr
              skip
              go_enter Try.func79, Try.ntmps79
              go_wp2_with fail
              rw [hwa.out]
              refine sched_begin NoB (by kernel_rfl) ?_
              have HUd := Lib.hid (Upd.refl NoB wa).drew
              refine sched_take 0 rfl (by kernel_rfl) (by kernel_rfl) (by kernel_rfl) (fun _ _ _ h => h) rfl (fun x hx => by obtain ⟨y0, y1, y2, y3, y4⟩ := hb.out x (HUd.out.trans hx); go_simp; rfl) ?_
              go_simp
              refine sched_take 1 rfl (by kernel_rfl) (by kernel_rfl) (by kernel_rfl) (fun _ _ _ h => h) rfl (fun x hx => by obtain ⟨y0, y1, y2, y3, y4⟩ := hb.out x (HUd.out.trans hx); go_simp; rfl) ?_
              go_simp
              refine sched_take 2 rfl (by kernel_rfl) (by kernel_rfl) (by kernel_rfl) (fun _ _ _ h => h) rfl (fun x hx => by obtain ⟨y0, y1, y2, y3, y4⟩ := hb.out x (HUd.out.trans hx); go_simp; rfl) ?_
              go_simp
              refine sched_take 3 rfl (by kernel_rfl) (by kernel_rfl) (by kernel_rfl) (fun _ _ _ h => h) rfl (fun x hx => by obtain ⟨y0, y1, y2, y3, y4⟩ := hb.out x (HUd.out.trans hx); go_simp; rfl) ?_
              go_simp
              refine sched_take 4 rfl (by kernel_rfl) (by kernel_rfl) (by kernel_rfl) (fun _ _ _ h => h) rfl (fun x hx => by obtain ⟨y0, y1, y2, y3, y4⟩ := hb.out x (HUd.out.trans hx); go_simp; rfl) ?_
              go_simp
              refine sched_take 5 rfl (by kernel_rfl) (by kernel_rfl) (by kernel_rfl) (fun _ _ _ h => h) rfl (fun x hx => by obtain ⟨y0, y1, y2, y3, y4⟩ := hb.out x (HUd.out.trans hx); go_simp; rfl) ?_
              go_simp
              refine sched_take 6 rfl (by kernel_rfl) (by kernel_rfl) (by kernel_rfl) (fun _ _ _ h => h) rfl (fun x hx => by go_simp; rfl) ?_
              go_simp
              refine sched_take 7 rfl (by kernel_rfl) (by kernel_rfl) (by kernel_rfl) (fun _ _ _ h => h) rfl (fun x hx => by go_simp; rfl) ?_
              go_simp
              refine sched_done (by kernel_rfl) ?_
              obtain ⟨y0, y1, y2, y3, y4⟩ := hb.out _ HUd.out
              go_wp2_with fail
              refine (hid.out _).mono ?_
              rintro e w1 ⟨rfl, hu⟩
              have HU1 := Lib.hid (HUd.out.trans hu)
              clear hu y0 y1 y2 y3 y4
              obtain ⟨y0, y1, y2, y3, y4⟩ := hb.out _ HU1.out
              go_wp2_with fail
              go_ret
              exact ⟨by rw [hres.out]; rfl, HUa.out.trans HU1.out⟩
end Go.Proofs.Ytobfolkcpfaplaa
