/- Who holds what: one call of both tables: they answer alike. -/
import Derived.Test.YtobfolkcpfaplaaLockT
namespace Go.Proofs.Ytobfolkcpfaplaa
open Go.RowKit Kit
set_option linter.unusedVariables false

def stepL (kd cl sq a : Int) (rl wl : List ByteArray) (l : List Span) (last : Int) : List Span × Int :=
  if kd = 0 ∨ kd = 1 ∨ kd = 2 then (takeL l last cl sq a (fewL rl) (fewL wl)).2 else if kd = 3 then (freeL l last cl sq a).2 else (l, last)
theorem stepL_good {l : List Span} {last : Int} (h : Good l last) (kd cl sq a : Int) (rl wl : List ByteArray) : Good (stepL kd cl sq a rl wl l last).1 (stepL kd cl sq a rl wl l last).2 := by
  unfold stepL
  split
  · exact take_good h _ _ _ _ _
  split
  · exact free_good h _ _ _
  · exact h
theorem take_len (l : List Span) (last cl sq a : Int) (rl wl : List ByteArray) (hr : rl.length ≤ 6) (hw : wl.length ≤ 6) :
    (takeL l last cl sq a rl wl).2.1.length ≤ l.length + 1 ∧ (rowsL (takeL l last cl sq a rl wl).2.1).length ≤ (rowsL l).length + 13 := by
  unfold takeL
  repeat' split
  all_goals first | exact ⟨Nat.le_succ _, Nat.le_add_right _ _⟩ | skip
  refine ⟨by simp, ?_⟩
  show (rowsL (l ++ [⟨cl, sq, rl, wl, a, 0⟩])).length ≤ _
  rw [rowsL_snoc, List.length_append]
  unfold rowsS
  simp
  omega
theorem free_len {l : List Span} {last : Int} (h : Good l last) (cl sq a : Int) : (freeL l last cl sq a).2.1.length = l.length ∧ (rowsL (freeL l last cl sq a).2.1).length = (rowsL l).length := by
  have hr := congrArg (fun x => x.2.1.length) (free_rows h cl sq a)
  simp only at hr
  constructor
  · unfold freeL
    split
    · rfl
    split
    · rfl
    · simp
  · rw [← hr]
    unfold rfree
    split
    · rfl
    split
    · rfl
    · simp
theorem stepL_len {l : List Span} {last : Int} (h : Good l last) (kd cl sq a : Int) (rl wl : List ByteArray) :
    (stepL kd cl sq a rl wl l last).1.length ≤ l.length + 1 ∧ (rowsL (stepL kd cl sq a rl wl l last).1).length ≤ (rowsL l).length + 13 := by
  unfold stepL
  split
  · exact take_len _ _ _ _ _ _ _ (fewL_len _) (fewL_len _)
  split
  · have := free_len h cl sq a
    omega
  · exact ⟨Nat.le_succ _, Nat.le_add_right _ _⟩
set_option maxHeartbeats 16000000 in
set_option maxRecDepth 100000 in
theorem step_any {S : Nat → Prop} (w0 : World) (xs : List Nat) (p q : Nat) (l : List Span) (last kd cl sq a : Int) (Aa Ab : Option Addr) (ca cb : Nat) (rl wl : List ByteArray) (w : World)
    (h : Tw w0 w xs p q l last (rowsL l) last) (hg : Good l last) (hl : l.length ≤ 400) (hL : (rowsL l).length ≤ 6000) (hS : ∀ b, S b → b < w0.heap.size)
    (h3 : RSlW Rep.str w S (.slice Aa rl.length ca) rl) (h4 : RSlW Rep.str w S (.slice Ab wl.length cb) wl) :
    Calls Try.prog 17 #[.pointer (some ⟨p, 0, none⟩), .pointer (some ⟨q, 0, none⟩), .agg #[.int .i64 kd, .int .i64 cl, .int .u64 sq, .int .i64 a, .slice Aa rl.length ca, .slice Ab wl.length cb]] w fun e w' =>
      e = .returned (.bool true) ∧ Tw w0 w' xs p q (stepL kd cl sq a rl wl l last).1 (stepL kd cl sq a rl wl l last).2 (rowsL (stepL kd cl sq a rl wl l last).1) (stepL kd cl sq a rl wl l last).2 ∧ Upd (fun b => w0.heap.size ≤ b ∧ b ∉ xs) w w' := by
  obtain ⟨wa, hwa⟩ : ∃ wa, w.alloc (.cells #[.int .i64 kd, .int .i64 cl, .int .u64 sq, .int .i64 a, .slice Aa rl.length ca, .slice Ab wl.length cb] 34) = wa := ⟨_, rfl⟩
  have hua : Upd NoB w wa := by rw [← hwa]; exact (Upd.refl _ _).alloc _
  have hB := Lib.hid (show wa.heap[w.heap.size]? = some (.cells #[.int .i64 kd, .int .i64 cl, .int .u64 sq, .int .i64 a, .slice Aa rl.length ca, .slice Ab wl.length cb] 34 (0, 0)) by rw [← hwa]; exact heap_alloc_new _ _)
  have HTa := Lib.hid (show Tw w0 wa (w.heap.size :: xs) p q l last (rowsL l) last by rw [← hwa]; exact h.add _)
  obtain ⟨k0, k1, k2, k3, k4, k5⟩ := six_cells hB.out
  have hw0 : w0.heap.size ≤ w.heap.size := h.upd.size
  clear h
  unfold stepL
  by_cases hk : kd = 0 ∨ kd = 1 ∨ kd = 2
  · rw [if_pos hk]
    have htk := Lib.hid (take_rows hg.keys last cl sq a (fewL rl) (fewL wl))
    generalize hRR : takeL l last cl sq a (fewL rl) (fewL wl) = R at *
    have HRR := Lib.hid hRR
    clear hRR
    rcases hk with rfl | rfl | rfl
    · skip
      have HU0 := Lib.hid (Upd.refl (fun b => w0.heap.size ≤ b ∧ b ∉ w.heap.size :: xs) wa.drew)
      have HT0 := Lib.hid (HTa.out.keep (Upd.refl NoB wa).drew)
      have hbd := Lib.hid (fun x (hx : Upd (fun b => b ≠ w.heap.size) wa.drew x) => six_cells (hx.heap (show wa.drew.heap[w.heap.size]? = _ from hB.out) (fun h => h rfl)))
      have hff : ∀ b, (w0.heap.size ≤ b ∧ b ∉ w.heap.size :: xs) → b ≠ w.heap.size := fun b hb e => hb.2 (by rw [e]; simp)
      have hrd := Lib.hid (fun x (hx : Upd (fun b => w0.heap.size ≤ b ∧ b ∉ w.heap.size :: xs) wa.drew x) => few_any (.slice Aa rl.length ca) rl x ((h3.upd (hua.trans (Upd.refl NoB wa).drew) (fun _ _ h => h)).upd hx (fun b hb hf => by have := hS b hb; omega)))
      have hwr := Lib.hid (fun x (hx : Upd (fun b => w0.heap.size ≤ b ∧ b ∉ w.heap.size :: xs) wa.drew x) => few_any (.slice Ab wl.length cb) wl x ((h4.upd (hua.trans (Upd.refl NoB wa).drew) (fun _ _ h => h)).upd hx (fun b hb hf => by have := hS b hb; omega)))
      go_enter Try.func17, Try.ntmps17
      go_wp2_with fail
      refine sched_begin (fun b => b ≠ w.heap.size) (by kernel_rfl) ?_
      refine sched_take 0 rfl (by kernel_rfl) (by kernel_rfl) (by kernel_rfl) (fun _ _ _ h => h) rfl (fun x hx => by go_simp; rfl) ?_
      go_simp
      refine sched_take 1 rfl (by kernel_rfl) (by kernel_rfl) (by kernel_rfl) (fun _ _ _ h => h) rfl (fun x hx => by go_simp; rfl) ?_
      go_simp
      refine sched_take 2 rfl (by kernel_rfl) (by kernel_rfl) (by kernel_rfl) (fun _ _ _ h => h) rfl (fun x hx => by obtain ⟨x0, x1, x2, x3, x4, x5⟩ := hbd.out _ hx; go_simp; rfl) ?_
      go_simp
      refine sched_take 3 rfl (by kernel_rfl) (by kernel_rfl) (by kernel_rfl) (fun _ _ _ h => h) rfl (fun x hx => by go_simp; rfl) ?_
      go_simp
      refine sched_take 4 rfl (by kernel_rfl) (by kernel_rfl) (by kernel_rfl) (fun _ _ _ h => h) rfl (fun x hx => by obtain ⟨x0, x1, x2, x3, x4, x5⟩ := hbd.out _ hx; go_simp; rfl) ?_
      go_simp
      refine sched_take 5 rfl (by kernel_rfl) (by kernel_rfl) (by kernel_rfl) (fun _ _ _ h => h) rfl (fun x hx => by go_simp; rfl) ?_
      go_simp
      refine sched_take 6 rfl (by kernel_rfl) (by kernel_rfl) (by kernel_rfl) (fun _ _ _ h => h) rfl (fun x hx => by obtain ⟨x0, x1, x2, x3, x4, x5⟩ := hbd.out _ hx; go_simp; rfl) ?_
      go_simp
      refine sched_take 8 rfl (by kernel_rfl) (by kernel_rfl) (by kernel_rfl) (fun _ _ _ h => h) rfl (fun x hx => by go_simp; rfl) ?_
      go_simp
      refine sched_take 9 rfl (by kernel_rfl) (by kernel_rfl) (by kernel_rfl) (fun _ _ _ h => h) rfl (fun x hx => by obtain ⟨x0, x1, x2, x3, x4, x5⟩ := hbd.out _ hx; go_simp; rfl) ?_
      go_simp
      refine sched_take 12 rfl (by kernel_rfl) (by kernel_rfl) (by kernel_rfl) (fun _ _ _ h => h) rfl (fun x hx => by go_simp; rfl) ?_
      go_simp
      refine sched_take 13 rfl (by kernel_rfl) (by kernel_rfl) (by kernel_rfl) (fun _ _ _ h => h) rfl (fun x hx => by go_simp; rfl) ?_
      go_simp
      refine sched_take 14 rfl (by kernel_rfl) (by kernel_rfl) (by kernel_rfl) (fun _ _ _ h => h) rfl (fun x hx => by obtain ⟨x0, x1, x2, x3, x4, x5⟩ := hbd.out _ hx; go_simp; rfl) ?_
      go_simp
      refine sched_take 15 rfl (by kernel_rfl) (by kernel_rfl) (by kernel_rfl) (fun _ _ _ h => h) rfl (fun x hx => by go_simp; rfl) ?_
      go_simp
      refine sched_take 16 rfl (by kernel_rfl) (by kernel_rfl) (by kernel_rfl) (fun _ _ _ h => h) rfl (fun x hx => by obtain ⟨x0, x1, x2, x3, x4, x5⟩ := hbd.out _ hx; go_simp; rfl) ?_
      go_simp
      refine sched_take 17 rfl (by kernel_rfl) (by kernel_rfl) (by kernel_rfl) (fun _ _ _ h => h) rfl (fun x hx => by go_simp; rfl) ?_
      go_simp
      refine sched_take 18 rfl (by kernel_rfl) (by kernel_rfl) (by kernel_rfl) (fun _ _ _ h => h) rfl (fun x hx => by obtain ⟨x0, x1, x2, x3, x4, x5⟩ := hbd.out _ hx; go_simp; rfl) ?_
      go_simp
      refine sched_take 20 rfl (by kernel_rfl) (by kernel_rfl) (by kernel_rfl) (fun _ _ _ h => h) rfl (fun x hx => by go_simp; rfl) ?_
      go_simp
      refine sched_take 21 rfl (by kernel_rfl) (by kernel_rfl) (by kernel_rfl) (fun _ _ _ h => h) rfl (fun x hx => by obtain ⟨x0, x1, x2, x3, x4, x5⟩ := hbd.out _ hx; go_simp; rfl) ?_
      go_simp
      refine sched_alone 7 (by kernel_rfl) rfl rfl ?_
      go_simp
      refine (hrd.out _ HU0.out).mono ?_
      rintro e w1 ⟨v1, rfl, hM⟩
      refine ⟨hM.2.mono (fun _ _ h => h.elim), ?_⟩
      have HM1 := Lib.hid hM
      have HU1 := Lib.hid (HU0.out.trans (hM.2.mono (fun _ _ h => h.elim)))
      have HT1 := Lib.hid (HT0.out.keep hM.2)
      obtain ⟨A1, c1, _, rfl, _⟩ := hM.1.read
      clear hM
      go_simp
      refine sched_alone 10 (by kernel_rfl) rfl rfl ?_
      go_simp
      refine (hwr.out _ HU1.out).mono ?_
      rintro e w2 ⟨v2, rfl, hM⟩
      refine ⟨hM.2.mono (fun _ _ h => h.elim), ?_⟩
      have HM2 := Lib.hid hM
      have HU2 := Lib.hid (HU1.out.trans (hM.2.mono (fun _ _ h => h.elim)))
      have HT2 := Lib.hid (HT1.out.keep hM.2)
      obtain ⟨A2, c2, _, rfl, _⟩ := hM.1.read
      clear hM
      go_simp
      refine sched_alone 11 (by kernel_rfl) rfl rfl ?_
      go_simp
      refine (two_take cl sq a _ _ _ _ HT2.out (HM1.out.upd HM2.out.2).1.read HM2.out.1.read (by omega) (by have := fewL_len rl; omega) (by have := fewL_len wl; omega)).mono ?_
      rintro e w3 ⟨rfl, hT, hu⟩
      refine ⟨hu.mono (fun b _ hb => hff b hb), ?_⟩
      rw [HRR.out] at hT ⊢
      have HT3 := Lib.hid hT
      have HU3 := Lib.hid (HU2.out.trans hu)
      clear hT hu
      go_simp
      refine sched_alone 19 (by kernel_rfl) rfl rfl ?_
      go_simp
      refine (hrd.out _ HU3.out).mono ?_
      rintro e w4 ⟨v4, rfl, hM⟩
      refine ⟨hM.2.mono (fun _ _ h => h.elim), ?_⟩
      have HM4 := Lib.hid hM
      have HU4 := Lib.hid (HU3.out.trans (hM.2.mono (fun _ _ h => h.elim)))
      have HT4 := Lib.hid (HT3.out.keep hM.2)
      obtain ⟨A4, c4, _, rfl, _⟩ := hM.1.read
      clear hM
      go_simp
      refine sched_alone 22 (by kernel_rfl) rfl rfl ?_
      go_simp
      refine (hwr.out _ HU4.out).mono ?_
      rintro e w5 ⟨v5, rfl, hM⟩
      refine ⟨hM.2.mono (fun _ _ h => h.elim), ?_⟩
      have HM5 := Lib.hid hM
      have HU5 := Lib.hid (HU4.out.trans (hM.2.mono (fun _ _ h => h.elim)))
      have HT5 := Lib.hid (HT4.out.keep hM.2)
      obtain ⟨A5, c5, _, rfl, _⟩ := hM.1.read
      clear hM
      go_simp
      refine sched_alone 23 (by kernel_rfl) rfl rfl ?_
      go_simp
      refine (two_rtake cl sq a _ _ _ _ HT5.out (HM4.out.upd HM5.out.2).1.read HM5.out.1.read (by omega) (by have := fewL_len rl; omega) (by have := fewL_len wl; omega)).mono ?_
      rintro e w6 ⟨rfl, hT, hu⟩
      refine ⟨hu.mono (fun b _ hb => hff b hb), ?_⟩
      rw [htk.out] at hT
      have HT6 := Lib.hid hT
      have HU6 := Lib.hid (HU5.out.trans hu)
      clear hT hu
      rw [htk.out]
      go_simp
      refine sched_take 24 rfl (by kernel_rfl) (by kernel_rfl) (by kernel_rfl) (fun _ _ _ h => h) rfl (fun x hx => by go_simp; rfl) ?_
      go_simp
      refine sched_take 25 rfl (by kernel_rfl) (by kernel_rfl) (by kernel_rfl) (fun _ _ _ h => h) rfl (fun x hx => by go_simp; rfl) ?_
      go_simp
      refine sched_done (by kernel_rfl) ?_
      go_wp2_with fail
      go_ret
      exact ⟨rfl, HT6.out.sub (fun b hb => List.mem_cons_of_mem _ hb), ((hua.trans (Upd.refl NoB wa).drew).mono (fun _ _ h => h.elim)).then HU6.out (fun b hb hf => ⟨hf.1, fun hm => hf.2 (List.mem_cons_of_mem _ hm)⟩)⟩
    · skip
      have HU0 := Lib.hid (Upd.refl (fun b => w0.heap.size ≤ b ∧ b ∉ w.heap.size :: xs) wa.drew)
      have HT0 := Lib.hid (HTa.out.keep (Upd.refl NoB wa).drew)
      have hbd := Lib.hid (fun x (hx : Upd (fun b => b ≠ w.heap.size) wa.drew x) => six_cells (hx.heap (show wa.drew.heap[w.heap.size]? = _ from hB.out) (fun h => h rfl)))
      have hff : ∀ b, (w0.heap.size ≤ b ∧ b ∉ w.heap.size :: xs) → b ≠ w.heap.size := fun b hb e => hb.2 (by rw [e]; simp)
      have hrd := Lib.hid (fun x (hx : Upd (fun b => w0.heap.size ≤ b ∧ b ∉ w.heap.size :: xs) wa.drew x) => few_any (.slice Aa rl.length ca) rl x ((h3.upd (hua.trans (Upd.refl NoB wa).drew) (fun _ _ h => h)).upd hx (fun b hb hf => by have := hS b hb; omega)))
      have hwr := Lib.hid (fun x (hx : Upd (fun b => w0.heap.size ≤ b ∧ b ∉ w.heap.size :: xs) wa.drew x) => few_any (.slice Ab wl.length cb) wl x ((h4.upd (hua.trans (Upd.refl NoB wa).drew) (fun _ _ h => h)).upd hx (fun b hb hf => by have := hS b hb; omega)))
      go_enter Try.func17, Try.ntmps17
      go_wp2_with fail
      refine sched_begin (fun b => b ≠ w.heap.size) (by kernel_rfl) ?_
      refine sched_take 0 rfl (by kernel_rfl) (by kernel_rfl) (by kernel_rfl) (fun _ _ _ h => h) rfl (fun x hx => by go_simp; rfl) ?_
      go_simp
      refine sched_take 1 rfl (by kernel_rfl) (by kernel_rfl) (by kernel_rfl) (fun _ _ _ h => h) rfl (fun x hx => by go_simp; rfl) ?_
      go_simp
      refine sched_take 2 rfl (by kernel_rfl) (by kernel_rfl) (by kernel_rfl) (fun _ _ _ h => h) rfl (fun x hx => by obtain ⟨x0, x1, x2, x3, x4, x5⟩ := hbd.out _ hx; go_simp; rfl) ?_
      go_simp
      refine sched_take 3 rfl (by kernel_rfl) (by kernel_rfl) (by kernel_rfl) (fun _ _ _ h => h) rfl (fun x hx => by go_simp; rfl) ?_
      go_simp
      refine sched_take 4 rfl (by kernel_rfl) (by kernel_rfl) (by kernel_rfl) (fun _ _ _ h => h) rfl (fun x hx => by obtain ⟨x0, x1, x2, x3, x4, x5⟩ := hbd.out _ hx; go_simp; rfl) ?_
      go_simp
      refine sched_take 5 rfl (by kernel_rfl) (by kernel_rfl) (by kernel_rfl) (fun _ _ _ h => h) rfl (fun x hx => by go_simp; rfl) ?_
      go_simp
      refine sched_take 6 rfl (by kernel_rfl) (by kernel_rfl) (by kernel_rfl) (fun _ _ _ h => h) rfl (fun x hx => by obtain ⟨x0, x1, x2, x3, x4, x5⟩ := hbd.out _ hx; go_simp; rfl) ?_
      go_simp
      refine sched_take 8 rfl (by kernel_rfl) (by kernel_rfl) (by kernel_rfl) (fun _ _ _ h => h) rfl (fun x hx => by go_simp; rfl) ?_
      go_simp
      refine sched_take 9 rfl (by kernel_rfl) (by kernel_rfl) (by kernel_rfl) (fun _ _ _ h => h) rfl (fun x hx => by obtain ⟨x0, x1, x2, x3, x4, x5⟩ := hbd.out _ hx; go_simp; rfl) ?_
      go_simp
      refine sched_take 12 rfl (by kernel_rfl) (by kernel_rfl) (by kernel_rfl) (fun _ _ _ h => h) rfl (fun x hx => by go_simp; rfl) ?_
      go_simp
      refine sched_take 13 rfl (by kernel_rfl) (by kernel_rfl) (by kernel_rfl) (fun _ _ _ h => h) rfl (fun x hx => by go_simp; rfl) ?_
      go_simp
      refine sched_take 14 rfl (by kernel_rfl) (by kernel_rfl) (by kernel_rfl) (fun _ _ _ h => h) rfl (fun x hx => by obtain ⟨x0, x1, x2, x3, x4, x5⟩ := hbd.out _ hx; go_simp; rfl) ?_
      go_simp
      refine sched_take 15 rfl (by kernel_rfl) (by kernel_rfl) (by kernel_rfl) (fun _ _ _ h => h) rfl (fun x hx => by go_simp; rfl) ?_
      go_simp
      refine sched_take 16 rfl (by kernel_rfl) (by kernel_rfl) (by kernel_rfl) (fun _ _ _ h => h) rfl (fun x hx => by obtain ⟨x0, x1, x2, x3, x4, x5⟩ := hbd.out _ hx; go_simp; rfl) ?_
      go_simp
      refine sched_take 17 rfl (by kernel_rfl) (by kernel_rfl) (by kernel_rfl) (fun _ _ _ h => h) rfl (fun x hx => by go_simp; rfl) ?_
      go_simp
      refine sched_take 18 rfl (by kernel_rfl) (by kernel_rfl) (by kernel_rfl) (fun _ _ _ h => h) rfl (fun x hx => by obtain ⟨x0, x1, x2, x3, x4, x5⟩ := hbd.out _ hx; go_simp; rfl) ?_
      go_simp
      refine sched_take 20 rfl (by kernel_rfl) (by kernel_rfl) (by kernel_rfl) (fun _ _ _ h => h) rfl (fun x hx => by go_simp; rfl) ?_
      go_simp
      refine sched_take 21 rfl (by kernel_rfl) (by kernel_rfl) (by kernel_rfl) (fun _ _ _ h => h) rfl (fun x hx => by obtain ⟨x0, x1, x2, x3, x4, x5⟩ := hbd.out _ hx; go_simp; rfl) ?_
      go_simp
      refine sched_alone 7 (by kernel_rfl) rfl rfl ?_
      go_simp
      refine (hrd.out _ HU0.out).mono ?_
      rintro e w1 ⟨v1, rfl, hM⟩
      refine ⟨hM.2.mono (fun _ _ h => h.elim), ?_⟩
      have HM1 := Lib.hid hM
      have HU1 := Lib.hid (HU0.out.trans (hM.2.mono (fun _ _ h => h.elim)))
      have HT1 := Lib.hid (HT0.out.keep hM.2)
      obtain ⟨A1, c1, _, rfl, _⟩ := hM.1.read
      clear hM
      go_simp
      refine sched_alone 10 (by kernel_rfl) rfl rfl ?_
      go_simp
      refine (hwr.out _ HU1.out).mono ?_
      rintro e w2 ⟨v2, rfl, hM⟩
      refine ⟨hM.2.mono (fun _ _ h => h.elim), ?_⟩
      have HM2 := Lib.hid hM
      have HU2 := Lib.hid (HU1.out.trans (hM.2.mono (fun _ _ h => h.elim)))
      have HT2 := Lib.hid (HT1.out.keep hM.2)
      obtain ⟨A2, c2, _, rfl, _⟩ := hM.1.read
      clear hM
      go_simp
      refine sched_alone 11 (by kernel_rfl) rfl rfl ?_
      go_simp
      refine (two_take cl sq a _ _ _ _ HT2.out (HM1.out.upd HM2.out.2).1.read HM2.out.1.read (by omega) (by have := fewL_len rl; omega) (by have := fewL_len wl; omega)).mono ?_
      rintro e w3 ⟨rfl, hT, hu⟩
      refine ⟨hu.mono (fun b _ hb => hff b hb), ?_⟩
      rw [HRR.out] at hT ⊢
      have HT3 := Lib.hid hT
      have HU3 := Lib.hid (HU2.out.trans hu)
      clear hT hu
      go_simp
      refine sched_alone 19 (by kernel_rfl) rfl rfl ?_
      go_simp
      refine (hrd.out _ HU3.out).mono ?_
      rintro e w4 ⟨v4, rfl, hM⟩
      refine ⟨hM.2.mono (fun _ _ h => h.elim), ?_⟩
      have HM4 := Lib.hid hM
      have HU4 := Lib.hid (HU3.out.trans (hM.2.mono (fun _ _ h => h.elim)))
      have HT4 := Lib.hid (HT3.out.keep hM.2)
      obtain ⟨A4, c4, _, rfl, _⟩ := hM.1.read
      clear hM
      go_simp
      refine sched_alone 22 (by kernel_rfl) rfl rfl ?_
      go_simp
      refine (hwr.out _ HU4.out).mono ?_
      rintro e w5 ⟨v5, rfl, hM⟩
      refine ⟨hM.2.mono (fun _ _ h => h.elim), ?_⟩
      have HM5 := Lib.hid hM
      have HU5 := Lib.hid (HU4.out.trans (hM.2.mono (fun _ _ h => h.elim)))
      have HT5 := Lib.hid (HT4.out.keep hM.2)
      obtain ⟨A5, c5, _, rfl, _⟩ := hM.1.read
      clear hM
      go_simp
      refine sched_alone 23 (by kernel_rfl) rfl rfl ?_
      go_simp
      refine (two_rtake cl sq a _ _ _ _ HT5.out (HM4.out.upd HM5.out.2).1.read HM5.out.1.read (by omega) (by have := fewL_len rl; omega) (by have := fewL_len wl; omega)).mono ?_
      rintro e w6 ⟨rfl, hT, hu⟩
      refine ⟨hu.mono (fun b _ hb => hff b hb), ?_⟩
      rw [htk.out] at hT
      have HT6 := Lib.hid hT
      have HU6 := Lib.hid (HU5.out.trans hu)
      clear hT hu
      rw [htk.out]
      go_simp
      refine sched_take 24 rfl (by kernel_rfl) (by kernel_rfl) (by kernel_rfl) (fun _ _ _ h => h) rfl (fun x hx => by go_simp; rfl) ?_
      go_simp
      refine sched_take 25 rfl (by kernel_rfl) (by kernel_rfl) (by kernel_rfl) (fun _ _ _ h => h) rfl (fun x hx => by go_simp; rfl) ?_
      go_simp
      refine sched_done (by kernel_rfl) ?_
      go_wp2_with fail
      go_ret
      exact ⟨rfl, HT6.out.sub (fun b hb => List.mem_cons_of_mem _ hb), ((hua.trans (Upd.refl NoB wa).drew).mono (fun _ _ h => h.elim)).then HU6.out (fun b hb hf => ⟨hf.1, fun hm => hf.2 (List.mem_cons_of_mem _ hm)⟩)⟩
    · skip
      have HU0 := Lib.hid (Upd.refl (fun b => w0.heap.size ≤ b ∧ b ∉ w.heap.size :: xs) wa.drew)
      have HT0 := Lib.hid (HTa.out.keep (Upd.refl NoB wa).drew)
      have hbd := Lib.hid (fun x (hx : Upd (fun b => b ≠ w.heap.size) wa.drew x) => six_cells (hx.heap (show wa.drew.heap[w.heap.size]? = _ from hB.out) (fun h => h rfl)))
      have hff : ∀ b, (w0.heap.size ≤ b ∧ b ∉ w.heap.size :: xs) → b ≠ w.heap.size := fun b hb e => hb.2 (by rw [e]; simp)
      have hrd := Lib.hid (fun x (hx : Upd (fun b => w0.heap.size ≤ b ∧ b ∉ w.heap.size :: xs) wa.drew x) => few_any (.slice Aa rl.length ca) rl x ((h3.upd (hua.trans (Upd.refl NoB wa).drew) (fun _ _ h => h)).upd hx (fun b hb hf => by have := hS b hb; omega)))
      have hwr := Lib.hid (fun x (hx : Upd (fun b => w0.heap.size ≤ b ∧ b ∉ w.heap.size :: xs) wa.drew x) => few_any (.slice Ab wl.length cb) wl x ((h4.upd (hua.trans (Upd.refl NoB wa).drew) (fun _ _ h => h)).upd hx (fun b hb hf => by have := hS b hb; omega)))
      go_enter Try.func17, Try.ntmps17
      go_wp2_with fail
      refine sched_begin (fun b => b ≠ w.heap.size) (by kernel_rfl) ?_
      refine sched_take 0 rfl (by kernel_rfl) (by kernel_rfl) (by kernel_rfl) (fun _ _ _ h => h) rfl (fun x hx => by go_simp; rfl) ?_
      go_simp
      refine sched_take 1 rfl (by kernel_rfl) (by kernel_rfl) (by kernel_rfl) (fun _ _ _ h => h) rfl (fun x hx => by go_simp; rfl) ?_
      go_simp
      refine sched_take 2 rfl (by kernel_rfl) (by kernel_rfl) (by kernel_rfl) (fun _ _ _ h => h) rfl (fun x hx => by obtain ⟨x0, x1, x2, x3, x4, x5⟩ := hbd.out _ hx; go_simp; rfl) ?_
      go_simp
      refine sched_take 3 rfl (by kernel_rfl) (by kernel_rfl) (by kernel_rfl) (fun _ _ _ h => h) rfl (fun x hx => by go_simp; rfl) ?_
      go_simp
      refine sched_take 4 rfl (by kernel_rfl) (by kernel_rfl) (by kernel_rfl) (fun _ _ _ h => h) rfl (fun x hx => by obtain ⟨x0, x1, x2, x3, x4, x5⟩ := hbd.out _ hx; go_simp; rfl) ?_
      go_simp
      refine sched_take 5 rfl (by kernel_rfl) (by kernel_rfl) (by kernel_rfl) (fun _ _ _ h => h) rfl (fun x hx => by go_simp; rfl) ?_
      go_simp
      refine sched_take 6 rfl (by kernel_rfl) (by kernel_rfl) (by kernel_rfl) (fun _ _ _ h => h) rfl (fun x hx => by obtain ⟨x0, x1, x2, x3, x4, x5⟩ := hbd.out _ hx; go_simp; rfl) ?_
      go_simp
      refine sched_take 8 rfl (by kernel_rfl) (by kernel_rfl) (by kernel_rfl) (fun _ _ _ h => h) rfl (fun x hx => by go_simp; rfl) ?_
      go_simp
      refine sched_take 9 rfl (by kernel_rfl) (by kernel_rfl) (by kernel_rfl) (fun _ _ _ h => h) rfl (fun x hx => by obtain ⟨x0, x1, x2, x3, x4, x5⟩ := hbd.out _ hx; go_simp; rfl) ?_
      go_simp
      refine sched_take 12 rfl (by kernel_rfl) (by kernel_rfl) (by kernel_rfl) (fun _ _ _ h => h) rfl (fun x hx => by go_simp; rfl) ?_
      go_simp
      refine sched_take 13 rfl (by kernel_rfl) (by kernel_rfl) (by kernel_rfl) (fun _ _ _ h => h) rfl (fun x hx => by go_simp; rfl) ?_
      go_simp
      refine sched_take 14 rfl (by kernel_rfl) (by kernel_rfl) (by kernel_rfl) (fun _ _ _ h => h) rfl (fun x hx => by obtain ⟨x0, x1, x2, x3, x4, x5⟩ := hbd.out _ hx; go_simp; rfl) ?_
      go_simp
      refine sched_take 15 rfl (by kernel_rfl) (by kernel_rfl) (by kernel_rfl) (fun _ _ _ h => h) rfl (fun x hx => by go_simp; rfl) ?_
      go_simp
      refine sched_take 16 rfl (by kernel_rfl) (by kernel_rfl) (by kernel_rfl) (fun _ _ _ h => h) rfl (fun x hx => by obtain ⟨x0, x1, x2, x3, x4, x5⟩ := hbd.out _ hx; go_simp; rfl) ?_
      go_simp
      refine sched_take 17 rfl (by kernel_rfl) (by kernel_rfl) (by kernel_rfl) (fun _ _ _ h => h) rfl (fun x hx => by go_simp; rfl) ?_
      go_simp
      refine sched_take 18 rfl (by kernel_rfl) (by kernel_rfl) (by kernel_rfl) (fun _ _ _ h => h) rfl (fun x hx => by obtain ⟨x0, x1, x2, x3, x4, x5⟩ := hbd.out _ hx; go_simp; rfl) ?_
      go_simp
      refine sched_take 20 rfl (by kernel_rfl) (by kernel_rfl) (by kernel_rfl) (fun _ _ _ h => h) rfl (fun x hx => by go_simp; rfl) ?_
      go_simp
      refine sched_take 21 rfl (by kernel_rfl) (by kernel_rfl) (by kernel_rfl) (fun _ _ _ h => h) rfl (fun x hx => by obtain ⟨x0, x1, x2, x3, x4, x5⟩ := hbd.out _ hx; go_simp; rfl) ?_
      go_simp
      refine sched_alone 7 (by kernel_rfl) rfl rfl ?_
      go_simp
      refine (hrd.out _ HU0.out).mono ?_
      rintro e w1 ⟨v1, rfl, hM⟩
      refine ⟨hM.2.mono (fun _ _ h => h.elim), ?_⟩
      have HM1 := Lib.hid hM
      have HU1 := Lib.hid (HU0.out.trans (hM.2.mono (fun _ _ h => h.elim)))
      have HT1 := Lib.hid (HT0.out.keep hM.2)
      obtain ⟨A1, c1, _, rfl, _⟩ := hM.1.read
      clear hM
      go_simp
      refine sched_alone 10 (by kernel_rfl) rfl rfl ?_
      go_simp
      refine (hwr.out _ HU1.out).mono ?_
      rintro e w2 ⟨v2, rfl, hM⟩
      refine ⟨hM.2.mono (fun _ _ h => h.elim), ?_⟩
      have HM2 := Lib.hid hM
      have HU2 := Lib.hid (HU1.out.trans (hM.2.mono (fun _ _ h => h.elim)))
      have HT2 := Lib.hid (HT1.out.keep hM.2)
      obtain ⟨A2, c2, _, rfl, _⟩ := hM.1.read
      clear hM
      go_simp
      refine sched_alone 11 (by kernel_rfl) rfl rfl ?_
      go_simp
      refine (two_take cl sq a _ _ _ _ HT2.out (HM1.out.upd HM2.out.2).1.read HM2.out.1.read (by omega) (by have := fewL_len rl; omega) (by have := fewL_len wl; omega)).mono ?_
      rintro e w3 ⟨rfl, hT, hu⟩
      refine ⟨hu.mono (fun b _ hb => hff b hb), ?_⟩
      rw [HRR.out] at hT ⊢
      have HT3 := Lib.hid hT
      have HU3 := Lib.hid (HU2.out.trans hu)
      clear hT hu
      go_simp
      refine sched_alone 19 (by kernel_rfl) rfl rfl ?_
      go_simp
      refine (hrd.out _ HU3.out).mono ?_
      rintro e w4 ⟨v4, rfl, hM⟩
      refine ⟨hM.2.mono (fun _ _ h => h.elim), ?_⟩
      have HM4 := Lib.hid hM
      have HU4 := Lib.hid (HU3.out.trans (hM.2.mono (fun _ _ h => h.elim)))
      have HT4 := Lib.hid (HT3.out.keep hM.2)
      obtain ⟨A4, c4, _, rfl, _⟩ := hM.1.read
      clear hM
      go_simp
      refine sched_alone 22 (by kernel_rfl) rfl rfl ?_
      go_simp
      refine (hwr.out _ HU4.out).mono ?_
      rintro e w5 ⟨v5, rfl, hM⟩
      refine ⟨hM.2.mono (fun _ _ h => h.elim), ?_⟩
      have HM5 := Lib.hid hM
      have HU5 := Lib.hid (HU4.out.trans (hM.2.mono (fun _ _ h => h.elim)))
      have HT5 := Lib.hid (HT4.out.keep hM.2)
      obtain ⟨A5, c5, _, rfl, _⟩ := hM.1.read
      clear hM
      go_simp
      refine sched_alone 23 (by kernel_rfl) rfl rfl ?_
      go_simp
      refine (two_rtake cl sq a _ _ _ _ HT5.out (HM4.out.upd HM5.out.2).1.read HM5.out.1.read (by omega) (by have := fewL_len rl; omega) (by have := fewL_len wl; omega)).mono ?_
      rintro e w6 ⟨rfl, hT, hu⟩
      refine ⟨hu.mono (fun b _ hb => hff b hb), ?_⟩
      rw [htk.out] at hT
      have HT6 := Lib.hid hT
      have HU6 := Lib.hid (HU5.out.trans hu)
      clear hT hu
      rw [htk.out]
      go_simp
      refine sched_take 24 rfl (by kernel_rfl) (by kernel_rfl) (by kernel_rfl) (fun _ _ _ h => h) rfl (fun x hx => by go_simp; rfl) ?_
      go_simp
      refine sched_take 25 rfl (by kernel_rfl) (by kernel_rfl) (by kernel_rfl) (fun _ _ _ h => h) rfl (fun x hx => by go_simp; rfl) ?_
      go_simp
      refine sched_done (by kernel_rfl) ?_
      go_wp2_with fail
      go_ret
      exact ⟨rfl, HT6.out.sub (fun b hb => List.mem_cons_of_mem _ hb), ((hua.trans (Upd.refl NoB wa).drew).mono (fun _ _ h => h.elim)).then HU6.out (fun b hb hf => ⟨hf.1, fun hm => hf.2 (List.mem_cons_of_mem _ hm)⟩)⟩
  · rw [if_neg hk]
    have n0 : (kd == 0) = false := by simp; omega
    have n1 : (kd == 1) = false := by simp; omega
    have n2 : (kd == 2) = false := by simp; omega
    clear hk
    by_cases h3k : kd = 3
    · rw [if_pos h3k]
      subst h3k
      have htk := Lib.hid (free_rows hg cl sq a)
      generalize hRR : freeL l last cl sq a = R at *
      have HRR := Lib.hid hRR
      clear hRR
      clear n0 n1 n2
      have HU0 := Lib.hid (Upd.refl (fun b => w0.heap.size ≤ b ∧ b ∉ w.heap.size :: xs) wa.drew)
      have HT0 := Lib.hid (HTa.out.keep (Upd.refl NoB wa).drew)
      have hbd := Lib.hid (fun x (hx : Upd (fun b => b ≠ w.heap.size) wa.drew x) => six_cells (hx.heap (show wa.drew.heap[w.heap.size]? = _ from hB.out) (fun h => h rfl)))
      have hff : ∀ b, (w0.heap.size ≤ b ∧ b ∉ w.heap.size :: xs) → b ≠ w.heap.size := fun b hb e => hb.2 (by rw [e]; simp)
      have hrd := Lib.hid (fun x (hx : Upd (fun b => w0.heap.size ≤ b ∧ b ∉ w.heap.size :: xs) wa.drew x) => few_any (.slice Aa rl.length ca) rl x ((h3.upd (hua.trans (Upd.refl NoB wa).drew) (fun _ _ h => h)).upd hx (fun b hb hf => by have := hS b hb; omega)))
      have hwr := Lib.hid (fun x (hx : Upd (fun b => w0.heap.size ≤ b ∧ b ∉ w.heap.size :: xs) wa.drew x) => few_any (.slice Ab wl.length cb) wl x ((h4.upd (hua.trans (Upd.refl NoB wa).drew) (fun _ _ h => h)).upd hx (fun b hb hf => by have := hS b hb; omega)))
      go_enter Try.func17, Try.ntmps17
      go_wp2_with fail
      refine sched_begin (fun b => b ≠ w.heap.size) (by kernel_rfl) ?_
      refine sched_take 0 rfl (by kernel_rfl) (by kernel_rfl) (by kernel_rfl) (fun _ _ _ h => h) rfl (fun x hx => by go_simp; rfl) ?_
      go_simp
      refine sched_take 1 rfl (by kernel_rfl) (by kernel_rfl) (by kernel_rfl) (fun _ _ _ h => h) rfl (fun x hx => by go_simp; rfl) ?_
      go_simp
      refine sched_take 2 rfl (by kernel_rfl) (by kernel_rfl) (by kernel_rfl) (fun _ _ _ h => h) rfl (fun x hx => by obtain ⟨x0, x1, x2, x3, x4, x5⟩ := hbd.out _ hx; go_simp; rfl) ?_
      go_simp
      refine sched_take 3 rfl (by kernel_rfl) (by kernel_rfl) (by kernel_rfl) (fun _ _ _ h => h) rfl (fun x hx => by go_simp; rfl) ?_
      go_simp
      refine sched_take 4 rfl (by kernel_rfl) (by kernel_rfl) (by kernel_rfl) (fun _ _ _ h => h) rfl (fun x hx => by obtain ⟨x0, x1, x2, x3, x4, x5⟩ := hbd.out _ hx; go_simp; rfl) ?_
      go_simp
      refine sched_take 6 rfl (by kernel_rfl) (by kernel_rfl) (by kernel_rfl) (fun _ _ _ h => h) rfl (fun x hx => by go_simp; rfl) ?_
      go_simp
      refine sched_take 7 rfl (by kernel_rfl) (by kernel_rfl) (by kernel_rfl) (fun _ _ _ h => h) rfl (fun x hx => by go_simp; rfl) ?_
      go_simp
      refine sched_take 8 rfl (by kernel_rfl) (by kernel_rfl) (by kernel_rfl) (fun _ _ _ h => h) rfl (fun x hx => by obtain ⟨x0, x1, x2, x3, x4, x5⟩ := hbd.out _ hx; go_simp; rfl) ?_
      go_simp
      refine sched_take 9 rfl (by kernel_rfl) (by kernel_rfl) (by kernel_rfl) (fun _ _ _ h => h) rfl (fun x hx => by go_simp; rfl) ?_
      go_simp
      refine sched_take 10 rfl (by kernel_rfl) (by kernel_rfl) (by kernel_rfl) (fun _ _ _ h => h) rfl (fun x hx => by obtain ⟨x0, x1, x2, x3, x4, x5⟩ := hbd.out _ hx; go_simp; rfl) ?_
      go_simp
      refine sched_alone 5 (by kernel_rfl) rfl rfl ?_
      go_simp
      refine (two_free cl sq a HT0.out (by omega)).mono ?_
      rintro e w3 ⟨rfl, hT, hu⟩
      refine ⟨hu.mono (fun b _ hb => hff b hb), ?_⟩
      rw [HRR.out] at hT ⊢
      have HT3 := Lib.hid hT
      have HU3 := Lib.hid (HU0.out.trans hu)
      clear hT hu
      go_simp
      refine sched_alone 11 (by kernel_rfl) rfl rfl ?_
      go_simp
      refine (two_rfree cl sq a HT3.out (by omega)).mono ?_
      rintro e w6 ⟨rfl, hT, hu⟩
      refine ⟨hu.mono (fun b _ hb => hff b hb), ?_⟩
      rw [htk.out] at hT
      have HT6 := Lib.hid hT
      have HU6 := Lib.hid (HU3.out.trans hu)
      clear hT hu
      rw [htk.out]
      go_simp
      refine sched_take 12 rfl (by kernel_rfl) (by kernel_rfl) (by kernel_rfl) (fun _ _ _ h => h) rfl (fun x hx => by go_simp; rfl) ?_
      go_simp
      refine sched_take 13 rfl (by kernel_rfl) (by kernel_rfl) (by kernel_rfl) (fun _ _ _ h => h) rfl (fun x hx => by go_simp; rfl) ?_
      go_simp
      refine sched_done (by kernel_rfl) ?_
      go_wp2_with fail
      go_ret
      exact ⟨rfl, HT6.out.sub (fun b hb => List.mem_cons_of_mem _ hb), ((hua.trans (Upd.refl NoB wa).drew).mono (fun _ _ h => h.elim)).then HU6.out (fun b hb hf => ⟨hf.1, fun hm => hf.2 (List.mem_cons_of_mem _ hm)⟩)⟩
    · rw [if_neg h3k]
      have n3 : (kd == 3) = false := by simpa using h3k
      clear h3k
      go_enter Try.func17, Try.ntmps17
      go_wp2_with fail
      go_ret
      exact ⟨rfl, HTa.out.sub (fun b hb => List.mem_cons_of_mem _ hb), hua.mono (fun _ _ h => h.elim)⟩
end Go.Proofs.Ytobfolkcpfaplaa
