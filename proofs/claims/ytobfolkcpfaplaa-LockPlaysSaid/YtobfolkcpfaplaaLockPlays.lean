/- Whatever is taken and freed, a table answers, and says who holds what, as the chapter says (LockPlays): the law's walk. -/
import Derived.Test.YtobfolkcpfaplaaLockS
namespace Go.Proofs.Ytobfolkcpfaplaa
open Go.RowKit Kit
set_option linter.unusedVariables false

set_option maxHeartbeats 16000000 in
set_option maxRecDepth 100000 in
theorem lockPlays_walk (v : Value) (ops : List Lop) (key : ByteArray) (n : Int) (w : World) (h : RSl Rep.lop w (Old w) v ops) :
    Calls Try.prog 5 #[v, .string key, .int .i64 n] w fun e w' => e = .returned (.bool true) ∧ Upd NoB w w' := by
  have HX := Lib.hid h
  obtain ⟨A, c, cs, rfl, d1, d2, _⟩ := h
  have d2' : c ≤ 9223372036854775807 := d2
  go_enter Try.func5, Try.ntmps5
  go_wp2_with fail
  refine (newlock_any _).mono ?_
  rintro e w1 ⟨p, rfl, hp, hu, hk⟩
  have HT0 := Lib.hid (tw_new hp (hk w [p]) hu)
  clear hu hk
  go_wp2_with fail
  generalize hq : w1.heap.size = q at *
  generalize w1.alloc (.cells #[.slice none 0 0, .int .i64 0] 28) = w2 at *
  clear hq
  go_loopw [9, 10, 11, 12, 13, 14, 20] (fun x9 x10 x11 x12 x13 x14 i wr => ∃ k : Nat, k ≤ ops.length ∧ k ≤ 30 ∧ i = .int .i64 k ∧ ∃ (l : List Span) (last : Int), l.length ≤ k ∧ (rowsL l).length ≤ 13 * k ∧ Hid (Good l last) ∧ Hid (Tw w wr [] p q l last (rowsL l) last)) (fun _ _ _ _ _ _ i _ => ops.length - (intOf i).toNat)
  case atStart => exact ⟨0, by omega, by omega, rfl, [], 0, by simp, by simp [rowsL_nil], Lib.hid good_nil, HT0⟩
  case round =>
    obtain ⟨k, hk, hk30, rfl, l, last, hll, hLL, hG, hT⟩ := hrel
    have hU := Lib.hid hT.out.upd
    by_cases hlt : k < ops.length
    · obtain ⟨g, o, rcs, rfl, hrep, hcell, hg⟩ := HX.out.cellN k hlt
      obtain ⟨va, vb, rfl, hra, hrb⟩ := hrep
      have c0 : wr.cell? ⟨g, o + k * 6, none⟩ = some (.int .i64 ops[k].kd) := hU.out.cell (hcell 0 _ rfl) (fun h => h)
      have c1 : wr.cell? ⟨g, o + k * 6 + 1, none⟩ = some (.int .i64 ops[k].cl) := hU.out.cell (hcell 1 _ rfl) (fun h => h)
      have c2 : wr.cell? ⟨g, o + k * 6 + 2, none⟩ = some (.int .u64 ops[k].sq) := hU.out.cell (hcell 2 _ rfl) (fun h => h)
      have c3 : wr.cell? ⟨g, o + k * 6 + 3, none⟩ = some (.int .i64 ops[k].a) := hU.out.cell (hcell 3 _ rfl) (fun h => h)
      have c4 : wr.cell? ⟨g, o + k * 6 + 4, none⟩ = some va := hU.out.cell (hcell 4 _ rfl) (fun h => h)
      have c5 : wr.cell? ⟨g, o + k * 6 + 5, none⟩ = some vb := hU.out.cell (hcell 5 _ rfl) (fun h => h)
      have HRA := Lib.hid (hra.upd hU.out (fun _ _ h => h))
      have HRB := Lib.hid (hrb.upd hU.out (fun _ _ h => h))
      obtain ⟨Aa, ca, rfl, _⟩ := hra.shape
      obtain ⟨Ab, cb, rfl, _⟩ := hrb.shape
      generalize ops[k] = y at *
      obtain ⟨kd, cl, sq, a, rl, wl⟩ := y
      simp only at c0 c1 c2 c3 c4 c5 HRA HRB
      clear hcell hra hrb
      by_cases h30 : 30 ≤ k
      · have hI30 : (30 : Int) ≤ (k : Int) := by omega
        have hd30 : decide ((30 : Int) ≤ (k : Int)) = true := decide_eq_true hI30
        clear h30
        go_wp2_with fail
        refine (lockAwake_any _).mono ?_
        rintro e w9 ⟨rfl, hu⟩
        have HU9 := Lib.hid ((hU.out.alloc _).trans hu)
        clear hu
        go_wp2_with fail
        go_ret
        exact ⟨rfl, HU9.out⟩
      · have hI30 : ¬ (30 : Int) ≤ (k : Int) := by omega
        have hd30 : decide ((30 : Int) ≤ (k : Int)) = false := decide_eq_false hI30
        obtain ⟨hs1, hs2⟩ := stepL_len hG.out kd cl sq a rl wl
        have hst := fun (x : World) (h : Tw w x [wr.heap.size] p q l last (rowsL l) last) (ha : RSlW Rep.str x (Old w) (.slice Aa rl.length ca) rl) (hb : RSlW Rep.str x (Old w) (.slice Ab wl.length cb) wl) =>
          step_any w [wr.heap.size] p q l last kd cl sq a Aa Ab ca cb rl wl x h hG.out (by omega) (by omega) (fun b hb => hb) ha hb
        have hG2 := stepL_good hG.out kd cl sq a rl wl
        generalize stepL kd cl sq a rl wl l last = R at *
        obtain ⟨l2, last2⟩ := R
        simp only at hst hs1 hs2 hG2
        have HST := Lib.hid hst
        have HG2 := Lib.hid hG2
        have hho := Lib.hid (fun (x : World) (h : Tw w x [wr.heap.size] p q l2 last2 (rowsL l2) last2) => show Calls Try.prog 20 #[.pointer (some ⟨p, 0, none⟩), .agg #[.int .i64 cl, .int .u64 sq]] x fun e w' => e = .returned (.bool (holdsB l2 cl sq)) ∧ Upd NoB x w' from by
          obtain ⟨ys, h⟩ := h.lk
          exact holds_any w ys p l2 last2 cl sq x h)
        have hrh := Lib.hid (fun (x : World) (h : Tw w x [wr.heap.size] p q l2 last2 (rowsL l2) last2) => show Calls Try.prog 18 #[.pointer (some ⟨q, 0, none⟩), .agg #[.int .i64 cl, .int .u64 sq]] x fun e w' => e = .returned (.bool (holdsB l2 cl sq)) ∧ Upd NoB x w' from by
          obtain ⟨ys, h⟩ := h.rt
          rw [← held_rows]
          exact rholds_any w ys q (rowsL l2) last2 cl sq x h)
        have hbu := Lib.hid (fun (b : Bool) (x : World) (h : Tw w x [wr.heap.size] p q l2 last2 (rowsL l2) last2) => show Calls Try.prog 21 #[.pointer (some ⟨p, 0, none⟩), .string key, .bool b] x fun e w' => e = .returned (.bool (busyB l2 key b)) ∧ Upd NoB x w' from by
          obtain ⟨ys, h⟩ := h.lk
          exact busy_any w ys p l2 last2 key b x h)
        have hrb := Lib.hid (fun (b : Bool) (x : World) (h : Tw w x [wr.heap.size] p q l2 last2 (rowsL l2) last2) => show Calls Try.prog 22 #[.pointer (some ⟨q, 0, none⟩), .string key, .bool b] x fun e w' => e = .returned (.bool (busyB l2 key b)) ∧ Upd NoB x w' from by
          obtain ⟨ys, h⟩ := h.rt
          rw [← busy_rows hG2.keys]
          exact rbusy_any w ys q (rowsL l2) last2 key b x h)
        have hle := Lib.hid (fun (x : World) (h : Tw w x [wr.heap.size] p q l2 last2 (rowsL l2) last2) => show Calls Try.prog 23 #[.pointer (some ⟨p, 0, none⟩)] x fun e w' => e = .returned (.int .i64 (lenS l2)) ∧ Upd NoB x w' from by
          obtain ⟨ys, h⟩ := h.lk
          exact len_any w ys p l2 last2 x h (by omega))
        have hrl := Lib.hid (fun (x : World) (h : Tw w x [wr.heap.size] p q l2 last2 (rowsL l2) last2) => show Calls Try.prog 24 #[.pointer (some ⟨q, 0, none⟩)] x fun e w' => e = .returned (.int .i64 (lenS l2)) ∧ Upd NoB x w' from by
          obtain ⟨ys, h⟩ := h.rt
          rw [← len_rows hG2.keys]
          exact rlen_any w ys q (rowsL l2) last2 x h (by omega))
        have hwi := Lib.hid (fun (x : World) (h : Tw w x [] p q l2 last2 (rowsL l2) last2) => show Calls Try.prog 25 #[.pointer (some ⟨p, 0, none⟩), .string key, .int .i64 n] x fun e w' => e = .returned (.tuple #[.agg #[.int .i64 ((writerS l2 key n).getD (0, 0)).1, .int .u64 ((writerS l2 key n).getD (0, 0)).2], .bool (writerS l2 key n).isSome]) ∧ Upd NoB x w' from by
          obtain ⟨ys, h⟩ := h.lk
          exact writer_any w ys p l2 last2 key n x h (by omega))
        have hrw := Lib.hid (fun (x : World) (h : Tw w x [] p q l2 last2 (rowsL l2) last2) => show Calls Try.prog 26 #[.pointer (some ⟨q, 0, none⟩), .string key, .int .i64 n] x fun e w' => e = .returned (.tuple #[.agg #[.int .i64 ((writerS l2 key n).getD (0, 0)).1, .int .u64 ((writerS l2 key n).getD (0, 0)).2], .bool (writerS l2 key n).isSome]) ∧ Upd NoB x w' from by
          obtain ⟨ys, h⟩ := h.rt
          rw [← writer_rows]
          exact rwriter_any w ys q (rowsL l2) last2 key n x h)
        generalize ((writerS l2 key n).getD (0, 0)).1 = i1 at *
        generalize ((writerS l2 key n).getD (0, 0)).2 = i2 at *
        generalize (writerS l2 key n).isSome = Bw at *
        generalize holdsB l2 cl sq = B1 at *
        generalize hB2 : busyB l2 key = B2 at *
        generalize lenS l2 = n1 at *
        clear hst hG2 hB2 h30
        obtain ⟨wa, hwa⟩ : ∃ wa, wr.alloc (.cells #[.int .i64 kd, .int .i64 cl, .int .u64 sq, .int .i64 a, .slice Aa rl.length ca, .slice Ab wl.length cb] 34) = wa := ⟨_, rfl⟩
        have hua : Upd NoB wr wa := by rw [← hwa]; exact (Upd.refl _ _).alloc _
        have hB := Lib.hid (show wa.heap[wr.heap.size]? = some (.cells #[.int .i64 kd, .int .i64 cl, .int .u64 sq, .int .i64 a, .slice Aa rl.length ca, .slice Ab wl.length cb] 34 (0, 0)) by rw [← hwa]; exact heap_alloc_new _ _)
        have HTa := Lib.hid (show Tw w wa [wr.heap.size] p q l last (rowsL l) last by rw [← hwa]; exact hT.out.add _)
        have HTd := Lib.hid (HTa.out.keep (Upd.refl NoB wa).drew)
        have hbd := Lib.hid (fun x (hx : Upd (fun b => b ≠ wr.heap.size) wa.drew x) => six_cells (hx.heap (show wa.drew.heap[wr.heap.size]? = _ from hB.out) (fun h => h rfl)))
        have HRA2 := Lib.hid (HRA.out.upd (hua.trans (Upd.refl NoB wa).drew) (fun _ _ h => h))
        have HRB2 := Lib.hid (HRB.out.upd (hua.trans (Upd.refl NoB wa).drew) (fun _ _ h => h))
        clear hua
        go_wp2_with fail
        refine sched_begin (fun b => b ≠ wr.heap.size) (by kernel_rfl) ?_
        refine sched_take 0 rfl (by kernel_rfl) (by kernel_rfl) (by kernel_rfl) (fun _ _ _ h => h) rfl (fun x hx => by go_simp; rfl) ?_
        go_simp
        refine sched_take 1 rfl (by kernel_rfl) (by kernel_rfl) (by kernel_rfl) (fun _ _ _ h => h) rfl (fun x hx => by go_simp; rfl) ?_
        go_simp
        refine sched_take 2 rfl (by kernel_rfl) (by kernel_rfl) (by kernel_rfl) (fun _ _ _ h => h) rfl (fun x hx => by obtain ⟨x0, x1, x2, x3, x4, x5⟩ := hbd.out _ hx; go_simp; rfl) ?_
        go_simp
        refine sched_alone 3 (by kernel_rfl) rfl rfl ?_
        go_simp
        refine (HST.out _ HTd.out HRA2.out HRB2.out).mono ?_
        rintro e w3 ⟨rfl, hT3, hu⟩
        refine ⟨hu.mono (fun b _ hb e => hb.2 (by rw [e]; simp)), ?_⟩
        have HT3 := Lib.hid hT3
        have hbd3 := Lib.hid (fun x (hx : Upd (fun b => b ≠ wr.heap.size) w3 x) => hbd.out x ((hu.mono (G := fun b => b ≠ wr.heap.size) (fun b _ hb e => hb.2 (by rw [show b = _ from e]; simp))).trans hx))
        clear hT3 hu
        go_simp
        refine sched_take 4 rfl (by kernel_rfl) (by kernel_rfl) (by kernel_rfl) (fun _ _ _ h => h) rfl (fun x hx => by go_simp; rfl) ?_
        go_simp
        refine sched_take 5 rfl (by kernel_rfl) (by kernel_rfl) (by kernel_rfl) (fun _ _ _ h => h) rfl (fun x hx => by go_simp; rfl) ?_
        go_simp
        refine sched_take 6 rfl (by kernel_rfl) (by kernel_rfl) (by kernel_rfl) (fun _ _ _ h => h) rfl (fun x hx => by go_simp; rfl) ?_
        go_simp
        refine sched_take 7 rfl (by kernel_rfl) (by kernel_rfl) (by kernel_rfl) (fun _ _ _ h => h) rfl (fun x hx => by go_simp; rfl) ?_
        go_simp
        refine sched_take 8 rfl (by kernel_rfl) (by kernel_rfl) (by kernel_rfl) (fun _ _ _ h => h) rfl (fun x hx => by obtain ⟨x0, x1, x2, x3, x4, x5⟩ := hbd3.out _ hx; go_simp; rfl) ?_
        go_simp
        refine sched_take 10 rfl (by kernel_rfl) (by kernel_rfl) (by kernel_rfl) (fun _ _ _ h => h) rfl (fun x hx => by go_simp; rfl) ?_
        go_simp
        refine sched_take 11 rfl (by kernel_rfl) (by kernel_rfl) (by kernel_rfl) (fun _ _ _ h => h) rfl (fun x hx => by go_simp; rfl) ?_
        go_simp
        refine sched_take 12 rfl (by kernel_rfl) (by kernel_rfl) (by kernel_rfl) (fun _ _ _ h => h) rfl (fun x hx => by obtain ⟨x0, x1, x2, x3, x4, x5⟩ := hbd3.out _ hx; go_simp; rfl) ?_
        go_simp
        refine sched_alone 9 (by kernel_rfl) rfl rfl ?_
        go_simp
        refine (hho.out _ HT3.out).mono ?_
        rintro e w4 ⟨rfl, hu⟩
        refine ⟨hu.mono (fun _ _ h => h.elim), ?_⟩
        have HT4 := Lib.hid (HT3.out.keep hu)
        clear hu
        go_simp
        refine sched_alone 13 (by kernel_rfl) rfl rfl ?_
        go_simp
        refine (hrh.out _ HT4.out).mono ?_
        rintro e w5 ⟨rfl, hu⟩
        refine ⟨hu.mono (fun _ _ h => h.elim), ?_⟩
        have HT5 := Lib.hid (HT4.out.keep hu)
        clear hu
        go_simp
        refine sched_take 14 rfl (by kernel_rfl) (by kernel_rfl) (by kernel_rfl) (fun _ _ _ h => h) rfl (fun x hx => by go_simp; rfl) ?_
        go_simp
        refine sched_take 15 rfl (by kernel_rfl) (by kernel_rfl) (by kernel_rfl) (fun _ _ _ h => h) rfl (fun x hx => by go_simp; rfl) ?_
        go_simp
        refine sched_take 16 rfl (by kernel_rfl) (by kernel_rfl) (by kernel_rfl) (fun _ _ _ h => h) rfl (fun x hx => by go_simp; rfl) ?_
        go_simp
        refine sched_take 17 rfl (by kernel_rfl) (by kernel_rfl) (by kernel_rfl) (fun _ _ _ h => h) rfl (fun x hx => by go_simp; rfl) ?_
        go_simp
        refine sched_take 18 rfl (by kernel_rfl) (by kernel_rfl) (by kernel_rfl) (fun _ _ _ h => h) rfl (fun x hx => by go_simp; rfl) ?_
        go_simp
        refine sched_take 20 rfl (by kernel_rfl) (by kernel_rfl) (by kernel_rfl) (fun _ _ _ h => h) rfl (fun x hx => by go_simp; rfl) ?_
        go_simp
        refine sched_take 21 rfl (by kernel_rfl) (by kernel_rfl) (by kernel_rfl) (fun _ _ _ h => h) rfl (fun x hx => by go_simp; rfl) ?_
        go_simp
        refine sched_alone 19 (by kernel_rfl) rfl rfl ?_
        go_simp
        refine (hbu.out true _ HT5.out).mono ?_
        rintro e w6 ⟨rfl, hu⟩
        refine ⟨hu.mono (fun _ _ h => h.elim), ?_⟩
        have HT6 := Lib.hid (HT5.out.keep hu)
        clear hu
        go_simp
        refine sched_alone 22 (by kernel_rfl) rfl rfl ?_
        go_simp
        refine (hrb.out true _ HT6.out).mono ?_
        rintro e w7 ⟨rfl, hu⟩
        refine ⟨hu.mono (fun _ _ h => h.elim), ?_⟩
        have HT7 := Lib.hid (HT6.out.keep hu)
        clear hu
        go_simp
        refine sched_take 23 rfl (by kernel_rfl) (by kernel_rfl) (by kernel_rfl) (fun _ _ _ h => h) rfl (fun x hx => by go_simp; rfl) ?_
        go_simp
        refine sched_take 24 rfl (by kernel_rfl) (by kernel_rfl) (by kernel_rfl) (fun _ _ _ h => h) rfl (fun x hx => by go_simp; rfl) ?_
        go_simp
        refine sched_take 25 rfl (by kernel_rfl) (by kernel_rfl) (by kernel_rfl) (fun _ _ _ h => h) rfl (fun x hx => by go_simp; rfl) ?_
        go_simp
        refine sched_take 26 rfl (by kernel_rfl) (by kernel_rfl) (by kernel_rfl) (fun _ _ _ h => h) rfl (fun x hx => by go_simp; rfl) ?_
        go_simp
        refine sched_take 27 rfl (by kernel_rfl) (by kernel_rfl) (by kernel_rfl) (fun _ _ _ h => h) rfl (fun x hx => by go_simp; rfl) ?_
        go_simp
        refine sched_take 29 rfl (by kernel_rfl) (by kernel_rfl) (by kernel_rfl) (fun _ _ _ h => h) rfl (fun x hx => by go_simp; rfl) ?_
        go_simp
        refine sched_take 30 rfl (by kernel_rfl) (by kernel_rfl) (by kernel_rfl) (fun _ _ _ h => h) rfl (fun x hx => by go_simp; rfl) ?_
        go_simp
        refine sched_alone 28 (by kernel_rfl) rfl rfl ?_
        go_simp
        refine (hbu.out false _ HT7.out).mono ?_
        rintro e w8 ⟨rfl, hu⟩
        refine ⟨hu.mono (fun _ _ h => h.elim), ?_⟩
        have HT8 := Lib.hid (HT7.out.keep hu)
        clear hu
        go_simp
        refine sched_alone 31 (by kernel_rfl) rfl rfl ?_
        go_simp
        refine (hrb.out false _ HT8.out).mono ?_
        rintro e w9 ⟨rfl, hu⟩
        refine ⟨hu.mono (fun _ _ h => h.elim), ?_⟩
        have HT9 := Lib.hid (HT8.out.keep hu)
        clear hu
        go_simp
        refine sched_take 32 rfl (by kernel_rfl) (by kernel_rfl) (by kernel_rfl) (fun _ _ _ h => h) rfl (fun x hx => by go_simp; rfl) ?_
        go_simp
        refine sched_take 33 rfl (by kernel_rfl) (by kernel_rfl) (by kernel_rfl) (fun _ _ _ h => h) rfl (fun x hx => by go_simp; rfl) ?_
        go_simp
        refine sched_take 34 rfl (by kernel_rfl) (by kernel_rfl) (by kernel_rfl) (fun _ _ _ h => h) rfl (fun x hx => by go_simp; rfl) ?_
        go_simp
        refine sched_take 35 rfl (by kernel_rfl) (by kernel_rfl) (by kernel_rfl) (fun _ _ _ h => h) rfl (fun x hx => by go_simp; rfl) ?_
        go_simp
        refine sched_take 37 rfl (by kernel_rfl) (by kernel_rfl) (by kernel_rfl) (fun _ _ _ h => h) rfl (fun x hx => by go_simp; rfl) ?_
        go_simp
        refine sched_alone 36 (by kernel_rfl) rfl rfl ?_
        go_simp
        refine (hle.out _ HT9.out).mono ?_
        rintro e w10 ⟨rfl, hu⟩
        refine ⟨hu.mono (fun _ _ h => h.elim), ?_⟩
        have HT10 := Lib.hid (HT9.out.keep hu)
        clear hu
        go_simp
        refine sched_alone 38 (by kernel_rfl) rfl rfl ?_
        go_simp
        refine (hrl.out _ HT10.out).mono ?_
        rintro e w11 ⟨rfl, hu⟩
        refine ⟨hu.mono (fun _ _ h => h.elim), ?_⟩
        have HT11 := Lib.hid (HT10.out.keep hu)
        clear hu
        go_simp
        refine sched_take 39 rfl (by kernel_rfl) (by kernel_rfl) (by kernel_rfl) (fun _ _ _ h => h) rfl (fun x hx => by go_simp; rfl) ?_
        go_simp
        refine sched_take 40 rfl (by kernel_rfl) (by kernel_rfl) (by kernel_rfl) (fun _ _ _ h => h) rfl (fun x hx => by go_simp; rfl) ?_
        go_simp
        refine sched_done (by kernel_rfl) ?_
        have HTx := Lib.hid (HT11.out.sub (ys := []) (fun b hb => absurd hb List.not_mem_nil))
        go_wp2_with fail
        refine (hwi.out _ HTx.out).mono ?_
        rintro e w12 ⟨rfl, hu⟩
        obtain ⟨wb, hwb⟩ : ∃ wb, w12.alloc (.cells #[.int .i64 i1, .int .u64 i2] 31) = wb := ⟨_, rfl⟩
        have hub : Upd NoB w12 wb := by rw [← hwb]; exact (Upd.refl _ _).alloc _
        have hBb := Lib.hid (show wb.heap[w12.heap.size]? = some (.cells #[.int .i64 i1, .int .u64 i2] 31 (0, 0)) by rw [← hwb]; exact heap_alloc_new _ _)
        have HTb := Lib.hid (HTx.out.keep (hu.trans hub))
        clear hu hub
        go_wp2_with fail
        refine (hrw.out _ HTb.out).mono ?_
        rintro e w13 ⟨rfl, hu⟩
        obtain ⟨m0, m1⟩ := two_cells (hu.heap hBb.out (fun h => h))
        have hz : w12.heap.size < w13.heap.size := Nat.lt_of_lt_of_le (lt_of_heap hBb.out) hu.size
        have HTc := Lib.hid (fun o => (HTb.out.keep hu).keep ((Upd.refl NoB w13).alloc o))
        clear hu
        go_wp2_with fail
        go_roundw
        case measure => simp [intOf]; omega
        case rel => exact ⟨k + 1, by omega, by omega, by go_num, l2, last2, by omega, by omega, HG2, Lib.hid (HTc.out _)⟩
    · obtain rfl : k = ops.length := by omega
      go_wp2_with fail
      refine (lockAwake_any _).mono ?_
      rintro e w9 ⟨rfl, hu⟩
      have HU9 := Lib.hid (hU.out.trans hu)
      clear hu
      go_wp2_with fail
      go_ret
      exact ⟨rfl, HU9.out⟩
end Go.Proofs.Ytobfolkcpfaplaa
