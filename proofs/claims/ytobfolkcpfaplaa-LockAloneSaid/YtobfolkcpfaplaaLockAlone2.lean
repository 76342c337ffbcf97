/- Nobody holds a key that somebody else holds to write (LockAlone): the law's walk. -/
import Derived.Test.YtobfolkcpfaplaaLockAlone
namespace Go.Proofs.Ytobfolkcpfaplaa
open Go.RowKit Kit
set_option linter.unusedVariables false

set_option maxHeartbeats 16000000 in
set_option maxRecDepth 100000 in
theorem lockAlone_walk (v : Value) (ops : List Lop) (w : World) (h : RSl Rep.lop w (Old w) v ops) :
    Calls Try.prog 3 #[v] w fun e w' => e = .returned (.bool true) ∧ Upd NoB w w' := by
  have HX := Lib.hid h
  obtain ⟨A, c, _, rfl, d1, d2, _⟩ := h
  have d2' : c ≤ 9223372036854775807 := d2
  go_enter Try.func3, Try.ntmps3
  go_wp2_with fail
  refine (newlock_any _).mono ?_
  rintro e w1 ⟨p, rfl, hp, hu, hk⟩
  have HT0 := Lib.hid (tw_new hp (hk w [p]) hu)
  clear hu hk
  go_wp2_with fail
  generalize hq : w1.heap.size = q at *
  generalize w1.alloc (.cells #[.slice none 0 0, .int .i64 0] 28) = w2 at *
  clear hq
  go_loopw [5, 6, 8, 10, 12, 14, 20] (fun x5 x6 x8 x10 x12 x14 i wr => ∃ k : Nat, k ≤ ops.length ∧ k ≤ 25 ∧ i = .int .i64 k ∧ ∃ (l : List Span) (last lr : Int), l.length ≤ k ∧ (rowsL l).length ≤ 13 * k ∧ lr ≤ last ∧ Hid (Good l last) ∧ Hid (Tw w wr [] p q l last (rowsL l) lr)) (fun _ _ _ _ _ _ i _ => ops.length - (intOf i).toNat)
  case atStart => exact ⟨0, by omega, by omega, rfl, [], 0, 0, by simp, by simp [rowsL_nil], by omega, Lib.hid good_nil, HT0⟩
  case round =>
    obtain ⟨k, hk, hk25, rfl, l, last, lr, hll, hLL, hlr, hG, hT⟩ := hrel
    have hU := Lib.hid hT.out.upd
    by_cases hlt : k < ops.length
    · obtain ⟨g, o, rcs, rfl, hrep, hcell, hg⟩ := HX.out.cellN k hlt
      obtain ⟨va, vb, rfl, hra, hrb⟩ := hrep
      have c0 : wr.cell? ⟨g, o + k * 6, none⟩ = some (.int .i64 ops[k].kd) := hU.out.cell (hcell 0 _ rfl) (fun h => h)
      have c1 : wr.cell? ⟨g, o + k * 6 + 1, none⟩ = some (.int .i64 ops[k].cl) := hU.out.cell (hcell 1 _ rfl) (fun h => h)
      have c2 : wr.cell? ⟨g, o + k * 6 + 2, none⟩ = some (.int .u64 ops[k].sq) := hU.out.cell (hcell 2 _ rfl) (fun h => h)
      have c3 : wr.cell? ⟨g, o + k * 6 + 3, none⟩ = some (.int .i64 ops[k].a) := hU.out.cell (hcell 3 _ rfl) (fun h => h)
      have c4 : wr.cell? ⟨g, o + k * 6 + 4, none⟩ = some va := hU.out.cell (hcell 4 _ rfl) (fun h => h)
      have c5 : wr.cell? ⟨g, o + k * 6 + 5, none⟩ = some vb := hU.out.cell (hcell 5 _ rfl) (fun h => h)
      have HRA := Lib.hid (hra.upd hU.out (fun _ _ h => h))
      have HRB := Lib.hid (hrb.upd hU.out (fun _ _ h => h))
      obtain ⟨Aa, ca, rfl, _⟩ := hra.shape
      obtain ⟨Ab, cb, rfl, _⟩ := hrb.shape
      generalize ops[k] = y at *
      obtain ⟨kd, cl, sq, a, rl, wl⟩ := y
      simp only at c0 c1 c2 c3 c4 c5 HRA HRB
      clear hcell hra hrb
      by_cases h25 : 25 ≤ k
      · have hI25 : (25 : Int) ≤ (k : Int) := by omega
        have hd25 : decide ((25 : Int) ≤ (k : Int)) = true := decide_eq_true hI25
        clear h25
        go_wp2_with fail
        refine (lockAwake_any _).mono ?_
        rintro e w99 ⟨rfl, hu⟩
        have HU99 := Lib.hid ((hU.out.alloc _).trans hu)
        clear hu
        go_wp2_with fail
        go_ret
        exact ⟨rfl, HU99.out⟩
      · have hI25 : ¬ (25 : Int) ≤ (k : Int) := by omega
        have hd25 : decide ((25 : Int) ≤ (k : Int)) = false := decide_eq_false hI25
        obtain ⟨wa, hwa⟩ : ∃ wa, wr.alloc (.cells #[.int .i64 kd, .int .i64 cl, .int .u64 sq, .int .i64 a, .slice Aa rl.length ca, .slice Ab wl.length cb] 34) = wa := ⟨_, rfl⟩
        have hua : Upd NoB wr wa := by rw [← hwa]; exact (Upd.refl _ _).alloc _
        obtain ⟨b0, hb0⟩ : ∃ b0, wr.heap.size = b0 := ⟨_, rfl⟩
        have hB := Lib.hid (show wa.heap[b0]? = some (.cells #[.int .i64 kd, .int .i64 cl, .int .u64 sq, .int .i64 a, .slice Aa rl.length ca, .slice Ab wl.length cb] 34 (0, 0)) by rw [← hwa, ← hb0]; exact heap_alloc_new _ _)
        have HTa := Lib.hid (show Tw w wa [b0] p q l last (rowsL l) lr by rw [← hwa, ← hb0]; exact hT.out.add _)
        have HT3 := Lib.hid (HTa.out.keep (Upd.refl NoB wa).drew)
        have hbx := Lib.hid (fun x (hx : Upd (fun b => b ≠ b0) wa x) => six_cells (hx.heap hB.out (fun h => h rfl)))
        have HRA2 := Lib.hid (HRA.out.upd (hua.trans (Upd.refl NoB wa).drew) (fun _ _ h => h))
        have HRB2 := Lib.hid (HRB.out.upd (hua.trans (Upd.refl NoB wa).drew) (fun _ _ h => h))
        have hdr : Upd (fun b => b ≠ b0) wa wa.drew := (Upd.refl _ _).drew
        have hdz : Upd (fun b => w.heap.size ≤ b ∧ b ≠ b0) wa wa.drew := (Upd.refl _ _).drew
        have hbz := Lib.hid (fun x (hx : Upd (fun b => w.heap.size ≤ b ∧ b ≠ b0) wa x) => hbx.out x (hx.mono (fun b _ hb => hb.2)))
        have HRAz := Lib.hid (fun x (hx : Upd (fun b => w.heap.size ≤ b ∧ b ≠ b0) wa x) => (HRA.out.upd hua (fun _ _ h => h)).upd hx (fun b (hb : b < w.heap.size) hf => by have := hf.1; omega))
        have HRBz := Lib.hid (fun x (hx : Upd (fun b => w.heap.size ≤ b ∧ b ≠ b0) wa x) => (HRB.out.upd hua (fun _ _ h => h)).upd hx (fun b (hb : b < w.heap.size) hf => by have := hf.1; omega))
        clear hua h25
        go_wp2_with fail
        refine sched_begin (fun b => b ≠ b0) (by kernel_rfl) ?_
        refine sched_take 0 rfl (by kernel_rfl) (by kernel_rfl) (by kernel_rfl) (fun _ _ _ h => h) rfl (fun x hx => by go_simp; rfl) ?_
        go_simp
        refine sched_take 1 rfl (by kernel_rfl) (by kernel_rfl) (by kernel_rfl) (fun _ _ _ h => h) rfl (fun x hx => by go_simp; rfl) ?_
        go_simp
        refine sched_take 2 rfl (by kernel_rfl) (by kernel_rfl) (by kernel_rfl) (fun _ _ _ h => h) rfl (fun x hx => by obtain ⟨x0, x1, x2, x3, x4, x5⟩ := hbx.out _ (hdr.trans hx); go_simp; rfl) ?_
        go_simp
        refine sched_take 3 rfl (by kernel_rfl) (by kernel_rfl) (by kernel_rfl) (fun _ _ _ h => h) rfl (fun x hx => by go_simp; rfl) ?_
        go_simp
        refine sched_take 4 rfl (by kernel_rfl) (by kernel_rfl) (by kernel_rfl) (fun _ _ _ h => h) rfl (fun x hx => by obtain ⟨x0, x1, x2, x3, x4, x5⟩ := hbx.out _ (hdr.trans hx); go_simp; rfl) ?_
        go_simp
        refine sched_take 5 rfl (by kernel_rfl) (by kernel_rfl) (by kernel_rfl) (fun _ _ _ h => h) rfl (fun x hx => by go_simp; rfl) ?_
        go_simp
        refine sched_take 6 rfl (by kernel_rfl) (by kernel_rfl) (by kernel_rfl) (fun _ _ _ h => h) rfl (fun x hx => by obtain ⟨x0, x1, x2, x3, x4, x5⟩ := hbx.out _ (hdr.trans hx); go_simp; rfl) ?_
        go_simp
        refine sched_take 8 rfl (by kernel_rfl) (by kernel_rfl) (by kernel_rfl) (fun _ _ _ h => h) rfl (fun x hx => by go_simp; rfl) ?_
        go_simp
        refine sched_take 9 rfl (by kernel_rfl) (by kernel_rfl) (by kernel_rfl) (fun _ _ _ h => h) rfl (fun x hx => by obtain ⟨x0, x1, x2, x3, x4, x5⟩ := hbx.out _ (hdr.trans hx); go_simp; rfl) ?_
        go_simp
        refine sched_alone 7 (by kernel_rfl) rfl rfl ?_
        go_simp
        refine (few_any (.slice Aa rl.length ca) rl _ HRA2.out).mono ?_
        rintro e w4 ⟨v4, rfl, hM⟩
        refine ⟨hM.2.mono (fun _ _ h => h.elim), ?_⟩
        have HM4 := Lib.hid hM
        have HT4 := Lib.hid (HT3.out.keep hM.2)
        have HRB4 := Lib.hid (HRB2.out.upd hM.2 (fun _ _ h => h))
        have HV4 := Lib.hid (hdz.trans (hM.2.mono (G := fun b => w.heap.size ≤ b ∧ b ≠ b0) (fun _ _ h => h.elim)))
        obtain ⟨A4, c4, _, rfl, _⟩ := hM.1.read
        clear hM
        go_simp
        refine sched_alone 10 (by kernel_rfl) rfl rfl ?_
        go_simp
        refine (few_any (.slice Ab wl.length cb) wl _ HRB4.out).mono ?_
        rintro e w5 ⟨v5, rfl, hM⟩
        refine ⟨hM.2.mono (fun _ _ h => h.elim), ?_⟩
        have HM5 := Lib.hid hM
        have HM4 := Lib.hid (HM4.out.upd hM.2)
        have HT5 := Lib.hid (HT4.out.keep hM.2)
        have HV5 := Lib.hid (HV4.out.trans (hM.2.mono (G := fun b => w.heap.size ≤ b ∧ b ≠ b0) (fun _ _ h => h.elim)))
        obtain ⟨A5, c5, _, rfl, _⟩ := hM.1.read
        clear hM
        go_simp
        refine sched_alone 11 (by kernel_rfl) rfl rfl ?_
        go_simp
        refine (two_take cl sq a _ _ _ _ HT5.out HM4.out.1.read HM5.out.1.read (by omega) (by have := fewL_len rl; omega) (by have := fewL_len wl; omega)).mono ?_
        rintro e w6 ⟨rfl, hT6, hu⟩
        refine ⟨hu.mono (fun b _ hb e => hb.2 (by rw [e]; simp)), ?_⟩
        have HV6 := Lib.hid (HV5.out.trans (hu.mono (G := fun b => w.heap.size ≤ b ∧ b ≠ b0) (fun b _ hb => ⟨hb.1, fun e => hb.2 (by rw [e]; simp)⟩)))
        have htf := fun h => take_fail (l := l) (last := last) (c := cl) (q := sq) (a := a) (rd := fewL rl) (wr := fewL wl) h
        have hto := fun h => take_ok (l := l) (last := last) (c := cl) (q := sq) (a := a) (rd := fewL rl) (wr := fewL wl) h
        have htg := take_good hG.out cl sq a (fewL rl) (fewL wl)
        have htl := take_len l last cl sq a (fewL rl) (fewL wl) (fewL_len _) (fewL_len _)
        generalize takeL l last cl sq a (fewL rl) (fewL wl) = R at *
        obtain ⟨E1, l1, last1⟩ := R
        simp only at htf hto htg htl hT6
        clear hu
        go_simp
        refine sched_take 12 rfl (by kernel_rfl) (by kernel_rfl) (by kernel_rfl) (fun _ _ _ h => h) rfl (fun x hx => by go_simp; rfl) ?_
        go_simp
        refine sched_done (by kernel_rfl) ?_
        by_cases hE : E1 = 0
        · subst hE
          obtain ⟨he, ha⟩ := hto rfl
          rw [Prod.mk.injEq] at he
          obtain ⟨he1, he2⟩ := he
          subst he1
          obtain rfl := he2.symm
          have HT6 := Lib.hid hT6
          have hf6r := fewL_len rl
          have hf6w := fewL_len wl
          have hfr := Lib.hid (fun x (hx : Upd (fun b => w.heap.size ≤ b ∧ b ≠ b0) wa x) => few_any (.slice Aa rl.length ca) rl x (HRAz.out x hx))
          have hfw := Lib.hid (fun x (hx : Upd (fun b => w.heap.size ≤ b ∧ b ≠ b0) wa x) => few_any (.slice Ab wl.length cb) wl x (HRBz.out x hx))
          generalize fewL rl = fr at *
          generalize fewL wl = fw at *
          have HGc := Lib.hid htg
          obtain ⟨Lx, hLx⟩ : ∃ Lx, Lx = rowsL l := ⟨_, rfl⟩
          rw [← hLx] at HT6
          have hlen : Lx.length ≤ 1000 := by rw [hLx]; omega
          have HLX := Lib.hid hLx
          clear hto htf hT6 htg hLx
          go_wp2_with fail
          have htd := HT6.out.keep (Upd.refl NoB w6).drew
          have hvd := HV6.out.trans (show Upd (fun b => w.heap.size ≤ b ∧ b ≠ b0) w6 w6.drew from (Upd.refl _ _).drew)
          have hud : Upd NoB w6 w6.drew := (Upd.refl _ _).drew
          obtain ⟨wd, hwd⟩ : ∃ wd, w6.drew = wd := ⟨_, rfl⟩
          rw [hwd] at htd hvd hud
          have HTd := Lib.hid htd
          have HVd := Lib.hid hvd
          have HUd := Lib.hid hud
          clear htd hvd hud
          obtain ⟨St, Sr, vt, vr, hTwo⟩ := HTd.out
          obtain ⟨Aq, cq, _, hvr, _⟩ := hTwo.oq.read
          subst hvr
          have H2 := Lib.hid hTwo
          obtain ⟨_, _, hset0, _⟩ := id hTwo.oq
          have hnq : ¬ (Value.slice Aq Lx.length cq).ownBlock = some q := fun e => hTwo.rq (hset0 q e)
          have hnb : ¬ (Value.slice Aq Lx.length cq).ownBlock = some b0 := fun e => (hTwo.bx b0 (by simp)).2.2.1 (hset0 b0 e)
          have hown0 := Lib.hid (fun b (hb : (Value.slice Aq Lx.length cq).ownBlock = some b) => (hTwo.sr b (hset0 b hb)).1)
          have hqc := (row_cells hTwo.hq).1
          have hbF := Lib.hid (fun x (hx : Upd (fun b => (Value.slice Aq Lx.length cq).ownBlock = some b) wd x) => hbz.out x (HVd.out.trans (hx.mono (G := fun b => w.heap.size ≤ b ∧ b ≠ b0) (fun b _ hb => ⟨hown0.out b hb, fun e => hnb (by rw [← e]; exact hb)⟩))))
          have HBs := Lib.hid (show Bd Sr wd from fun b hb => (hTwo.sr b hb).2)
          have hy := Lib.hid (show Rep.rwl.rep wd NoB (⟨cl, sq, ⟨#[]⟩, false, a, 0⟩ : Rwl) (#[.int .i64 cl, .int .u64 sq, .string ⟨#[]⟩, .bool false, .int .i64 a, .int .i64 0] : Array Value).toList from ⟨rfl, Nat.zero_le _⟩)
          have hall : (Lx.length + 1) * 56 ≤ 140737488355328 := by omega
          clear hTwo hset0
          refine sched2_begin (fun b => (Value.slice Aq Lx.length cq).ownBlock = some b) (fun b => b = q ∨ (Value.slice Aq Lx.length cq).ownBlock = some b) [14] (by kernel_rfl) ?_
          rw [hwd]
          clear hwd
          refine sched2_take 0 rfl (by kernel_rfl) (by kernel_rfl) (by kernel_rfl) (by kernel_rfl) (by kernel_rfl) (fun _ _ _ h => h) (.inl ⟨rfl, fun x hx => by go_simp; rfl⟩) ?_
          go_simp
          refine sched2_take 1 rfl (by kernel_rfl) (by kernel_rfl) (by kernel_rfl) (by kernel_rfl) (by kernel_rfl) (fun _ _ _ h => h) (.inl ⟨rfl, fun x hx => by go_simp; rfl⟩) ?_
          go_simp
          refine sched2_take 2 rfl (by kernel_rfl) (by kernel_rfl) (by kernel_rfl) (by kernel_rfl) (by kernel_rfl) (fun _ _ _ h => h) (.inl ⟨rfl, fun x hx => by go_simp; rfl⟩) ?_
          go_simp
          refine sched2_take 3 rfl (by kernel_rfl) (by kernel_rfl) (by kernel_rfl) (by kernel_rfl) (by kernel_rfl) (fun _ _ _ h => h) (.inl ⟨rfl, fun x hx => by go_simp; rfl⟩) ?_
          go_simp
          refine sched2_take 4 rfl (by kernel_rfl) (by kernel_rfl) (by kernel_rfl) (by kernel_rfl) (by kernel_rfl) (fun _ _ _ h => h) (.inl ⟨rfl, fun x hx => by have hcx := hx.cell hqc hnq; go_simp; rfl⟩) ?_
          go_simp
          refine sched2_take 5 rfl (by kernel_rfl) (by kernel_rfl) (by kernel_rfl) (by kernel_rfl) (by kernel_rfl) (fun _ _ _ h => h) (.inl ⟨rfl, fun x hx => by go_simp; rfl⟩) ?_
          go_simp
          refine sched2_take 6 rfl (by kernel_rfl) (by kernel_rfl) (by kernel_rfl) (by kernel_rfl) (by kernel_rfl) (fun _ _ _ h => h) (.inl ⟨rfl, fun x hx => by obtain ⟨x0, x1, x2, x3, x4, x5⟩ := hbF.out _ hx; go_simp; rfl⟩) ?_
          go_simp
          refine sched2_take 7 rfl (by kernel_rfl) (by kernel_rfl) (by kernel_rfl) (by kernel_rfl) (by kernel_rfl) (fun _ _ _ h => h) (.inl ⟨rfl, fun x hx => by go_simp; rfl⟩) ?_
          go_simp
          refine sched2_take 8 rfl (by kernel_rfl) (by kernel_rfl) (by kernel_rfl) (by kernel_rfl) (by kernel_rfl) (fun _ _ _ h => h) (.inl ⟨rfl, fun x hx => by obtain ⟨x0, x1, x2, x3, x4, x5⟩ := hbF.out _ hx; go_simp; rfl⟩) ?_
          go_simp
          refine sched2_take 9 rfl (by kernel_rfl) (by kernel_rfl) (by kernel_rfl) (by kernel_rfl) (by kernel_rfl) (fun _ _ _ h => h) (.inl ⟨rfl, fun x hx => by go_simp; rfl⟩) ?_
          go_simp
          refine sched2_alone 10 (by kernel_rfl) rfl rfl ?_
          go_simp
          refine ⟨both ((Upd.refl _ _).alloc _) (fun _ h => .inr h), ?_⟩
          go_simp
          refine sched2_law 11 (by kernel_rfl) rfl rfl ?_
          go_simp
          at_builtin
          refine app_one' (r := Rep.rwl) (v := .slice Aq Lx.length cq) (y := (⟨cl, sq, ⟨#[]⟩, false, a, 0⟩ : Rwl)) rfl _ _ 26 39 (.agg #[.int .i64 0, .int .u64 0, .string ⟨#[]⟩, .bool false, .int .i64 0, .int .i64 0]) 56 rfl Try.underlying26 iRwl rfl (by decide) rfl rfl H2.out.oq HBs.out hy.out (fun b hb => hb.elim) hall ?_
          intro v1 w9 ho hu hu3
          refine law_done ⟨both hu3 (fun _ h => .inr h), ?_⟩
          obtain ⟨A1, c1, _, e1, _⟩ := ho.read
          rw [List.length_append, List.length_singleton] at e1
          subst e1
          have HPS := Lib.hid (H2.out.push ho hu)
          obtain ⟨kq, fq⟩ := row_cells (hu.heap H2.out.hq hnq)
          clear ho hu hu3
          go_simp
          refine sched2_take 12 rfl (by kernel_rfl) (by kernel_rfl) (by kernel_rfl) (by kernel_rfl) (by kernel_rfl) (fun _ _ _ h => h) (.inl ⟨rfl, fun x hx => by go_simp; rfl⟩) ?_
          go_simp
          refine sched2_take 13 rfl (by kernel_rfl) (by kernel_rfl) (by kernel_rfl) (by kernel_rfl) (by kernel_rfl) (fun _ _ _ h => h) (.inl ⟨rfl, fun x hx => by go_simp; rfl⟩) ?_
          go_simp
          refine sched2_alone 14 (by kernel_rfl) rfl rfl ?_
          go_simp
          refine ⟨⟨((Upd.refl _ w9).setCell (p := ⟨q, 0, none⟩) (fun _ => .inl rfl) _), fun hn => ?_⟩, ?_⟩
          · have := hn 14 (by simp)
            simp at this
          go_simp
          refine sched2_done (by kernel_rfl) ?_
          generalize hwz : w9.setCell ⟨q, 0, none⟩ (.slice A1 (Lx.length + 1) c1) = wz at *
          have HTz := Lib.hid HPS.out.1
          have HUz := Lib.hid (HUd.out.mono (fun _ _ h => h.elim) |>.trans HPS.out.2)
          clear hwz hnq hnb hqc hbF HBs hy H2 HPS kq fq
          have HTn := HTz.out
          rw [HLX.out] at HTn
          have HTn := Lib.hid (show Tw w wz [b0] p q (l ++ [⟨cl, sq, fr, fw, a, 0⟩]) a (rowsL l ++ rr cl sq a fr 0) lr from HTn)
          have HVz := Lib.hid (HV6.out.trans (HUz.out.mono (G := fun b => w.heap.size ≤ b ∧ b ≠ b0) (fun b _ hb => ⟨hb.1, fun e => hb.2 (by rw [e]; simp)⟩)))
          obtain ⟨x0, x1, x2, x3, x4, x5⟩ := hbz.out _ HVz.out
          go_wp2_with fail
          refine (hfr.out _ HVz.out).mono ?_
          rintro e wf0 ⟨v56, rfl, hM⟩
          obtain ⟨A56, c56, _, rfl, _⟩ := hM.1.read
          have HTf0 := Lib.hid (HTn.out.fresh hM.2)
          have HVf0 := Lib.hid (HVz.out.trans (hM.2.mono (G := fun b => w.heap.size ≤ b ∧ b ≠ b0) (fun _ _ h => h.elim)))
          have hb0m0 := Lib.hid (show b0 ∈ fresh wz wf0 ++ [b0] by simp)
          have HRf0 := Lib.hid (fun x (hx : Upd (fun b => w.heap.size ≤ b ∧ b ∉ fresh wz wf0 ++ [b0]) wf0 x) => hM.1.read.upd hx (fun b hb hf => hf.2 (List.mem_append.2 (.inl (mem_fresh.2 ⟨hb.2, hb.1.resolve_left (fun h => h)⟩)))))
          generalize fresh wz wf0 ++ [b0] = XS0 at *
          have HU00 := Lib.hid (Upd.refl (fun b => w.heap.size ≤ b ∧ b ∉ XS0) wf0)
          clear hM
          go_wp2_with fail
          go_loopw [8, 58] (fun xk i wr => ∃ m : Nat, m ≤ fr.length ∧ i = .int .i64 m ∧ Hid (Tw w wr XS0 p q (l ++ [⟨cl, sq, fr, fw, a, 0⟩]) a (rowsL l ++ rr cl sq a fr m) lr) ∧ Hid (Upd (fun b => w.heap.size ≤ b ∧ b ∉ XS0) wf0 wr)) (fun _ i _ => fr.length - (intOf i).toNat)
          case atStart => exact ⟨0, by omega, rfl, HTf0, HU00⟩
          case round =>
            obtain ⟨m, hm, rfl, hTm, hUm⟩ := hrel
            have HVm := Lib.hid (HVf0.out.trans (hUm.out.mono (G := fun b => w.heap.size ≤ b ∧ b ≠ b0) (fun b _ hb => ⟨hb.1, fun e => hb.2 (by rw [e]; exact hb0m0.out)⟩)))
            by_cases hmlt : m < fr.length
            · obtain ⟨gk, ok, uk, hAk, huk, hcellk, _⟩ := (HRf0.out _ hUm.out).cell1 rfl m hmlt
              obtain ⟨hu1, hu2⟩ := huk
              cases hu1
              cases hAk
              have hxk := Lib.hid (rr_succ cl sq a fr m fr[m] (List.getElem?_eq_getElem hmlt))
              generalize fr[m] = x at *
              have hlen : (rowsL l ++ rr cl sq a fr m).length ≤ 1000 := by rw [List.length_append]; have := rr_len cl sq a fr m; omega
              obtain ⟨Lx, hLx⟩ : ∃ Lx, Lx = rowsL l ++ rr cl sq a fr m := ⟨_, rfl⟩
              rw [← hLx] at hTm hlen
              have HLX := Lib.hid hLx
              clear hLx
              go_wp2_with fail
              have htd := hTm.out.keep (Upd.refl NoB wr).drew
              have hvd := HVm.out.trans (show Upd (fun b => w.heap.size ≤ b ∧ b ≠ b0) wr wr.drew from (Upd.refl _ _).drew)
              have hud : Upd NoB wr wr.drew := (Upd.refl _ _).drew
              obtain ⟨wd, hwd⟩ : ∃ wd, wr.drew = wd := ⟨_, rfl⟩
              rw [hwd] at htd hvd hud
              have HTd := Lib.hid htd
              have HVd := Lib.hid hvd
              have HUd := Lib.hid hud
              clear htd hvd hud
              obtain ⟨St, Sr, vt, vr, hTwo⟩ := HTd.out
              obtain ⟨Aq, cq, _, hvr, _⟩ := hTwo.oq.read
              subst hvr
              have H2 := Lib.hid hTwo
              obtain ⟨_, _, hset0, _⟩ := id hTwo.oq
              have hnq : ¬ (Value.slice Aq Lx.length cq).ownBlock = some q := fun e => hTwo.rq (hset0 q e)
              have hnb : ¬ (Value.slice Aq Lx.length cq).ownBlock = some b0 := fun e => (hTwo.bx b0 hb0m0.out).2.2.1 (hset0 b0 e)
              have hown0 := Lib.hid (fun b (hb : (Value.slice Aq Lx.length cq).ownBlock = some b) => (hTwo.sr b (hset0 b hb)).1)
              have hqc := (row_cells hTwo.hq).1
              have hbF := Lib.hid (fun x (hx : Upd (fun b => (Value.slice Aq Lx.length cq).ownBlock = some b) wd x) => hbz.out x (HVd.out.trans (hx.mono (G := fun b => w.heap.size ≤ b ∧ b ≠ b0) (fun b _ hb => ⟨hown0.out b hb, fun e => hnb (by rw [← e]; exact hb)⟩))))
              have HBs := Lib.hid (show Bd Sr wd from fun b hb => (hTwo.sr b hb).2)
              have hy := Lib.hid (show Rep.rwl.rep wd NoB (rowR cl sq a x) (#[.int .i64 cl, .int .u64 sq, .string x, .bool false, .int .i64 a, .int .i64 0] : Array Value).toList from ⟨rfl, hu2⟩)
              have hall : (Lx.length + 1) * 56 ≤ 140737488355328 := by omega
              clear hTwo hset0
              refine sched2_begin (fun b => (Value.slice Aq Lx.length cq).ownBlock = some b) (fun b => b = q ∨ (Value.slice Aq Lx.length cq).ownBlock = some b) [15] (by kernel_rfl) ?_
              rw [hwd]
              clear hwd
              refine sched2_take 0 rfl (by kernel_rfl) (by kernel_rfl) (by kernel_rfl) (by kernel_rfl) (by kernel_rfl) (fun _ _ _ h => h) (.inl ⟨rfl, fun x hx => by go_simp; rfl⟩) ?_
              go_simp
              refine sched2_take 1 rfl (by kernel_rfl) (by kernel_rfl) (by kernel_rfl) (by kernel_rfl) (by kernel_rfl) (fun _ _ _ h => h) (.inl ⟨rfl, fun x hx => by go_simp; rfl⟩) ?_
              go_simp
              refine sched2_take 2 rfl (by kernel_rfl) (by kernel_rfl) (by kernel_rfl) (by kernel_rfl) (by kernel_rfl) (fun _ _ _ h => h) (.inl ⟨rfl, fun x hx => by go_simp; rfl⟩) ?_
              go_simp
              refine sched2_take 3 rfl (by kernel_rfl) (by kernel_rfl) (by kernel_rfl) (by kernel_rfl) (by kernel_rfl) (fun _ _ _ h => h) (.inl ⟨rfl, fun x hx => by go_simp; rfl⟩) ?_
              go_simp
              refine sched2_take 4 rfl (by kernel_rfl) (by kernel_rfl) (by kernel_rfl) (by kernel_rfl) (by kernel_rfl) (fun _ _ _ h => h) (.inl ⟨rfl, fun x hx => by have hcx := hx.cell hqc hnq; go_simp; rfl⟩) ?_
              go_simp
              refine sched2_take 5 rfl (by kernel_rfl) (by kernel_rfl) (by kernel_rfl) (by kernel_rfl) (by kernel_rfl) (fun _ _ _ h => h) (.inl ⟨rfl, fun x hx => by go_simp; rfl⟩) ?_
              go_simp
              refine sched2_take 6 rfl (by kernel_rfl) (by kernel_rfl) (by kernel_rfl) (by kernel_rfl) (by kernel_rfl) (fun _ _ _ h => h) (.inl ⟨rfl, fun x hx => by obtain ⟨x0, x1, x2, x3, x4, x5⟩ := hbF.out _ hx; go_simp; rfl⟩) ?_
              go_simp
              refine sched2_take 7 rfl (by kernel_rfl) (by kernel_rfl) (by kernel_rfl) (by kernel_rfl) (by kernel_rfl) (fun _ _ _ h => h) (.inl ⟨rfl, fun x hx => by go_simp; rfl⟩) ?_
              go_simp
              refine sched2_take 8 rfl (by kernel_rfl) (by kernel_rfl) (by kernel_rfl) (by kernel_rfl) (by kernel_rfl) (fun _ _ _ h => h) (.inl ⟨rfl, fun x hx => by go_simp; rfl⟩) ?_
              go_simp
              refine sched2_take 9 rfl (by kernel_rfl) (by kernel_rfl) (by kernel_rfl) (by kernel_rfl) (by kernel_rfl) (fun _ _ _ h => h) (.inl ⟨rfl, fun x hx => by obtain ⟨x0, x1, x2, x3, x4, x5⟩ := hbF.out _ hx; go_simp; rfl⟩) ?_
              go_simp
              refine sched2_take 10 rfl (by kernel_rfl) (by kernel_rfl) (by kernel_rfl) (by kernel_rfl) (by kernel_rfl) (fun _ _ _ h => h) (.inl ⟨rfl, fun x hx => by go_simp; rfl⟩) ?_
              go_simp
              refine sched2_alone 11 (by kernel_rfl) rfl rfl ?_
              go_simp
              refine ⟨both ((Upd.refl _ _).alloc _) (fun _ h => .inr h), ?_⟩
              go_simp
              refine sched2_law 12 (by kernel_rfl) rfl rfl ?_
              go_simp
              at_builtin
              refine app_one' (r := Rep.rwl) (v := .slice Aq Lx.length cq) (y := (rowR cl sq a x)) rfl _ _ 26 39 (.agg #[.int .i64 0, .int .u64 0, .string ⟨#[]⟩, .bool false, .int .i64 0, .int .i64 0]) 56 rfl Try.underlying26 iRwl rfl (by decide) rfl rfl H2.out.oq HBs.out hy.out (fun b hb => hb.elim) hall ?_
              intro v1 w9 ho hu hu3
              refine law_done ⟨both hu3 (fun _ h => .inr h), ?_⟩
              obtain ⟨A1, c1, _, e1, _⟩ := ho.read
              rw [List.length_append, List.length_singleton] at e1
              subst e1
              have HPS := Lib.hid (H2.out.push ho hu)
              obtain ⟨kq, fq⟩ := row_cells (hu.heap H2.out.hq hnq)
              clear ho hu hu3
              go_simp
              refine sched2_take 13 rfl (by kernel_rfl) (by kernel_rfl) (by kernel_rfl) (by kernel_rfl) (by kernel_rfl) (fun _ _ _ h => h) (.inl ⟨rfl, fun x hx => by go_simp; rfl⟩) ?_
              go_simp
              refine sched2_take 14 rfl (by kernel_rfl) (by kernel_rfl) (by kernel_rfl) (by kernel_rfl) (by kernel_rfl) (fun _ _ _ h => h) (.inl ⟨rfl, fun x hx => by go_simp; rfl⟩) ?_
              go_simp
              refine sched2_alone 15 (by kernel_rfl) rfl rfl ?_
              go_simp
              refine ⟨⟨((Upd.refl _ w9).setCell (p := ⟨q, 0, none⟩) (fun _ => .inl rfl) _), fun hn => ?_⟩, ?_⟩
              · have := hn 15 (by simp)
                simp at this
              go_simp
              refine sched2_done (by kernel_rfl) ?_
              generalize hwz : w9.setCell ⟨q, 0, none⟩ (.slice A1 (Lx.length + 1) c1) = wz at *
              have HTz := Lib.hid HPS.out.1
              have HUz := Lib.hid (HUd.out.mono (fun _ _ h => h.elim) |>.trans HPS.out.2)
              clear hwz hnq hnb hqc hbF HBs hy H2 HPS kq fq
              have HTn := HTz.out
              rw [HLX.out, List.append_assoc, ← hxk.out] at HTn
              have HTn := Lib.hid HTn
              have HUn := Lib.hid (hUm.out.trans HUz.out)
              go_wp2_with fail
              go_roundw
              case measure => simp [intOf]; omega
              case rel =>
                first
                | exact ⟨m + 1, by omega, by go_num, HTn, HUn⟩
                | ((repeat apply Exists.intro)
                   refine ⟨⟨m + 1, by omega, ?_, HTn, HUn⟩, rfl⟩
                   go_num)
            · obtain rfl : m = fr.length := by omega
              have HTn := Lib.hid (show Tw w wr XS0 p q (l ++ [⟨cl, sq, fr, fw, a, 0⟩]) a (rowsL l ++ rr2 cl sq a fr fw 0) lr by unfold rr2; simpa using hTm.out)
              obtain ⟨x0, x1, x2, x3, x4, x5⟩ := hbz.out _ HVm.out
              go_wp2_with fail
              refine (hfw.out _ HVm.out).mono ?_
              rintro e wf1 ⟨v80, rfl, hM⟩
              obtain ⟨A80, c80, _, rfl, _⟩ := hM.1.read
              have HTf1 := Lib.hid (HTn.out.fresh hM.2)
              have HVf1 := Lib.hid (HVm.out.trans (hM.2.mono (G := fun b => w.heap.size ≤ b ∧ b ≠ b0) (fun _ _ h => h.elim)))
              have hb0m1 := Lib.hid (show b0 ∈ fresh wr wf1 ++ XS0 from List.mem_append.2 (.inr hb0m0.out))
              have HRf1 := Lib.hid (fun x (hx : Upd (fun b => w.heap.size ≤ b ∧ b ∉ fresh wr wf1 ++ XS0) wf1 x) => hM.1.read.upd hx (fun b hb hf => hf.2 (List.mem_append.2 (.inl (mem_fresh.2 ⟨hb.2, hb.1.resolve_left (fun h => h)⟩)))))
              generalize fresh wr wf1 ++ XS0 = XS1 at *
              have HU01 := Lib.hid (Upd.refl (fun b => w.heap.size ≤ b ∧ b ∉ XS1) wf1)
              clear hM
              go_wp2_with fail
              go_loopw [10, 82] (fun xk i wr => ∃ m : Nat, m ≤ fw.length ∧ i = .int .i64 m ∧ Hid (Tw w wr XS1 p q (l ++ [⟨cl, sq, fr, fw, a, 0⟩]) a (rowsL l ++ rr2 cl sq a fr fw m) lr) ∧ Hid (Upd (fun b => w.heap.size ≤ b ∧ b ∉ XS1) wf1 wr)) (fun _ i _ => fw.length - (intOf i).toNat)
              case atStart => exact ⟨0, by omega, rfl, HTf1, HU01⟩
              case round =>
                obtain ⟨m, hm, rfl, hTm, hUm⟩ := hrel
                have HVm := Lib.hid (HVf1.out.trans (hUm.out.mono (G := fun b => w.heap.size ≤ b ∧ b ≠ b0) (fun b _ hb => ⟨hb.1, fun e => hb.2 (by rw [e]; exact hb0m1.out)⟩)))
                by_cases hmlt : m < fw.length
                · obtain ⟨gk, ok, uk, hAk, huk, hcellk, _⟩ := (HRf1.out _ hUm.out).cell1 rfl m hmlt
                  obtain ⟨hu1, hu2⟩ := huk
                  cases hu1
                  cases hAk
                  have hxk := Lib.hid (rr2_succ cl sq a fr fw m fw[m] (List.getElem?_eq_getElem hmlt))
                  generalize fw[m] = x at *
                  have hlen : (rowsL l ++ rr2 cl sq a fr fw m).length ≤ 1000 := by rw [List.length_append]; have := rr2_len cl sq a fr fw m; omega
                  obtain ⟨Lx, hLx⟩ : ∃ Lx, Lx = rowsL l ++ rr2 cl sq a fr fw m := ⟨_, rfl⟩
                  rw [← hLx] at hTm hlen
                  have HLX := Lib.hid hLx
                  clear hLx
                  go_wp2_with fail
                  have htd := hTm.out.keep (Upd.refl NoB wr).drew
                  have hvd := HVm.out.trans (show Upd (fun b => w.heap.size ≤ b ∧ b ≠ b0) wr wr.drew from (Upd.refl _ _).drew)
                  have hud : Upd NoB wr wr.drew := (Upd.refl _ _).drew
                  obtain ⟨wd, hwd⟩ : ∃ wd, wr.drew = wd := ⟨_, rfl⟩
                  rw [hwd] at htd hvd hud
                  have HTd := Lib.hid htd
                  have HVd := Lib.hid hvd
                  have HUd := Lib.hid hud
                  clear htd hvd hud
                  obtain ⟨St, Sr, vt, vr, hTwo⟩ := HTd.out
                  obtain ⟨Aq, cq, _, hvr, _⟩ := hTwo.oq.read
                  subst hvr
                  have H2 := Lib.hid hTwo
                  obtain ⟨_, _, hset0, _⟩ := id hTwo.oq
                  have hnq : ¬ (Value.slice Aq Lx.length cq).ownBlock = some q := fun e => hTwo.rq (hset0 q e)
                  have hnb : ¬ (Value.slice Aq Lx.length cq).ownBlock = some b0 := fun e => (hTwo.bx b0 hb0m1.out).2.2.1 (hset0 b0 e)
                  have hown0 := Lib.hid (fun b (hb : (Value.slice Aq Lx.length cq).ownBlock = some b) => (hTwo.sr b (hset0 b hb)).1)
                  have hqc := (row_cells hTwo.hq).1
                  have hbF := Lib.hid (fun x (hx : Upd (fun b => (Value.slice Aq Lx.length cq).ownBlock = some b) wd x) => hbz.out x (HVd.out.trans (hx.mono (G := fun b => w.heap.size ≤ b ∧ b ≠ b0) (fun b _ hb => ⟨hown0.out b hb, fun e => hnb (by rw [← e]; exact hb)⟩))))
                  have HBs := Lib.hid (show Bd Sr wd from fun b hb => (hTwo.sr b hb).2)
                  have hy := Lib.hid (show Rep.rwl.rep wd NoB (rowW cl sq a x) (#[.int .i64 cl, .int .u64 sq, .string x, .bool true, .int .i64 a, .int .i64 0] : Array Value).toList from ⟨rfl, hu2⟩)
                  have hall : (Lx.length + 1) * 56 ≤ 140737488355328 := by omega
                  clear hTwo hset0
                  refine sched2_begin (fun b => (Value.slice Aq Lx.length cq).ownBlock = some b) (fun b => b = q ∨ (Value.slice Aq Lx.length cq).ownBlock = some b) [15] (by kernel_rfl) ?_
                  rw [hwd]
                  clear hwd
                  refine sched2_take 0 rfl (by kernel_rfl) (by kernel_rfl) (by kernel_rfl) (by kernel_rfl) (by kernel_rfl) (fun _ _ _ h => h) (.inl ⟨rfl, fun x hx => by go_simp; rfl⟩) ?_
                  go_simp
                  refine sched2_take 1 rfl (by kernel_rfl) (by kernel_rfl) (by kernel_rfl) (by kernel_rfl) (by kernel_rfl) (fun _ _ _ h => h) (.inl ⟨rfl, fun x hx => by go_simp; rfl⟩) ?_
                  go_simp
                  refine sched2_take 2 rfl (by kernel_rfl) (by kernel_rfl) (by kernel_rfl) (by kernel_rfl) (by kernel_rfl) (fun _ _ _ h => h) (.inl ⟨rfl, fun x hx => by go_simp; rfl⟩) ?_
                  go_simp
                  refine sched2_take 3 rfl (by kernel_rfl) (by kernel_rfl) (by kernel_rfl) (by kernel_rfl) (by kernel_rfl) (fun _ _ _ h => h) (.inl ⟨rfl, fun x hx => by go_simp; rfl⟩) ?_
                  go_simp
                  refine sched2_take 4 rfl (by kernel_rfl) (by kernel_rfl) (by kernel_rfl) (by kernel_rfl) (by kernel_rfl) (fun _ _ _ h => h) (.inl ⟨rfl, fun x hx => by have hcx := hx.cell hqc hnq; go_simp; rfl⟩) ?_
                  go_simp
                  refine sched2_take 5 rfl (by kernel_rfl) (by kernel_rfl) (by kernel_rfl) (by kernel_rfl) (by kernel_rfl) (fun _ _ _ h => h) (.inl ⟨rfl, fun x hx => by go_simp; rfl⟩) ?_
                  go_simp
                  refine sched2_take 6 rfl (by kernel_rfl) (by kernel_rfl) (by kernel_rfl) (by kernel_rfl) (by kernel_rfl) (fun _ _ _ h => h) (.inl ⟨rfl, fun x hx => by obtain ⟨x0, x1, x2, x3, x4, x5⟩ := hbF.out _ hx; go_simp; rfl⟩) ?_
                  go_simp
                  refine sched2_take 7 rfl (by kernel_rfl) (by kernel_rfl) (by kernel_rfl) (by kernel_rfl) (by kernel_rfl) (fun _ _ _ h => h) (.inl ⟨rfl, fun x hx => by go_simp; rfl⟩) ?_
                  go_simp
                  refine sched2_take 8 rfl (by kernel_rfl) (by kernel_rfl) (by kernel_rfl) (by kernel_rfl) (by kernel_rfl) (fun _ _ _ h => h) (.inl ⟨rfl, fun x hx => by go_simp; rfl⟩) ?_
                  go_simp
                  refine sched2_take 9 rfl (by kernel_rfl) (by kernel_rfl) (by kernel_rfl) (by kernel_rfl) (by kernel_rfl) (fun _ _ _ h => h) (.inl ⟨rfl, fun x hx => by obtain ⟨x0, x1, x2, x3, x4, x5⟩ := hbF.out _ hx; go_simp; rfl⟩) ?_
                  go_simp
                  refine sched2_take 10 rfl (by kernel_rfl) (by kernel_rfl) (by kernel_rfl) (by kernel_rfl) (by kernel_rfl) (fun _ _ _ h => h) (.inl ⟨rfl, fun x hx => by go_simp; rfl⟩) ?_
                  go_simp
                  refine sched2_alone 11 (by kernel_rfl) rfl rfl ?_
                  go_simp
                  refine ⟨both ((Upd.refl _ _).alloc _) (fun _ h => .inr h), ?_⟩
                  go_simp
                  refine sched2_law 12 (by kernel_rfl) rfl rfl ?_
                  go_simp
                  at_builtin
                  refine app_one' (r := Rep.rwl) (v := .slice Aq Lx.length cq) (y := (rowW cl sq a x)) rfl _ _ 26 39 (.agg #[.int .i64 0, .int .u64 0, .string ⟨#[]⟩, .bool false, .int .i64 0, .int .i64 0]) 56 rfl Try.underlying26 iRwl rfl (by decide) rfl rfl H2.out.oq HBs.out hy.out (fun b hb => hb.elim) hall ?_
                  intro v1 w9 ho hu hu3
                  refine law_done ⟨both hu3 (fun _ h => .inr h), ?_⟩
                  obtain ⟨A1, c1, _, e1, _⟩ := ho.read
                  rw [List.length_append, List.length_singleton] at e1
                  subst e1
                  have HPS := Lib.hid (H2.out.push ho hu)
                  obtain ⟨kq, fq⟩ := row_cells (hu.heap H2.out.hq hnq)
                  clear ho hu hu3
                  go_simp
                  refine sched2_take 13 rfl (by kernel_rfl) (by kernel_rfl) (by kernel_rfl) (by kernel_rfl) (by kernel_rfl) (fun _ _ _ h => h) (.inl ⟨rfl, fun x hx => by go_simp; rfl⟩) ?_
                  go_simp
                  refine sched2_take 14 rfl (by kernel_rfl) (by kernel_rfl) (by kernel_rfl) (by kernel_rfl) (by kernel_rfl) (fun _ _ _ h => h) (.inl ⟨rfl, fun x hx => by go_simp; rfl⟩) ?_
                  go_simp
                  refine sched2_alone 15 (by kernel_rfl) rfl rfl ?_
                  go_simp
                  refine ⟨⟨((Upd.refl _ w9).setCell (p := ⟨q, 0, none⟩) (fun _ => .inl rfl) _), fun hn => ?_⟩, ?_⟩
                  · have := hn 15 (by simp)
                    simp at this
                  go_simp
                  refine sched2_done (by kernel_rfl) ?_
                  generalize hwz : w9.setCell ⟨q, 0, none⟩ (.slice A1 (Lx.length + 1) c1) = wz at *
                  have HTz := Lib.hid HPS.out.1
                  have HUz := Lib.hid (HUd.out.mono (fun _ _ h => h.elim) |>.trans HPS.out.2)
                  clear hwz hnq hnb hqc hbF HBs hy H2 HPS kq fq
                  have HTn := HTz.out
                  rw [HLX.out, List.append_assoc, ← hxk.out] at HTn
                  have HTn := Lib.hid HTn
                  have HUn := Lib.hid (hUm.out.trans HUz.out)
                  go_wp2_with fail
                  go_roundw
                  case measure => simp [intOf]; omega
                  case rel =>
                    first
                    | exact ⟨m + 1, by omega, by go_num, HTn, HUn⟩
                    | ((repeat apply Exists.intro)
                       refine ⟨⟨m + 1, by omega, ?_, HTn, HUn⟩, rfl⟩
                       go_num)
                · obtain rfl : m = fw.length := by omega
                  have HTc := hTm.out
                  rw [rr_rows, show rowsL l ++ rowsOf cl sq a fr fw = rowsL (l ++ [⟨cl, sq, fr, fw, a, 0⟩]) by rw [rowsL_snoc]; rfl] at HTc
                  have HTc := Lib.hid HTc
                  obtain ⟨St, Sr, vt, vr, hTwo⟩ := HTc.out
                  obtain ⟨Aq, cq, _, hvr, _, dq, _⟩ := hTwo.oq.read
                  subst hvr
                  have dq' : cq ≤ 9223372036854775807 := dq
                  have hqc := (row_cells hTwo.hq).1
                  have HXr := Lib.hid hTwo.oq.read
                  have HLAW := Lib.hid (fun x y (hx : x ∈ rowsL (l ++ [⟨cl, sq, fr, fw, a, 0⟩])) (hy : y ∈ rowsL (l ++ [⟨cl, sq, fr, fw, a, 0⟩])) => alone_rows HGc.out hx hy)
                  have HTe := Lib.hid (fun x (hx : Upd NoB wr x) => (HTc.out.keep hx).sub (ys := []) (fun b hb => absurd hb List.not_mem_nil))
                  obtain ⟨LL, hLL2⟩ : ∃ LL, LL = rowsL (l ++ [⟨cl, sq, fr, fw, a, 0⟩]) := ⟨_, rfl⟩
                  have hLLn : LL.length ≤ 5000 := by rw [hLL2]; omega
                  rw [← hLL2] at HXr HLAW hqc
                  have hLLe := Lib.hid hLL2
                  have HUW := Lib.hid (Upd.refl NoB wr)
                  obtain ⟨wc, hwc⟩ : ∃ wc, wc = wr := ⟨_, rfl⟩
                  rw [← hwc] at HXr HTe hqc HUW
                  clear hTwo hLL2
                  subst hwc
                  go_wp2_with fail
                  go_loopw [12, 14, 120] (fun x12 x14 i wr => ∃ m : Nat, m ≤ LL.length ∧ i = .int .i64 m ∧ Hid (Upd NoB wc wr)) (fun _ _ i _ => LL.length - (intOf i).toNat)
                  case atStart => exact ⟨0, by omega, rfl, HUW⟩
                  case round =>
                    obtain ⟨m, hm, rfl, hU1⟩ := hrel
                    by_cases hmlt : m < LL.length
                    · obtain ⟨gx, ox, rx, rfl, hrepx, hcx, _⟩ := HXr.out.cellN m hmlt
                      obtain ⟨rfl, _⟩ := hrepx
                      have q0 : wr.cell? ⟨gx, ox + m * 6, none⟩ = some (.int .i64 LL[m].cl) := hU1.out.cell (hcx 0 _ rfl) (fun h => h)
                      have q1 : wr.cell? ⟨gx, ox + m * 6 + 1, none⟩ = some (.int .u64 LL[m].sq) := hU1.out.cell (hcx 1 _ rfl) (fun h => h)
                      have q2 : wr.cell? ⟨gx, ox + m * 6 + 2, none⟩ = some (.string LL[m].key) := hU1.out.cell (hcx 2 _ rfl) (fun h => h)
                      have q3 : wr.cell? ⟨gx, ox + m * 6 + 3, none⟩ = some (.bool LL[m].wr) := hU1.out.cell (hcx 3 _ rfl) (fun h => h)
                      have q4 : wr.cell? ⟨gx, ox + m * 6 + 4, none⟩ = some (.int .i64 LL[m].at_) := hU1.out.cell (hcx 4 _ rfl) (fun h => h)
                      have q5 : wr.cell? ⟨gx, ox + m * 6 + 5, none⟩ = some (.int .i64 LL[m].till) := hU1.out.cell (hcx 5 _ rfl) (fun h => h)
                      have hxm := Lib.hid (show LL[m] ∈ LL from List.getElem_mem hmlt)
                      generalize LL[m] = x at *
                      obtain ⟨xc, xq, xk, xw, xa, xt⟩ := x
                      simp only at q0 q1 q2 q3 q4 q5
                      clear hcx
                      obtain ⟨wo, hwo⟩ : ∃ wo, wr.alloc (.cells #[.int .i64 xc, .int .u64 xq, .string xk, .bool xw, .int .i64 xa, .int .i64 xt] 39) = wo := ⟨_, rfl⟩
                      have huo : Upd NoB wr wo := by rw [← hwo]; exact (Upd.refl _ _).alloc _
                      obtain ⟨bx, hbx0⟩ : ∃ bx, wr.heap.size = bx := ⟨_, rfl⟩
                      have hBx := Lib.hid (show wo.heap[bx]? = some (.cells #[.int .i64 xc, .int .u64 xq, .string xk, .bool xw, .int .i64 xa, .int .i64 xt] 39 (0, 0)) by rw [← hwo, ← hbx0]; exact heap_alloc_new _ _)
                      have HUo := Lib.hid (hU1.out.trans huo)
                      have hqo := HUo.out.cell hqc (fun h => h)
                      have HUoo := Lib.hid (Upd.refl NoB wo)
                      clear huo
                      go_wp2_with fail
                      go_loopw [14, 129] (fun x14 i wr => ∃ m2 : Nat, m2 ≤ LL.length ∧ i = .int .i64 m2 ∧ Hid (Upd NoB wo wr)) (fun _ i _ => LL.length - (intOf i).toNat)
                      case atStart => exact ⟨0, by omega, rfl, HUoo⟩
                      case round =>
                        obtain ⟨m2, hm2, rfl, hU2⟩ := hrel
                        by_cases hm2lt : m2 < LL.length
                        · obtain ⟨gy, oy, ry, hAy, hrepy, hcy, _⟩ := HXr.out.cellN m2 hm2lt
                          obtain ⟨rfl, _⟩ := hrepy
                          cases hAy
                          have y0 : wr.cell? ⟨gx, ox + m2 * 6, none⟩ = some (.int .i64 LL[m2].cl) := (HUo.out.trans hU2.out).cell (hcy 0 _ rfl) (fun h => h)
                          have y1 : wr.cell? ⟨gx, ox + m2 * 6 + 1, none⟩ = some (.int .u64 LL[m2].sq) := (HUo.out.trans hU2.out).cell (hcy 1 _ rfl) (fun h => h)
                          have y2 : wr.cell? ⟨gx, ox + m2 * 6 + 2, none⟩ = some (.string LL[m2].key) := (HUo.out.trans hU2.out).cell (hcy 2 _ rfl) (fun h => h)
                          have y3 : wr.cell? ⟨gx, ox + m2 * 6 + 3, none⟩ = some (.bool LL[m2].wr) := (HUo.out.trans hU2.out).cell (hcy 3 _ rfl) (fun h => h)
                          have y4 : wr.cell? ⟨gx, ox + m2 * 6 + 4, none⟩ = some (.int .i64 LL[m2].at_) := (HUo.out.trans hU2.out).cell (hcy 4 _ rfl) (fun h => h)
                          have y5 : wr.cell? ⟨gx, ox + m2 * 6 + 5, none⟩ = some (.int .i64 LL[m2].till) := (HUo.out.trans hU2.out).cell (hcy 5 _ rfl) (fun h => h)
                          have hlaw := Lib.hid (HLAW.out _ LL[m2] hxm.out (List.getElem_mem hm2lt))
                          generalize LL[m2] = yy at *
                          obtain ⟨yc, yq, yk, yw, ya, yt⟩ := yy
                          simp only at y0 y1 y2 y3 y4 y5 hlaw
                          obtain ⟨z0, z1, z2, z3, z4, z5⟩ := six_cells (hU2.out.heap hBx.out (fun h => h))
                          have hbz2 : bx < wr.heap.size := Nat.lt_of_lt_of_le (lt_of_heap hBx.out) hU2.out.size
                          have hUn := Lib.hid (fun o => hU2.out.alloc o)
                          clear hcy
                          obtain ⟨n1, n2⟩ := str_nil xk
                          by_cases e1 : xt = 0
                          · have e1b : (xt == 0) = true := by simpa using e1
                            by_cases e2 : yt = 0
                            · have e2b : (yt == 0) = true := by simpa using e2
                              by_cases e3 : xk = yk
                              · have e3b : (xk.toList == yk.toList) = true := by rw [e3]; simp
                                by_cases e4 : xk.size = 0
                                · rw [decide_eq_true e4] at n1 n2
                                  clear e1 e2 e3 e4 hlaw
                                  go_wp2_with fail
                                  go_roundw
                                  case measure => simp [intOf]; omega
                                  case rel =>
                                    first
                                    | exact ⟨m2 + 1, by omega, by go_num, Lib.hid (hUn.out _)⟩
                                    | ((repeat apply Exists.intro)
                                       refine ⟨⟨m2 + 1, by omega, ?_, Lib.hid (hUn.out _)⟩, rfl⟩
                                       go_num)
                                · rw [decide_eq_false e4] at n1 n2
                                  cases xw
                                  · clear e1 e2 e3 e4 hlaw
                                    go_wp2_with fail
                                    go_roundw
                                    case measure => simp [intOf]; omega
                                    case rel =>
                                      first
                                      | exact ⟨m2 + 1, by omega, by go_num, Lib.hid (hUn.out _)⟩
                                      | ((repeat apply Exists.intro)
                                         refine ⟨⟨m2 + 1, by omega, ?_, Lib.hid (hUn.out _)⟩, rfl⟩
                                         go_num)
                                  · obtain ⟨hi1, hi2⟩ := hlaw.out e1 e2 e3 e4 rfl
                                    subst hi1
                                    subst hi2
                                    clear e1 e2 e3 e4 hlaw
                                    go_wp2_with fail
                                    go_roundw
                                    case measure => simp [intOf]; omega
                                    case rel =>
                                      first
                                      | exact ⟨m2 + 1, by omega, by go_num, Lib.hid (hUn.out _)⟩
                                      | ((repeat apply Exists.intro)
                                         refine ⟨⟨m2 + 1, by omega, ?_, Lib.hid (hUn.out _)⟩, rfl⟩
                                         go_num)
                              · have e3b := str_ne xk yk e3
                                clear e1 e2 e3 hlaw n1 n2
                                go_wp2_with fail
                                go_roundw
                                case measure => simp [intOf]; omega
                                case rel =>
                                  first
                                  | exact ⟨m2 + 1, by omega, by go_num, Lib.hid (hUn.out _)⟩
                                  | ((repeat apply Exists.intro)
                                     refine ⟨⟨m2 + 1, by omega, ?_, Lib.hid (hUn.out _)⟩, rfl⟩
                                     go_num)
                            · have e2b : (yt == 0) = false := by simpa using e2
                              clear e1 e2 hlaw n1 n2
                              go_wp2_with fail
                              go_roundw
                              case measure => simp [intOf]; omega
                              case rel =>
                                first
                                | exact ⟨m2 + 1, by omega, by go_num, Lib.hid (hUn.out _)⟩
                                | ((repeat apply Exists.intro)
                                   refine ⟨⟨m2 + 1, by omega, ?_, Lib.hid (hUn.out _)⟩, rfl⟩
                                   go_num)
                          · have e1b : (xt == 0) = false := by simpa using e1
                            clear e1 hlaw n1 n2
                            go_wp2_with fail
                            go_roundw
                            case measure => simp [intOf]; omega
                            case rel =>
                              first
                              | exact ⟨m2 + 1, by omega, by go_num, Lib.hid (hUn.out _)⟩
                              | ((repeat apply Exists.intro)
                                 refine ⟨⟨m2 + 1, by omega, ?_, Lib.hid (hUn.out _)⟩, rfl⟩
                                 go_num)
                        · obtain rfl : m2 = LL.length := by omega
                          have hUe := Lib.hid (HUo.out.trans hU2.out)
                          go_wp2_with fail
                          go_roundw
                          case measure => simp [intOf]; omega
                          case rel =>
                            first
                            | exact ⟨m + 1, by omega, by go_num, hUe⟩
                            | ((repeat apply Exists.intro)
                               refine ⟨⟨m + 1, by omega, ?_, hUe⟩, rfl⟩
                               go_num)
                    · obtain rfl : m = LL.length := by omega
                      have HTf2 := Lib.hid (HTe.out _ hU1.out)
                      go_wp2_with fail
                      go_roundw
                      case measure => simp [intOf]; omega
                      case rel =>
                        first
                        | exact ⟨k + 1, by omega, by omega, by go_num, (l ++ [⟨cl, sq, fr, fw, a, 0⟩]), a, lr, by (simp; omega), by omega, by omega, HGc, HTf2⟩
                        | ((repeat apply Exists.intro)
                           refine ⟨⟨k + 1, by omega, by omega, ?_, (l ++ [⟨cl, sq, fr, fw, a, 0⟩]), a, lr, by (simp; omega), by omega, by omega, HGc, HTf2⟩, rfl⟩
                           go_num)
        · have hEb : (E1 == 0) = false := by simpa using hE
          have he := htf hE
          rw [Prod.mk.injEq] at he
          obtain ⟨he1, he2⟩ := he
          subst he1
          subst he2
          have HT6 := Lib.hid hT6
          have hff := fun h => free_fail (l := l1) (last := last1) (c := cl) (q := sq) (a := a) h
          have hfo := fun h => free_ok (l := l1) (last := last1) (lr := lr) (c := cl) (q := sq) (a := a) hG.out hlr h
          have hfg := free_good hG.out cl sq a
          have hfl := free_len hG.out cl sq a
          have h2f := two_free cl sq a HT6.out (by omega)
          generalize freeL l1 last1 cl sq a = R at *
          obtain ⟨E2, l2, last2⟩ := R
          simp only at hff hfo hfg hfl h2f
          have H2F := Lib.hid h2f
          obtain ⟨x0, x1, x2, x3, x4, x5⟩ := hbz.out _ HV6.out
          clear hE htf hto htg hT6 h2f
          go_wp2_with fail
          refine H2F.out.mono ?_
          rintro e w7 ⟨rfl, hT7, hu⟩
          have HT7 := Lib.hid hT7
          have HV7 := Lib.hid (HV6.out.trans (hu.mono (G := fun b => w.heap.size ≤ b ∧ b ≠ b0) (fun b _ hb => ⟨hb.1, fun e => hb.2 (by rw [e]; simp)⟩)))
          clear hT7 hu
          by_cases hE2 : E2 = 0
          · subst hE2
            obtain ⟨hr1, hr2, hr3⟩ := hfo rfl
            obtain rfl := hr3.symm
            have h2r := two_rfree cl sq a HT7.out (by omega)
            rw [hr1] at h2r
            have H2R := Lib.hid h2r
            have HGc := Lib.hid hfg
            obtain ⟨x0, x1, x2, x3, x4, x5⟩ := hbz.out _ HV7.out
            clear hff hfo hfg h2r hr1
            go_wp2_with fail
            refine H2R.out.mono ?_
            rintro e w8 ⟨rfl, hT8, hu⟩
            have HTc := Lib.hid hT8
            clear hT8 hu
            obtain ⟨St, Sr, vt, vr, hTwo⟩ := HTc.out
            obtain ⟨Aq, cq, _, hvr, _, dq, _⟩ := hTwo.oq.read
            subst hvr
            have dq' : cq ≤ 9223372036854775807 := dq
            have hqc := (row_cells hTwo.hq).1
            have HXr := Lib.hid hTwo.oq.read
            have HLAW := Lib.hid (fun x y (hx : x ∈ rowsL l2) (hy : y ∈ rowsL l2) => alone_rows HGc.out hx hy)
            have HTe := Lib.hid (fun x (hx : Upd NoB w8 x) => (HTc.out.keep hx).sub (ys := []) (fun b hb => absurd hb List.not_mem_nil))
            obtain ⟨LL, hLL2⟩ : ∃ LL, LL = rowsL l2 := ⟨_, rfl⟩
            have hLLn : LL.length ≤ 5000 := by rw [hLL2]; omega
            rw [← hLL2] at HXr HLAW hqc
            have hLLe := Lib.hid hLL2
            have HUW := Lib.hid (Upd.refl NoB w8)
            obtain ⟨wc, hwc⟩ : ∃ wc, wc = w8 := ⟨_, rfl⟩
            rw [← hwc] at HXr HTe hqc HUW
            clear hTwo hLL2
            subst hwc
            go_wp2_with fail
            go_loopw [12, 14, 120] (fun x12 x14 i wr => ∃ m : Nat, m ≤ LL.length ∧ i = .int .i64 m ∧ Hid (Upd NoB wc wr)) (fun _ _ i _ => LL.length - (intOf i).toNat)
            case atStart => exact ⟨0, by omega, rfl, HUW⟩
            case round =>
              obtain ⟨m, hm, rfl, hU1⟩ := hrel
              by_cases hmlt : m < LL.length
              · obtain ⟨gx, ox, rx, rfl, hrepx, hcx, _⟩ := HXr.out.cellN m hmlt
                obtain ⟨rfl, _⟩ := hrepx
                have q0 : wr.cell? ⟨gx, ox + m * 6, none⟩ = some (.int .i64 LL[m].cl) := hU1.out.cell (hcx 0 _ rfl) (fun h => h)
                have q1 : wr.cell? ⟨gx, ox + m * 6 + 1, none⟩ = some (.int .u64 LL[m].sq) := hU1.out.cell (hcx 1 _ rfl) (fun h => h)
                have q2 : wr.cell? ⟨gx, ox + m * 6 + 2, none⟩ = some (.string LL[m].key) := hU1.out.cell (hcx 2 _ rfl) (fun h => h)
                have q3 : wr.cell? ⟨gx, ox + m * 6 + 3, none⟩ = some (.bool LL[m].wr) := hU1.out.cell (hcx 3 _ rfl) (fun h => h)
                have q4 : wr.cell? ⟨gx, ox + m * 6 + 4, none⟩ = some (.int .i64 LL[m].at_) := hU1.out.cell (hcx 4 _ rfl) (fun h => h)
                have q5 : wr.cell? ⟨gx, ox + m * 6 + 5, none⟩ = some (.int .i64 LL[m].till) := hU1.out.cell (hcx 5 _ rfl) (fun h => h)
                have hxm := Lib.hid (show LL[m] ∈ LL from List.getElem_mem hmlt)
                generalize LL[m] = x at *
                obtain ⟨xc, xq, xk, xw, xa, xt⟩ := x
                simp only at q0 q1 q2 q3 q4 q5
                clear hcx
                obtain ⟨wo, hwo⟩ : ∃ wo, wr.alloc (.cells #[.int .i64 xc, .int .u64 xq, .string xk, .bool xw, .int .i64 xa, .int .i64 xt] 39) = wo := ⟨_, rfl⟩
                have huo : Upd NoB wr wo := by rw [← hwo]; exact (Upd.refl _ _).alloc _
                obtain ⟨bx, hbx0⟩ : ∃ bx, wr.heap.size = bx := ⟨_, rfl⟩
                have hBx := Lib.hid (show wo.heap[bx]? = some (.cells #[.int .i64 xc, .int .u64 xq, .string xk, .bool xw, .int .i64 xa, .int .i64 xt] 39 (0, 0)) by rw [← hwo, ← hbx0]; exact heap_alloc_new _ _)
                have HUo := Lib.hid (hU1.out.trans huo)
                have hqo := HUo.out.cell hqc (fun h => h)
                have HUoo := Lib.hid (Upd.refl NoB wo)
                clear huo
                go_wp2_with fail
                go_loopw [14, 129] (fun x14 i wr => ∃ m2 : Nat, m2 ≤ LL.length ∧ i = .int .i64 m2 ∧ Hid (Upd NoB wo wr)) (fun _ i _ => LL.length - (intOf i).toNat)
                case atStart => exact ⟨0, by omega, rfl, HUoo⟩
                case round =>
                  obtain ⟨m2, hm2, rfl, hU2⟩ := hrel
                  by_cases hm2lt : m2 < LL.length
                  · obtain ⟨gy, oy, ry, hAy, hrepy, hcy, _⟩ := HXr.out.cellN m2 hm2lt
                    obtain ⟨rfl, _⟩ := hrepy
                    cases hAy
                    have y0 : wr.cell? ⟨gx, ox + m2 * 6, none⟩ = some (.int .i64 LL[m2].cl) := (HUo.out.trans hU2.out).cell (hcy 0 _ rfl) (fun h => h)
                    have y1 : wr.cell? ⟨gx, ox + m2 * 6 + 1, none⟩ = some (.int .u64 LL[m2].sq) := (HUo.out.trans hU2.out).cell (hcy 1 _ rfl) (fun h => h)
                    have y2 : wr.cell? ⟨gx, ox + m2 * 6 + 2, none⟩ = some (.string LL[m2].key) := (HUo.out.trans hU2.out).cell (hcy 2 _ rfl) (fun h => h)
                    have y3 : wr.cell? ⟨gx, ox + m2 * 6 + 3, none⟩ = some (.bool LL[m2].wr) := (HUo.out.trans hU2.out).cell (hcy 3 _ rfl) (fun h => h)
                    have y4 : wr.cell? ⟨gx, ox + m2 * 6 + 4, none⟩ = some (.int .i64 LL[m2].at_) := (HUo.out.trans hU2.out).cell (hcy 4 _ rfl) (fun h => h)
                    have y5 : wr.cell? ⟨gx, ox + m2 * 6 + 5, none⟩ = some (.int .i64 LL[m2].till) := (HUo.out.trans hU2.out).cell (hcy 5 _ rfl) (fun h => h)
                    have hlaw := Lib.hid (HLAW.out _ LL[m2] hxm.out (List.getElem_mem hm2lt))
                    generalize LL[m2] = yy at *
                    obtain ⟨yc, yq, yk, yw, ya, yt⟩ := yy
                    simp only at y0 y1 y2 y3 y4 y5 hlaw
                    obtain ⟨z0, z1, z2, z3, z4, z5⟩ := six_cells (hU2.out.heap hBx.out (fun h => h))
                    have hbz2 : bx < wr.heap.size := Nat.lt_of_lt_of_le (lt_of_heap hBx.out) hU2.out.size
                    have hUn := Lib.hid (fun o => hU2.out.alloc o)
                    clear hcy
                    obtain ⟨n1, n2⟩ := str_nil xk
                    by_cases e1 : xt = 0
                    · have e1b : (xt == 0) = true := by simpa using e1
                      by_cases e2 : yt = 0
                      · have e2b : (yt == 0) = true := by simpa using e2
                        by_cases e3 : xk = yk
                        · have e3b : (xk.toList == yk.toList) = true := by rw [e3]; simp
                          by_cases e4 : xk.size = 0
                          · rw [decide_eq_true e4] at n1 n2
                            clear e1 e2 e3 e4 hlaw
                            go_wp2_with fail
                            go_roundw
                            case measure => simp [intOf]; omega
                            case rel =>
                              first
                              | exact ⟨m2 + 1, by omega, by go_num, Lib.hid (hUn.out _)⟩
                              | ((repeat apply Exists.intro)
                                 refine ⟨⟨m2 + 1, by omega, ?_, Lib.hid (hUn.out _)⟩, rfl⟩
                                 go_num)
                          · rw [decide_eq_false e4] at n1 n2
                            cases xw
                            · clear e1 e2 e3 e4 hlaw
                              go_wp2_with fail
                              go_roundw
                              case measure => simp [intOf]; omega
                              case rel =>
                                first
                                | exact ⟨m2 + 1, by omega, by go_num, Lib.hid (hUn.out _)⟩
                                | ((repeat apply Exists.intro)
                                   refine ⟨⟨m2 + 1, by omega, ?_, Lib.hid (hUn.out _)⟩, rfl⟩
                                   go_num)
                            · obtain ⟨hi1, hi2⟩ := hlaw.out e1 e2 e3 e4 rfl
                              subst hi1
                              subst hi2
                              clear e1 e2 e3 e4 hlaw
                              go_wp2_with fail
                              go_roundw
                              case measure => simp [intOf]; omega
                              case rel =>
                                first
                                | exact ⟨m2 + 1, by omega, by go_num, Lib.hid (hUn.out _)⟩
                                | ((repeat apply Exists.intro)
                                   refine ⟨⟨m2 + 1, by omega, ?_, Lib.hid (hUn.out _)⟩, rfl⟩
                                   go_num)
                        · have e3b := str_ne xk yk e3
                          clear e1 e2 e3 hlaw n1 n2
                          go_wp2_with fail
                          go_roundw
                          case measure => simp [intOf]; omega
                          case rel =>
                            first
                            | exact ⟨m2 + 1, by omega, by go_num, Lib.hid (hUn.out _)⟩
                            | ((repeat apply Exists.intro)
                               refine ⟨⟨m2 + 1, by omega, ?_, Lib.hid (hUn.out _)⟩, rfl⟩
                               go_num)
                      · have e2b : (yt == 0) = false := by simpa using e2
                        clear e1 e2 hlaw n1 n2
                        go_wp2_with fail
                        go_roundw
                        case measure => simp [intOf]; omega
                        case rel =>
                          first
                          | exact ⟨m2 + 1, by omega, by go_num, Lib.hid (hUn.out _)⟩
                          | ((repeat apply Exists.intro)
                             refine ⟨⟨m2 + 1, by omega, ?_, Lib.hid (hUn.out _)⟩, rfl⟩
                             go_num)
                    · have e1b : (xt == 0) = false := by simpa using e1
                      clear e1 hlaw n1 n2
                      go_wp2_with fail
                      go_roundw
                      case measure => simp [intOf]; omega
                      case rel =>
                        first
                        | exact ⟨m2 + 1, by omega, by go_num, Lib.hid (hUn.out _)⟩
                        | ((repeat apply Exists.intro)
                           refine ⟨⟨m2 + 1, by omega, ?_, Lib.hid (hUn.out _)⟩, rfl⟩
                           go_num)
                  · obtain rfl : m2 = LL.length := by omega
                    have hUe := Lib.hid (HUo.out.trans hU2.out)
                    go_wp2_with fail
                    go_roundw
                    case measure => simp [intOf]; omega
                    case rel =>
                      first
                      | exact ⟨m + 1, by omega, by go_num, hUe⟩
                      | ((repeat apply Exists.intro)
                         refine ⟨⟨m + 1, by omega, ?_, hUe⟩, rfl⟩
                         go_num)
              · obtain rfl : m = LL.length := by omega
                have HTf2 := Lib.hid (HTe.out _ hU1.out)
                go_wp2_with fail
                go_roundw
                case measure => simp [intOf]; omega
                case rel =>
                  first
                  | exact ⟨k + 1, by omega, by omega, by go_num, l2, a, a, by omega, by omega, by omega, HGc, HTf2⟩
                  | ((repeat apply Exists.intro)
                     refine ⟨⟨k + 1, by omega, by omega, ?_, l2, a, a, by omega, by omega, by omega, HGc, HTf2⟩, rfl⟩
                     go_num)
          · have hE2b : (E2 == 0) = false := by simpa using hE2
            have he := hff hE2
            rw [Prod.mk.injEq] at he
            obtain ⟨he1, he2⟩ := he
            subst he1
            subst he2
            have HTc := HT7
            have HGc := hG
            clear hE2 hff hfo hfg
            obtain ⟨St, Sr, vt, vr, hTwo⟩ := HTc.out
            obtain ⟨Aq, cq, _, hvr, _, dq, _⟩ := hTwo.oq.read
            subst hvr
            have dq' : cq ≤ 9223372036854775807 := dq
            have hqc := (row_cells hTwo.hq).1
            have HXr := Lib.hid hTwo.oq.read
            have HLAW := Lib.hid (fun x y (hx : x ∈ rowsL l2) (hy : y ∈ rowsL l2) => alone_rows HGc.out hx hy)
            have HTe := Lib.hid (fun x (hx : Upd NoB w7 x) => (HTc.out.keep hx).sub (ys := []) (fun b hb => absurd hb List.not_mem_nil))
            obtain ⟨LL, hLL2⟩ : ∃ LL, LL = rowsL l2 := ⟨_, rfl⟩
            have hLLn : LL.length ≤ 5000 := by rw [hLL2]; omega
            rw [← hLL2] at HXr HLAW hqc
            have hLLe := Lib.hid hLL2
            have HUW := Lib.hid (Upd.refl NoB w7)
            obtain ⟨wc, hwc⟩ : ∃ wc, wc = w7 := ⟨_, rfl⟩
            rw [← hwc] at HXr HTe hqc HUW
            clear hTwo hLL2
            subst hwc
            go_wp2_with fail
            go_loopw [12, 14, 120] (fun x12 x14 i wr => ∃ m : Nat, m ≤ LL.length ∧ i = .int .i64 m ∧ Hid (Upd NoB wc wr)) (fun _ _ i _ => LL.length - (intOf i).toNat)
            case atStart => exact ⟨0, by omega, rfl, HUW⟩
            case round =>
              obtain ⟨m, hm, rfl, hU1⟩ := hrel
              by_cases hmlt : m < LL.length
              · obtain ⟨gx, ox, rx, rfl, hrepx, hcx, _⟩ := HXr.out.cellN m hmlt
                obtain ⟨rfl, _⟩ := hrepx
                have q0 : wr.cell? ⟨gx, ox + m * 6, none⟩ = some (.int .i64 LL[m].cl) := hU1.out.cell (hcx 0 _ rfl) (fun h => h)
                have q1 : wr.cell? ⟨gx, ox + m * 6 + 1, none⟩ = some (.int .u64 LL[m].sq) := hU1.out.cell (hcx 1 _ rfl) (fun h => h)
                have q2 : wr.cell? ⟨gx, ox + m * 6 + 2, none⟩ = some (.string LL[m].key) := hU1.out.cell (hcx 2 _ rfl) (fun h => h)
                have q3 : wr.cell? ⟨gx, ox + m * 6 + 3, none⟩ = some (.bool LL[m].wr) := hU1.out.cell (hcx 3 _ rfl) (fun h => h)
                have q4 : wr.cell? ⟨gx, ox + m * 6 + 4, none⟩ = some (.int .i64 LL[m].at_) := hU1.out.cell (hcx 4 _ rfl) (fun h => h)
                have q5 : wr.cell? ⟨gx, ox + m * 6 + 5, none⟩ = some (.int .i64 LL[m].till) := hU1.out.cell (hcx 5 _ rfl) (fun h => h)
                have hxm := Lib.hid (show LL[m] ∈ LL from List.getElem_mem hmlt)
                generalize LL[m] = x at *
                obtain ⟨xc, xq, xk, xw, xa, xt⟩ := x
                simp only at q0 q1 q2 q3 q4 q5
                clear hcx
                obtain ⟨wo, hwo⟩ : ∃ wo, wr.alloc (.cells #[.int .i64 xc, .int .u64 xq, .string xk, .bool xw, .int .i64 xa, .int .i64 xt] 39) = wo := ⟨_, rfl⟩
                have huo : Upd NoB wr wo := by rw [← hwo]; exact (Upd.refl _ _).alloc _
                obtain ⟨bx, hbx0⟩ : ∃ bx, wr.heap.size = bx := ⟨_, rfl⟩
                have hBx := Lib.hid (show wo.heap[bx]? = some (.cells #[.int .i64 xc, .int .u64 xq, .string xk, .bool xw, .int .i64 xa, .int .i64 xt] 39 (0, 0)) by rw [← hwo, ← hbx0]; exact heap_alloc_new _ _)
                have HUo := Lib.hid (hU1.out.trans huo)
                have hqo := HUo.out.cell hqc (fun h => h)
                have HUoo := Lib.hid (Upd.refl NoB wo)
                clear huo
                go_wp2_with fail
                go_loopw [14, 129] (fun x14 i wr => ∃ m2 : Nat, m2 ≤ LL.length ∧ i = .int .i64 m2 ∧ Hid (Upd NoB wo wr)) (fun _ i _ => LL.length - (intOf i).toNat)
                case atStart => exact ⟨0, by omega, rfl, HUoo⟩
                case round =>
                  obtain ⟨m2, hm2, rfl, hU2⟩ := hrel
                  by_cases hm2lt : m2 < LL.length
                  · obtain ⟨gy, oy, ry, hAy, hrepy, hcy, _⟩ := HXr.out.cellN m2 hm2lt
                    obtain ⟨rfl, _⟩ := hrepy
                    cases hAy
                    have y0 : wr.cell? ⟨gx, ox + m2 * 6, none⟩ = some (.int .i64 LL[m2].cl) := (HUo.out.trans hU2.out).cell (hcy 0 _ rfl) (fun h => h)
                    have y1 : wr.cell? ⟨gx, ox + m2 * 6 + 1, none⟩ = some (.int .u64 LL[m2].sq) := (HUo.out.trans hU2.out).cell (hcy 1 _ rfl) (fun h => h)
                    have y2 : wr.cell? ⟨gx, ox + m2 * 6 + 2, none⟩ = some (.string LL[m2].key) := (HUo.out.trans hU2.out).cell (hcy 2 _ rfl) (fun h => h)
                    have y3 : wr.cell? ⟨gx, ox + m2 * 6 + 3, none⟩ = some (.bool LL[m2].wr) := (HUo.out.trans hU2.out).cell (hcy 3 _ rfl) (fun h => h)
                    have y4 : wr.cell? ⟨gx, ox + m2 * 6 + 4, none⟩ = some (.int .i64 LL[m2].at_) := (HUo.out.trans hU2.out).cell (hcy 4 _ rfl) (fun h => h)
                    have y5 : wr.cell? ⟨gx, ox + m2 * 6 + 5, none⟩ = some (.int .i64 LL[m2].till) := (HUo.out.trans hU2.out).cell (hcy 5 _ rfl) (fun h => h)
                    have hlaw := Lib.hid (HLAW.out _ LL[m2] hxm.out (List.getElem_mem hm2lt))
                    generalize LL[m2] = yy at *
                    obtain ⟨yc, yq, yk, yw, ya, yt⟩ := yy
                    simp only at y0 y1 y2 y3 y4 y5 hlaw
                    obtain ⟨z0, z1, z2, z3, z4, z5⟩ := six_cells (hU2.out.heap hBx.out (fun h => h))
                    have hbz2 : bx < wr.heap.size := Nat.lt_of_lt_of_le (lt_of_heap hBx.out) hU2.out.size
                    have hUn := Lib.hid (fun o => hU2.out.alloc o)
                    clear hcy
                    obtain ⟨n1, n2⟩ := str_nil xk
                    by_cases e1 : xt = 0
                    · have e1b : (xt == 0) = true := by simpa using e1
                      by_cases e2 : yt = 0
                      · have e2b : (yt == 0) = true := by simpa using e2
                        by_cases e3 : xk = yk
                        · have e3b : (xk.toList == yk.toList) = true := by rw [e3]; simp
                          by_cases e4 : xk.size = 0
                          · rw [decide_eq_true e4] at n1 n2
                            clear e1 e2 e3 e4 hlaw
                            go_wp2_with fail
                            go_roundw
                            case measure => simp [intOf]; omega
                            case rel =>
                              first
                              | exact ⟨m2 + 1, by omega, by go_num, Lib.hid (hUn.out _)⟩
                              | ((repeat apply Exists.intro)
                                 refine ⟨⟨m2 + 1, by omega, ?_, Lib.hid (hUn.out _)⟩, rfl⟩
                                 go_num)
                          · rw [decide_eq_false e4] at n1 n2
                            cases xw
                            · clear e1 e2 e3 e4 hlaw
                              go_wp2_with fail
                              go_roundw
                              case measure => simp [intOf]; omega
                              case rel =>
                                first
                                | exact ⟨m2 + 1, by omega, by go_num, Lib.hid (hUn.out _)⟩
                                | ((repeat apply Exists.intro)
                                   refine ⟨⟨m2 + 1, by omega, ?_, Lib.hid (hUn.out _)⟩, rfl⟩
                                   go_num)
                            · obtain ⟨hi1, hi2⟩ := hlaw.out e1 e2 e3 e4 rfl
                              subst hi1
                              subst hi2
                              clear e1 e2 e3 e4 hlaw
                              go_wp2_with fail
                              go_roundw
                              case measure => simp [intOf]; omega
                              case rel =>
                                first
                                | exact ⟨m2 + 1, by omega, by go_num, Lib.hid (hUn.out _)⟩
                                | ((repeat apply Exists.intro)
                                   refine ⟨⟨m2 + 1, by omega, ?_, Lib.hid (hUn.out _)⟩, rfl⟩
                                   go_num)
                        · have e3b := str_ne xk yk e3
                          clear e1 e2 e3 hlaw n1 n2
                          go_wp2_with fail
                          go_roundw
                          case measure => simp [intOf]; omega
                          case rel =>
                            first
                            | exact ⟨m2 + 1, by omega, by go_num, Lib.hid (hUn.out _)⟩
                            | ((repeat apply Exists.intro)
                               refine ⟨⟨m2 + 1, by omega, ?_, Lib.hid (hUn.out _)⟩, rfl⟩
                               go_num)
                      · have e2b : (yt == 0) = false := by simpa using e2
                        clear e1 e2 hlaw n1 n2
                        go_wp2_with fail
                        go_roundw
                        case measure => simp [intOf]; omega
                        case rel =>
                          first
                          | exact ⟨m2 + 1, by omega, by go_num, Lib.hid (hUn.out _)⟩
                          | ((repeat apply Exists.intro)
                             refine ⟨⟨m2 + 1, by omega, ?_, Lib.hid (hUn.out _)⟩, rfl⟩
                             go_num)
                    · have e1b : (xt == 0) = false := by simpa using e1
                      clear e1 hlaw n1 n2
                      go_wp2_with fail
                      go_roundw
                      case measure => simp [intOf]; omega
                      case rel =>
                        first
                        | exact ⟨m2 + 1, by omega, by go_num, Lib.hid (hUn.out _)⟩
                        | ((repeat apply Exists.intro)
                           refine ⟨⟨m2 + 1, by omega, ?_, Lib.hid (hUn.out _)⟩, rfl⟩
                           go_num)
                  · obtain rfl : m2 = LL.length := by omega
                    have hUe := Lib.hid (HUo.out.trans hU2.out)
                    go_wp2_with fail
                    go_roundw
                    case measure => simp [intOf]; omega
                    case rel =>
                      first
                      | exact ⟨m + 1, by omega, by go_num, hUe⟩
                      | ((repeat apply Exists.intro)
                         refine ⟨⟨m + 1, by omega, ?_, hUe⟩, rfl⟩
                         go_num)
              · obtain rfl : m = LL.length := by omega
                have HTf2 := Lib.hid (HTe.out _ hU1.out)
                go_wp2_with fail
                go_roundw
                case measure => simp [intOf]; omega
                case rel =>
                  first
                  | exact ⟨k + 1, by omega, by omega, by go_num, l2, last2, lr, by omega, by omega, by omega, HGc, HTf2⟩
                  | ((repeat apply Exists.intro)
                     refine ⟨⟨k + 1, by omega, by omega, ?_, l2, last2, lr, by omega, by omega, by omega, HGc, HTf2⟩, rfl⟩
                     go_num)
    · obtain rfl : k = ops.length := by omega
      go_wp2_with fail
      refine (lockAwake_any _).mono ?_
      rintro e w99 ⟨rfl, hu⟩
      have HU99 := Lib.hid (hU.out.trans hu)
      clear hu
      go_wp2_with fail
      go_ret
      exact ⟨rfl, HU99.out⟩
end Go.Proofs.Ytobfolkcpfaplaa
