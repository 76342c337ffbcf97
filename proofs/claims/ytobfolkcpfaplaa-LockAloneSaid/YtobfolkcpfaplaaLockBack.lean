/- What is taken, and freed, can be taken again as ahead, by anybody (LockBack): the law's walk. -/
import Derived.Test.YtobfolkcpfaplaaLockS
namespace Go.Proofs.Ytobfolkcpfaplaa
open Go.RowKit Kit
set_option linter.unusedVariables false

theorem busy_snoc (l : List Span) (s : Span) (ht : s.till ≠ 0) (b : Bool) : (fun k => busyB (l ++ [s]) k b) = fun k => busyB l k b := by
  funext k
  unfold busyB
  rw [List.any_append]
  simp [Span.busy, ht]
/-- What is taken, and freed, can be taken again. -/
theorem back_law {l : List Span} {last : Int} (h : Good l last) {c q c2 q2 : Int} {rd wr : List ByteArray} (hn : holdsB l c2 q2 = false) (hk : (takeL l last c q (last + 1) rd wr).1 = 0) :
    (freeL (takeL l last c q (last + 1) rd wr).2.1 (takeL l last c q (last + 1) rd wr).2.2 c q (last + 2)).1 = 0 ∧
    (takeL (freeL (takeL l last c q (last + 1) rd wr).2.1 (takeL l last c q (last + 1) rd wr).2.2 c q (last + 2)).2.1 (freeL (takeL l last c q (last + 1) rd wr).2.1 (takeL l last c q (last + 1) rd wr).2.2 c q (last + 2)).2.2 c2 q2 (last + 3) rd wr).1 = 0 := by
  have hl := h.last
  have e : rd.all keyB = true ∧ wr.all keyB = true ∧ holdsB l c q = false ∧ (rd.any fun k => busyB l k false) = false ∧ (wr.any fun k => busyB l k true) = false ∧ takeL l last c q (last + 1) rd wr = (0, l ++ [⟨c, q, rd, wr, last + 1, 0⟩], last + 1) := by
    unfold takeL at hk ⊢
    split at hk
    · cases hk
    split at hk
    · cases hk
    split at hk
    · cases hk
    split at hk
    · cases hk
    split at hk
    · cases hk
    split at hk
    · cases hk
    rename_i h1 h2 h3 h4 h5 h6
    exact ⟨by simpa using h2, by simpa using h3, by simpa using h4, Bool.eq_false_iff.2 h5, Bool.eq_false_iff.2 h6, by rw [if_neg h1, if_neg h2, if_neg h3, if_neg h4, if_neg h5, if_neg h6]⟩
  obtain ⟨e1, e2, e3, e4, e5, e6⟩ := e
  rw [e6]
  simp only
  have hf : (l ++ [(⟨c, q, rd, wr, last + 1, 0⟩ : Span)]).findIdx? (fun s => s.held c q) = some l.length := by
    rw [List.findIdx?_append]
    have : l.findIdx? (fun s => s.held c q) = none := by
      rw [List.findIdx?_eq_none_iff]
      intro s hs
      have := List.any_eq_false.1 e3 s hs
      simpa using this
    rw [this]
    simp [List.findIdx?_cons, Span.held]
  have hfr : freeL (l ++ [(⟨c, q, rd, wr, last + 1, 0⟩ : Span)]) (last + 1) c q (last + 2) = (0, l ++ [⟨c, q, rd, wr, last + 1, last + 2⟩], last + 2) := by
    unfold freeL
    rw [if_neg (by omega), hf]
    simp only
    refine Prod.ext rfl (Prod.ext ?_ rfl)
    refine List.ext_getElem? fun i => ?_
    simp only
    rw [List.getElem?_modify, List.getElem?_append, List.getElem?_append]
    by_cases e : l.length = i
    · subst e
      simp
    · by_cases hi : i < l.length
      · simp [hi, e]
      · have : 1 ≤ i - l.length := by omega
        rw [if_neg hi, if_neg hi, List.getElem?_eq_none (by simpa using this), List.getElem?_eq_none (by simpa using this)]
        rfl
  rw [hfr]
  refine ⟨rfl, ?_⟩
  simp only
  unfold takeL
  have hb : holdsB (l ++ [(⟨c, q, rd, wr, last + 1, last + 2⟩ : Span)]) c2 q2 = false := by
    unfold holdsB at hn ⊢
    rw [List.any_append, hn]
    have : ¬ (last + 2 = 0) := by omega
    simp [Span.held, this]
  rw [if_neg (by omega), if_neg (by rw [e1]; simp), if_neg (by rw [e2]; simp), if_neg (by rw [hb]; simp), busy_snoc _ _ (by show last + 2 ≠ 0; omega), busy_snoc _ _ (by show last + 2 ≠ 0; omega), if_neg (by rw [e4]; simp), if_neg (by rw [e5]; simp)]
theorem Tw.rlast {w0 w : World} {xs : List Nat} {p q : Nat} {l : List Span} {last lr : Int} {L : List Rwl} (h : Tw w0 w xs p q l last L lr) : w.cell? ⟨q, 1, none⟩ = some (.int .i64 lr) := by
  obtain ⟨St, Sr, v, vr, h⟩ := h
  exact (two_cells h.hq).2
def fresh (w w' : World) : List Nat := (List.range w'.heap.size).filter fun b => decide (w.heap.size ≤ b)
theorem mem_fresh {w w' : World} {b : Nat} : b ∈ fresh w w' ↔ b < w'.heap.size ∧ w.heap.size ≤ b := by
  unfold fresh
  simp
theorem Tw.fresh {w0 w w' : World} {xs : List Nat} {p q : Nat} {l : List Span} {last lr : Int} {L : List Rwl} (h : Tw w0 w xs p q l last L lr) (u : Upd NoB w w') : Tw w0 w' (fresh w w' ++ xs) p q l last L lr := by
  have h' := h.keep u
  obtain ⟨St, Sr, v, vr, h⟩ := h
  refine ⟨St, Sr, v, vr, u.heap h.hp (fun h => h), u.heap h.hq (fun h => h), h.op.upd u (fun _ _ h => h), h.oq.upd u (fun _ _ h => h), h.sep, h.tp, h.tq, h.rp, h.rq, h.ne,
    fun b hb => ⟨(h.st b hb).1, Nat.lt_of_lt_of_le (h.st b hb).2 u.size⟩, fun b hb => ⟨(h.sr b hb).1, Nat.lt_of_lt_of_le (h.sr b hb).2 u.size⟩, h.bp, h.bq, h.u.trans u, fun b hb => ?_⟩
  rcases List.mem_append.1 hb with hb | hb
  · obtain ⟨b1, b2⟩ := mem_fresh.1 hb
    exact ⟨b1, fun hs => by have := (h.st _ hs).2; omega, fun hs => by have := (h.sr _ hs).2; omega, fun e => by have := lt_of_heap h.hp; omega, fun e => by have := lt_of_heap h.hq; omega⟩
  · exact ⟨Nat.lt_of_lt_of_le (h.bx b hb).1 u.size, (h.bx b hb).2⟩
set_option maxHeartbeats 16000000 in
set_option maxRecDepth 100000 in
theorem lockBack_walk (v : Value) (ops : List Lop) (ys : Lop) (As Bs : Option Addr) (cs ds : Nat) (ic iq : Int) (w : World) (h : RSl Rep.lop w (Old w) v ops) (h3 : RSlW Rep.str w (Old w) (.slice As ys.rd.length cs) ys.rd) (h4 : RSlW Rep.str w (Old w) (.slice Bs ys.wr.length ds) ys.wr) :
    Calls Try.prog 4 #[v, .agg #[.int .i64 ys.kd, .int .i64 ys.cl, .int .u64 ys.sq, .int .i64 ys.a, .slice As ys.rd.length cs, .slice Bs ys.wr.length ds], .agg #[.int .i64 ic, .int .u64 iq]] w fun e w' => e = .returned (.bool true) ∧ Upd NoB w w' := by
  have HX := Lib.hid h
  obtain ⟨A, c, _, rfl, d1, d2, _⟩ := h
  have d2' : c ≤ 9223372036854775807 := d2
  obtain ⟨sk, sc, sq0, sa, srl, swl⟩ := ys
  simp only at h3 h4
  obtain ⟨wb, hwb⟩ : ∃ wb, (w.alloc (.cells #[.int .i64 sk, .int .i64 sc, .int .u64 sq0, .int .i64 sa, .slice As srl.length cs, .slice Bs swl.length ds] 34)).alloc (.cells #[.int .i64 ic, .int .u64 iq] 31) = wb := ⟨_, rfl⟩
  have hub : Upd NoB w wb := by rw [← hwb]; exact ((Upd.refl _ _).alloc _).alloc _
  have hBo : wb.heap[w.heap.size]? = some (.cells #[.int .i64 sk, .int .i64 sc, .int .u64 sq0, .int .i64 sa, .slice As srl.length cs, .slice Bs swl.length ds] 34 (0, 0)) := by
    rw [← hwb, Below.heap_alloc _ _ _ (by simp)]
    exact heap_alloc_new _ _
  have hBi : wb.heap[w.heap.size + 1]? = some (.cells #[.int .i64 ic, .int .u64 iq] 31 (0, 0)) := by
    have := heap_alloc_new (w.alloc (.cells #[.int .i64 sk, .int .i64 sc, .int .u64 sq0, .int .i64 sa, .slice As srl.length cs, .slice Bs swl.length ds] 34)) (.cells #[.int .i64 ic, .int .u64 iq] 31 (0, 0))
    rw [show (w.alloc (.cells #[.int .i64 sk, .int .i64 sc, .int .u64 sq0, .int .i64 sa, .slice As srl.length cs, .slice Bs swl.length ds] 34)).heap.size = w.heap.size + 1 by simp, hwb] at this
    exact this
  have hbo := Lib.hid (fun x (hx : Upd NoB wb x) => six_cells (hx.heap hBo (fun h => h)))
  have hbi := Lib.hid (fun x (hx : Upd NoB wb x) => two_cells (hx.heap hBi (fun h => h)))
  have hw1 : w.heap.size + 1 < wb.heap.size := lt_of_heap hBi
  have hboF := Lib.hid (fun (ys : List Nat) x (hx : Upd (fun b => wb.heap.size ≤ b ∧ b ∉ ys) wb x) => six_cells (hx.heap hBo (fun hf => by have := hf.1; omega)))
  have hbiF := Lib.hid (fun (ys : List Nat) x (hx : Upd (fun b => wb.heap.size ≤ b ∧ b ∉ ys) wb x) => two_cells (hx.heap hBi (fun hf => by have := hf.1; omega)))
  have HUb := Lib.hid hub
  have H3 := Lib.hid (h3.upd hub (fun _ _ h => h))
  have H4 := Lib.hid (h4.upd hub (fun _ _ h => h))
  have hwz : w.heap.size ≤ wb.heap.size := hub.size
  clear hub hBo hBi h3 h4
  go_enter Try.func4, Try.ntmps4
  go_wp2_with fail
  refine (newlock_any _).mono ?_
  rintro e w1 ⟨p, rfl, hp, hu, hk⟩
  have HT0 := Lib.hid (tw_new hp (hk wb [p]) hu)
  clear hu hk
  go_wp2_with fail
  generalize hq : w1.heap.size = q at *
  generalize w1.alloc (.cells #[.slice none 0 0, .int .i64 0] 28) = w2 at *
  clear hq
  go_loopw [9, 10, 21] (fun x9 x10 i wr => ∃ k : Nat, k ≤ ops.length ∧ i = .int .i64 k ∧ ∃ (l : List Span) (last : Int), l.length ≤ k ∧ l.length ≤ 15 ∧ (rowsL l).length ≤ 13 * k ∧ (rowsL l).length ≤ 195 ∧ Hid (Good l last) ∧ Hid (Tw wb wr [] p q l last (rowsL l) last)) (fun _ _ i _ => ops.length - (intOf i).toNat)
  case atStart => exact ⟨0, by omega, rfl, [], 0, by simp, by simp, by simp [rowsL_nil], by simp [rowsL_nil], Lib.hid good_nil, HT0⟩
  case round =>
    obtain ⟨k, hk, rfl, l, last, hll, hl15, hLL, hL195, hG, hT⟩ := hrel
    have hV := Lib.hid hT.out.upd
    have hU := Lib.hid (HUb.out.trans hT.out.upd)
    by_cases hlt : k < ops.length
    · obtain ⟨g, o, rcs, rfl, hrep, hcell, hg⟩ := HX.out.cellN k hlt
      obtain ⟨va, vb, rfl, hra, hrb⟩ := hrep
      have c0 : wr.cell? ⟨g, o + k * 6, none⟩ = some (.int .i64 ops[k].kd) := hU.out.cell (hcell 0 _ rfl) (fun h => h)
      have c1 : wr.cell? ⟨g, o + k * 6 + 1, none⟩ = some (.int .i64 ops[k].cl) := hU.out.cell (hcell 1 _ rfl) (fun h => h)
      have c2 : wr.cell? ⟨g, o + k * 6 + 2, none⟩ = some (.int .u64 ops[k].sq) := hU.out.cell (hcell 2 _ rfl) (fun h => h)
      have c3 : wr.cell? ⟨g, o + k * 6 + 3, none⟩ = some (.int .i64 ops[k].a) := hU.out.cell (hcell 3 _ rfl) (fun h => h)
      have c4 : wr.cell? ⟨g, o + k * 6 + 4, none⟩ = some va := hU.out.cell (hcell 4 _ rfl) (fun h => h)
      have c5 : wr.cell? ⟨g, o + k * 6 + 5, none⟩ = some vb := hU.out.cell (hcell 5 _ rfl) (fun h => h)
      have HRA := Lib.hid (hra.upd hU.out (fun _ _ h => h))
      have HRB := Lib.hid (hrb.upd hU.out (fun _ _ h => h))
      obtain ⟨Aa, ca, rfl, _⟩ := hra.shape
      obtain ⟨Ab, cb, rfl, _⟩ := hrb.shape
      generalize ops[k] = y at *
      obtain ⟨kd, cl, sq, a, rl, wl⟩ := y
      simp only at c0 c1 c2 c3 c4 c5 HRA HRB
      clear hcell hra hrb
      have hTa := Lib.hid (fun o => hT.out.keep ((Upd.refl NoB wr).alloc o))
      by_cases h15 : k < 15
      · have hI15 : (k : Int) < 15 := by omega
        have hd15 : decide ((k : Int) < 15) = true := decide_eq_true hI15
        obtain ⟨hs1, hs2⟩ := stepL_len hG.out kd cl sq a rl wl
        have hst := fun (o : Obj) => step_any wb [] p q l last kd cl sq a Aa Ab ca cb rl wl (wr.alloc o) (hTa.out o) hG.out (by omega) (by omega) (S := Old w) (fun b hb => Nat.lt_of_lt_of_le hb hwz) (HRA.out.upd ((Upd.refl NoB wr).alloc o) (fun _ _ h => h)) (HRB.out.upd ((Upd.refl NoB wr).alloc o) (fun _ _ h => h))
        have hG2 := stepL_good hG.out kd cl sq a rl wl
        generalize stepL kd cl sq a rl wl l last = R at *
        obtain ⟨l2, last2⟩ := R
        simp only at hst hs1 hs2 hG2
        have HST := Lib.hid hst
        have HG2 := Lib.hid hG2
        clear hst hG2 h15
        go_wp2_with fail
        refine (HST.out _).mono ?_
        rintro e w3 ⟨rfl, hT3, hu⟩
        have HT3 := Lib.hid hT3
        clear hT3 hu
        go_wp2_with fail
        go_roundw
        case measure => simp [intOf]; omega
        case rel => exact ⟨k + 1, by omega, by go_num, l2, last2, by omega, by omega, by omega, by omega, HG2, HT3⟩
      · have hI15 : ¬ (k : Int) < 15 := by omega
        have hd15 : decide ((k : Int) < 15) = false := decide_eq_false hI15
        clear h15
        go_wp2_with fail
        go_roundw
        case measure => simp [intOf]; omega
        case rel => exact ⟨k + 1, by omega, by go_num, l, last, by omega, by omega, by omega, by omega, hG, Lib.hid (hTa.out _)⟩
    · obtain rfl : k = ops.length := by omega
      have hlast := hT.out.rlast
      have hl0 := hG.out.last
      by_cases hbig : 1000000 < last
      · have hbd : decide ((1000000 : Int) < last) = true := decide_eq_true hbig
        clear hbig
        go_wp2_with fail
        refine (lockAwake_any _).mono ?_
        rintro e w99 ⟨rfl, hu⟩
        have HU99 := Lib.hid (hU.out.trans hu)
        clear hu
        go_wp2_with fail
        go_ret
        exact ⟨rfl, HU99.out⟩
      · have hbd : decide ((1000000 : Int) < last) = false := decide_eq_false hbig
        obtain ⟨i0, i1⟩ := hbi.out wr hV.out
        have hrh := show Calls Try.prog 18 #[.pointer (some ⟨q, 0, none⟩), .agg #[.int .i64 ic, .int .u64 iq]] wr fun e w' => e = .returned (.bool (holdsB l ic iq)) ∧ Upd NoB wr w' from by
          obtain ⟨zs, h⟩ := hT.out.rt
          rw [← held_rows]
          exact rholds_any wb zs q (rowsL l) last ic iq wr h
        cases hH : holdsB l ic iq
        case true =>
          rw [hH] at hrh
          have HRH := Lib.hid hrh
          clear hrh hH
          go_wp2_with fail
          refine HRH.out.mono ?_
          rintro e w3 ⟨rfl, hu⟩
          have HU3 := Lib.hid (hU.out.trans hu)
          clear hu
          go_wp2_with fail
          refine (lockAwake_any _).mono ?_
          rintro e w99 ⟨rfl, hu⟩
          have HU99 := Lib.hid (HU3.out.trans hu)
          clear hu
          go_wp2_with fail
          go_ret
          exact ⟨rfl, HU99.out⟩
        case false =>
          rw [hH] at hrh
          have HRH := Lib.hid hrh
          have HH := Lib.hid hH
          clear hrh hH
          go_wp2_with fail
          refine HRH.out.mono ?_
          rintro e w3 ⟨rfl, hu⟩
          have HT3 := Lib.hid (hT.out.keep hu)
          have HV3 := Lib.hid (hV.out.trans hu)
          clear hu
          go_wp2_with fail
          have HVd := Lib.hid (HV3.out.trans (Upd.refl NoB w3).drew)
          have HTd := Lib.hid (HT3.out.keep (Upd.refl NoB w3).drew)
          refine sched_begin NoB (by kernel_rfl) ?_
          refine sched_take 0 rfl (by kernel_rfl) (by kernel_rfl) (by kernel_rfl) (fun _ _ _ h => h) rfl (fun x hx => by go_simp; rfl) ?_
          go_simp
          refine sched_take 1 rfl (by kernel_rfl) (by kernel_rfl) (by kernel_rfl) (fun _ _ _ h => h) rfl (fun x hx => by obtain ⟨x0, x1, x2, x3, x4, x5⟩ := hbo.out _ (HVd.out.trans hx); go_simp; rfl) ?_
          go_simp
          refine sched_take 3 rfl (by kernel_rfl) (by kernel_rfl) (by kernel_rfl) (fun _ _ _ h => h) rfl (fun x hx => by go_simp; rfl) ?_
          go_simp
          refine sched_take 4 rfl (by kernel_rfl) (by kernel_rfl) (by kernel_rfl) (fun _ _ _ h => h) rfl (fun x hx => by obtain ⟨x0, x1, x2, x3, x4, x5⟩ := hbo.out _ (HVd.out.trans hx); go_simp; rfl) ?_
          go_simp
          refine sched_alone 2 (by kernel_rfl) rfl rfl ?_
          go_simp
          refine (few_any (.slice As srl.length cs) srl _ (H3.out.upd HVd.out (fun _ _ h => h))).mono ?_
          rintro e w4 ⟨v4, rfl, hM⟩
          refine ⟨hM.2, ?_⟩
          have HM4 := Lib.hid hM
          have hz4 : w3.drew.heap.size ≤ w4.heap.size := hM.2.size
          have HU34 := Lib.hid hM.2
          have HV4 := Lib.hid (HVd.out.trans hM.2)
          have HT4 := Lib.hid (HTd.out.keep hM.2)
          obtain ⟨A4, c4, _, rfl, _⟩ := hM.1.read
          clear hM
          go_simp
          refine sched_alone 5 (by kernel_rfl) rfl rfl ?_
          go_simp
          refine (few_any (.slice Bs swl.length ds) swl _ (H4.out.upd HV4.out (fun _ _ h => h))).mono ?_
          rintro e w5 ⟨v5, rfl, hM⟩
          refine ⟨hM.2, ?_⟩
          have HM5 := Lib.hid hM
          have HU35 := Lib.hid (HU34.out.trans hM.2)
          have HM4 := Lib.hid (HM4.out.upd hM.2)
          have HV5 := Lib.hid (HV4.out.trans hM.2)
          have HT5 := Lib.hid (HT4.out.keep hM.2)
          obtain ⟨A5, c5, _, rfl, _⟩ := hM.1.read
          clear hM
          go_simp
          refine sched_take 6 rfl (by kernel_rfl) (by kernel_rfl) (by kernel_rfl) (fun _ _ _ h => h) rfl (fun x hx => by go_simp; rfl) ?_
          go_simp
          refine sched_take 7 rfl (by kernel_rfl) (by kernel_rfl) (by kernel_rfl) (fun _ _ _ h => h) rfl (fun x hx => by go_simp; rfl) ?_
          go_simp
          refine sched_done (by kernel_rfl) ?_
          obtain ⟨x0, x1, x2, x3, x4, x5⟩ := hbo.out _ HV5.out
          have htk := take_rows hG.out.keys last sc sq0 (last + 1) (fewL srl) (fewL swl)
          have hbk := fun hh => back_law hG.out (c := sc) (q := sq0) (rd := fewL srl) (wr := fewL swl) HH.out hh
          have htg := take_good hG.out sc sq0 (last + 1) (fewL srl) (fewL swl)
          have htl := take_len l last sc sq0 (last + 1) (fewL srl) (fewL swl) (fewL_len _) (fewL_len _)
          have hTy := HTd.out.fresh HU35.out
          have h2t := two_take sc sq0 (last + 1) _ _ _ _ hTy HM4.out.1.read HM5.out.1.read (by omega) (by have := fewL_len srl; omega) (by have := fewL_len swl; omega)
          have hfr : ∀ b, w3.drew.heap.size ≤ b → b < w5.heap.size → b ∈ fresh w3.drew w5 ++ [] := fun b h1 h2 => List.mem_append.2 (.inl (mem_fresh.2 ⟨h2, h1⟩))
          have HR4 := Lib.hid (fun x (hx : Upd (fun b => wb.heap.size ≤ b ∧ b ∉ fresh w3.drew w5 ++ []) w5 x) => HM4.out.1.read.upd hx (fun b hb hf => hf.2 (hfr b (hb.1.resolve_left (fun h => h)) hb.2)))
          have HR5 := Lib.hid (fun x (hx : Upd (fun b => wb.heap.size ≤ b ∧ b ∉ fresh w3.drew w5 ++ []) w5 x) => HM5.out.1.read.upd hx (fun b hb hf => hf.2 (hfr b (by have := hb.1.resolve_left (fun h => h); omega) hb.2)))
          have HVF := Lib.hid (HV5.out.mono (G := fun b => wb.heap.size ≤ b ∧ b ∉ fresh w3.drew w5 ++ []) (fun _ _ h => h.elim))
          have w1e : IntKind.i64.wrap (last + 1) = last + 1 := by simp only [IntKind.wrap, IntKind.bits, IntKind.signed]; simp; omega
          have w2e : IntKind.i64.wrap (last + 2) = last + 2 := by simp only [IntKind.wrap, IntKind.bits, IntKind.signed]; simp; omega
          have w3e : IntKind.i64.wrap (last + 3) = last + 3 := by simp only [IntKind.wrap, IntKind.bits, IntKind.signed]; simp; omega
          have hlr : (rowsL l).length ≤ 10000 := by omega
          generalize hRR : takeL l last sc sq0 (last + 1) (fewL srl) (fewL swl) = R at *
          clear hRR
          obtain ⟨E1, l1, last1⟩ := R
          simp only at htk hbk htg htl h2t
          generalize fresh w3.drew w5 ++ [] = ys at *
          have HTK := Lib.hid htk
          have H2T := Lib.hid h2t
          clear h2t hTy hfr htk
          go_wp2_with fail
          refine H2T.out.mono ?_
          rintro e w6 ⟨rfl, hT6, hu⟩
          have HT6 := Lib.hid hT6
          have HU56 := Lib.hid hu
          have HV6 := Lib.hid (HVF.out.trans hu)
          have HU6 := Lib.hid ((HUb.out.trans HV5.out).then hu (fun i hi e => by have := e.1; omega))
          obtain ⟨y0, y1, y2, y3, y4, y5⟩ := hboF.out _ _ HV6.out
          clear hT6 hu
          by_cases hE : E1 = 0
          · subst hE
            obtain ⟨hb1, hb2⟩ := hbk rfl
            have hfl := free_len htg sc sq0 (last + 2)
            have h2f := two_free sc sq0 (last + 2) HT6.out (by omega)
            generalize hFF : freeL l1 last1 sc sq0 (last + 2) = FF at *
            clear hFF
            obtain ⟨E2, l2, last2⟩ := FF
            simp only at hb1 hb2 hfl h2f
            subst hb1
            have H2F := Lib.hid h2f
            have HB2 := Lib.hid hb2
            clear h2f hb2 hbk htg
            go_wp2_with fail
            refine H2F.out.mono ?_
            rintro e w7 ⟨rfl, hT7, hu⟩
            have HT7 := Lib.hid hT7
            have HU57 := Lib.hid (HU56.out.trans hu)
            have HV7 := Lib.hid (HV6.out.trans hu)
            have HU7 := Lib.hid (HU6.out.then hu (fun i hi e => by have := e.1; omega))
            obtain ⟨i0, i1⟩ := hbiF.out _ _ HV7.out
            have h3t := two_take ic iq (last + 3) _ _ _ _ HT7.out (HR4.out _ HU57.out) (HR5.out _ HU57.out) (by omega) (by have := fewL_len srl; omega) (by have := fewL_len swl; omega)
            rw [HB2.out] at h3t
            have H3T := Lib.hid h3t
            clear h3t hT7 hu
            go_wp2_with fail
            refine H3T.out.mono ?_
            rintro e w8 ⟨rfl, hT8, hu⟩
            have HU8 := Lib.hid (HU7.out.then hu (fun i hi e => by have := e.1; omega))
            clear hT8 hu
            go_wp2_with fail
            refine (lockAwake_any _).mono ?_
            rintro e w99 ⟨rfl, hu⟩
            have HU99 := Lib.hid (HU8.out.trans hu)
            clear hu
            go_wp2_with fail
            go_ret
            exact ⟨rfl, HU99.out⟩
          · have hEb : (E1 == 0) = false := by simpa using hE
            have hEn : (E1 != 0) = true := by simpa using hE
            clear hE hbk htg
            have hrt := two_rtake sc sq0 (last + 1) _ _ _ _ HT6.out (HR4.out _ HU56.out) (HR5.out _ HU56.out) hlr (by have := fewL_len srl; omega) (by have := fewL_len swl; omega)
            rw [HTK.out] at hrt
            have HRT := Lib.hid hrt
            clear hrt
            go_wp2_with fail
            refine HRT.out.mono ?_
            rintro e w7 ⟨rfl, hT7, hu⟩
            have HU7 := Lib.hid (HU6.out.then hu (fun i hi e => by have := e.1; omega))
            clear hT7 hu
            go_wp2_with fail
            refine (lockAwake_any _).mono ?_
            rintro e w99 ⟨rfl, hu⟩
            have HU99 := Lib.hid (HU7.out.trans hu)
            clear hu
            go_wp2_with fail
            go_ret
            exact ⟨rfl, HU99.out⟩
end Go.Proofs.Ytobfolkcpfaplaa
