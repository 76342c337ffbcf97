/- Who holds what, function by function (6): one span more. -/
import Derived.Test.YtobfolkcpfaplaaLock5
import Derived.Test.YtobfolkcpfaplaaSched2
namespace Go.Proofs.Ytobfolkcpfaplaa
open Go.RowKit Kit
set_option linter.unusedVariables false

theorem iStr : (Try.prog.info? 9).map (fun i => (i.zero, i.size, i.bytes)) = some (some (.string ⟨#[]⟩), 1, 16) := by kernel_rfl
set_option maxHeartbeats 1000000 in
set_option maxRecDepth 100000 in
/-- slices.Clone of what is read: a row of its own. -/
theorem clones_any {S : Nat → Prop} (v : Value) (l : List ByteArray) (w : World) (h : RSl Rep.str w S v l) (hl : l.length * 16 ≤ 140737488355328) :
    Calls Try.prog 53 #[v] w fun e w' => ∃ v', e = .returned v' ∧ Mine Rep.str 9 w w' v' l := by
  obtain ⟨A, c, cs, rfl, h1, h2, h3, h4, h5⟩ := id h
  cases A with
  | none =>
    obtain rfl : c = 0 := h4 rfl
    obtain rfl : l = [] := List.eq_nil_of_length_eq_zero (by omega)
    have hnil := fun w => Lib.run_eql_slice_nil (P := Try.prog) w 32 9 none 0 0 0 0 Try.underlying32
    have fin := Lib.hid (show Mine Rep.str 9 w w (.slice none 0 0) [] from Mine.nil _ (Upd.refl _ _))
    clear h h3 h5
    go_enter Try.func53, Try.ntmps53
    go_wp2_with fail
    go_ret
    exact ⟨_, rfl, fin.out⟩
  | some a =>
    have hnil := fun w => Lib.run_eql_slice_nil (P := Try.prog) w 32 9 (some a) l.length c 0 0 Try.underlying32
    have hs : S a.block := (h5 a rfl).2.1
    have u0 : Upd NoB w (w.alloc (.cells #[] 9)) := (Upd.refl NoB w).alloc _
    have H := Lib.hid (h.upd u0 (fun b _ hf => hf))
    have H0 := Lib.hid (show Mine Rep.str 9 w (w.alloc (.cells #[] 9)) (.slice (some ⟨w.heap.size, 0, none⟩) 0 0) [] from
      ⟨OSl.made (r := Rep.str) (e := 9) (w := w) (S := grow NoB w (w.alloc (.cells #[] 9))) #[] 0 (by simp) (by decide) ⟨.inr (Nat.le_refl _), by simp⟩, u0⟩)
    have HB := Lib.hid H0.out.bd
    have HO := Lib.hid H0.out.1
    clear h h3 h5 h4
    go_enter Try.func53, Try.ntmps53
    go_wp2_with (at_builtin; go_must (refine app_all (r := Rep.str) rfl _ _ 32 9 (.string ⟨#[]⟩) 16 rfl Try.underlying32 iStr rfl (by decide) rfl rfl HO.out HB.out H.out (fun cs hc => Rows.flat flat_str hc _ _) ?_ ?_))
    · simpa using hl
    · intro v1 w1 ho hu
      have fin := Lib.hid (H0.out.app ho hu)
      clear ho hu
      go_wp2_with fail
      go_ret
      exact ⟨_, rfl, by simpa using fin.out⟩
theorem heap_put {w : World} {p : Nat} {T : TypeId} {cs : Array Value} {fr : Nat × Nat} (h : w.heap[p]? = some (.cells cs T fr)) (i : Nat) (u : Value) : (w.setCell ⟨p, i, none⟩ u).heap[p]? = some (.cells (cs.setIfInBounds i u) T fr) := by
  simp only [World.setCell, Array.getElem?_modify, if_true, h]
  rfl
theorem iSpan : (Try.prog.info? 106).map (fun i => (i.zero, i.size, i.bytes)) = some (some (.agg #[.int .i64 0, .int .u64 0, .slice none 0 0, .slice none 0 0, .int .i64 0, .int .i64 0]), 6, 80) := by kernel_rfl
/-- What Take answers; the spans behind it, the last number. -/
def takeL (l : List Span) (last cl sq a : Int) (rd wr : List ByteArray) : Int × List Span × Int :=
  if a ≤ last then (1, l, last)
  else if rd.all keyB = false then (1, l, last)
  else if wr.all keyB = false then (1, l, last)
  else if holdsB l cl sq = true then (7, l, last)
  else if (rd.any fun k => busyB l k false) = true then (11, l, last)
  else if (wr.any fun k => busyB l k true) = true then (11, l, last)
  else (0, l ++ [⟨cl, sq, rd, wr, a, 0⟩], a)
set_option maxHeartbeats 8000000 in
set_option maxRecDepth 100000 in
theorem take_any {S T : Nat → Prop} (w0 : World) (xs : List Nat) (p : Nat) (l : List Span) (last cl sq a : Int) (vr vw : Value) (rd wr : List ByteArray) (w : World) (h : Lk w0 w xs p l last) (hr : RSl Rep.str w S vr rd) (hw : RSl Rep.str w T vw wr)
    (hp : p ∈ xs) (hxs : ∀ x ∈ xs, x < w.heap.size) (h0 : w0.heap.size ≤ w.heap.size) (hl : l.length ≤ 1000) (hrl : rd.length ≤ 1000) (hwl : wr.length ≤ 1000) :
    Calls Try.prog 12 #[.pointer (some ⟨p, 0, none⟩), .agg #[.int .i64 cl, .int .u64 sq], .int .i64 a, vr, vw] w fun e w' => e = .returned (.int .i64 (takeL l last cl sq a rd wr).1) ∧ Lk w0 w' xs p (takeL l last cl sq a rd wr).2.1 (takeL l last cl sq a rd wr).2.2 ∧ Upd (fun b => b = p ∨ New w0 w xs b) w w' := by
  have HK := Lib.hid (fun x (hx : Upd NoB w x) => h.keep hx (fun h => h) (fun _ h => h.elim))
  obtain ⟨v, h1, h2⟩ := id h
  obtain ⟨wa, hwa⟩ : ∃ wa, w.alloc (.cells #[.int .i64 cl, .int .u64 sq] 31) = wa := ⟨_, rfl⟩
  have hua : Upd NoB w wa := by rw [← hwa]; exact (Upd.refl _ _).alloc _
  have hA : wa.heap[w.heap.size]? = some (.cells #[.int .i64 cl, .int .u64 sq] 31 (0, 0)) := by rw [← hwa]; exact heap_alloc_new _ _
  have H1 := Lib.hid (hua.heap h1 (fun h => h))
  have hcell := Lib.hid (fun x (hx : Upd NoB wa x) => show x.cell? ⟨p, 0, none⟩ = some v ∧ x.cell? ⟨p, 1, none⟩ = some (.int .i64 last) ∧ x.cell? ⟨w.heap.size, 0, none⟩ = some (.int .i64 cl) ∧ x.cell? ⟨w.heap.size, 1, none⟩ = some (.int .u64 sq) from
    ⟨(two_cells (hx.heap H1.out (fun h => h))).1, (two_cells (hx.heap H1.out (fun h => h))).2, (two_cells (hx.heap hA (fun h => h))).1, (two_cells (hx.heap hA (fun h => h))).2⟩)
  have hrr := Lib.hid (fun w1 (hu : Upd NoB wa w1) => rightl_any vr rd w1 (hr.upd (hua.trans hu) (fun _ _ h => h)))
  have hrw := Lib.hid (fun w1 (hu : Upd NoB wa w1) => rightl_any vw wr w1 (hw.upd (hua.trans hu) (fun _ _ h => h)))
  have hho := Lib.hid (fun w1 (hu : Upd NoB wa w1) => holds_any w0 xs p l last cl sq w1 (HK.out _ (hua.trans hu)))
  have hb1 := Lib.hid (fun w1 (hu : Upd NoB wa w1) => busyl_any w0 xs p l last vr rd false w1 (HK.out _ (hua.trans hu)) (hr.upd (hua.trans hu) (fun _ _ h => h)))
  have hb2 := Lib.hid (fun w1 (hu : Upd NoB wa w1) => busyl_any w0 xs p l last vw wr true w1 (HK.out _ (hua.trans hu)) (hw.upd (hua.trans hu) (fun _ _ h => h)))
  have hc1 := Lib.hid (fun w1 (hu : Upd NoB wa w1) => clones_any vr rd w1 (hr.upd (hua.trans hu) (fun _ _ h => h)) (by omega))
  have hc2 := Lib.hid (fun w1 (hu : Upd NoB wa w1) => clones_any vw wr w1 (hw.upd (hua.trans hu) (fun _ _ h => h)) (by omega))
  have HO := Lib.hid (fun x (hx : Upd NoB w x) => h2.new_keep hx (fun _ h => h.elim))
  have hown := Lib.hid (fun k (hk : v.ownBlock = some k) => h2.new_own k hk)
  have HUa := Lib.hid hua
  have HU0 := Lib.hid (Upd.refl NoB wa)
  have hplt := lt_of_heap h1
  have hslt : w.heap.size < wa.heap.size := lt_of_heap hA
  obtain ⟨p0, p1, b0, b1⟩ := hcell.out wa (Upd.refl _ _)
  obtain ⟨A, c, _, rfl, _⟩ := h2.read
  obtain ⟨Ar, cr, _, rfl, _⟩ := hr
  obtain ⟨Aw, cw, _, rfl, _⟩ := hw
  clear h h1 h2 hua hA
  unfold takeL
  generalize hR : rd.all keyB = R at *
  generalize hW : wr.all keyB = W at *
  generalize holdsB l cl sq = Ho at *
  generalize (rd.any fun k => busyB l k false) = B1 at *
  generalize (wr.any fun k => busyB l k true) = B2 at *
  clear hR hW
  by_cases ha : a ≤ last
  · rw [if_pos ha]
    have had : decide (a ≤ last) = true := decide_eq_true ha
    clear ha
    go_enter Try.func12, Try.ntmps12
    go_wp2_with fail
    go_ret
    exact ⟨rfl, HK.out _ (HUa.out.trans HU0.out), (HUa.out.trans HU0.out).mono (fun _ _ h => h.elim)⟩
  · rw [if_neg ha]
    have had : decide (a ≤ last) = false := decide_eq_false ha
    clear ha
    cases R
    · simp only [if_true]
      go_enter Try.func12, Try.ntmps12
      go_wp2_with fail
      refine (hrr.out _ HU0.out).mono ?_
      rintro e w1 ⟨rfl, hu⟩
      have HU1 := Lib.hid (HU0.out.trans hu)
      obtain ⟨p0, p1, b0, b1⟩ := hcell.out w1 HU1.out
      clear hu
      go_wp2_with fail
      go_ret
      exact ⟨rfl, HK.out _ (HUa.out.trans HU1.out), (HUa.out.trans HU1.out).mono (fun _ _ h => h.elim)⟩
    simp only [Bool.true_eq_false, if_false]
    cases W
    · simp only [if_true]
      go_enter Try.func12, Try.ntmps12
      go_wp2_with fail
      refine (hrr.out _ HU0.out).mono ?_
      rintro e w1 ⟨rfl, hu⟩
      have HU1 := Lib.hid (HU0.out.trans hu)
      obtain ⟨p0, p1, b0, b1⟩ := hcell.out w1 HU1.out
      clear hu
      go_wp2_with fail
      refine (hrw.out _ HU1.out).mono ?_
      rintro e w2 ⟨rfl, hu⟩
      have HU2 := Lib.hid (HU1.out.trans hu)
      obtain ⟨p0, p1, b0, b1⟩ := hcell.out w2 HU2.out
      clear hu
      go_wp2_with fail
      go_ret
      exact ⟨rfl, HK.out _ (HUa.out.trans HU2.out), (HUa.out.trans HU2.out).mono (fun _ _ h => h.elim)⟩
    simp only [Bool.true_eq_false, if_false]
    cases Ho
    case true =>
      simp only [if_true]
      go_enter Try.func12, Try.ntmps12
      go_wp2_with fail
      refine (hrr.out _ HU0.out).mono ?_
      rintro e w1 ⟨rfl, hu⟩
      have HU1 := Lib.hid (HU0.out.trans hu)
      obtain ⟨p0, p1, b0, b1⟩ := hcell.out w1 HU1.out
      clear hu
      go_wp2_with fail
      refine (hrw.out _ HU1.out).mono ?_
      rintro e w2 ⟨rfl, hu⟩
      have HU2 := Lib.hid (HU1.out.trans hu)
      obtain ⟨p0, p1, b0, b1⟩ := hcell.out w2 HU2.out
      clear hu
      go_wp2_with fail
      refine (hho.out _ HU2.out).mono ?_
      rintro e w3 ⟨rfl, hu⟩
      have HU3 := Lib.hid (HU2.out.trans hu)
      obtain ⟨p0, p1, b0, b1⟩ := hcell.out w3 HU3.out
      clear hu
      go_wp2_with fail
      go_ret
      exact ⟨rfl, HK.out _ (HUa.out.trans HU3.out), (HUa.out.trans HU3.out).mono (fun _ _ h => h.elim)⟩
    simp only [Bool.false_eq_true, if_false]
    cases B1
    case true =>
      simp only [if_true]
      go_enter Try.func12, Try.ntmps12
      go_wp2_with fail
      refine (hrr.out _ HU0.out).mono ?_
      rintro e w1 ⟨rfl, hu⟩
      have HU1 := Lib.hid (HU0.out.trans hu)
      obtain ⟨p0, p1, b0, b1⟩ := hcell.out w1 HU1.out
      clear hu
      go_wp2_with fail
      refine (hrw.out _ HU1.out).mono ?_
      rintro e w2 ⟨rfl, hu⟩
      have HU2 := Lib.hid (HU1.out.trans hu)
      obtain ⟨p0, p1, b0, b1⟩ := hcell.out w2 HU2.out
      clear hu
      go_wp2_with fail
      refine (hho.out _ HU2.out).mono ?_
      rintro e w3 ⟨rfl, hu⟩
      have HU3 := Lib.hid (HU2.out.trans hu)
      obtain ⟨p0, p1, b0, b1⟩ := hcell.out w3 HU3.out
      clear hu
      go_wp2_with fail
      refine (hb1.out _ HU3.out).mono ?_
      rintro e w4 ⟨rfl, hu⟩
      have HU4 := Lib.hid (HU3.out.trans hu)
      obtain ⟨p0, p1, b0, b1⟩ := hcell.out w4 HU4.out
      clear hu
      go_wp2_with fail
      go_ret
      exact ⟨rfl, HK.out _ (HUa.out.trans HU4.out), (HUa.out.trans HU4.out).mono (fun _ _ h => h.elim)⟩
    simp only [Bool.false_eq_true, if_false]
    cases B2
    case true =>
      simp only [if_true]
      go_enter Try.func12, Try.ntmps12
      go_wp2_with fail
      refine (hrr.out _ HU0.out).mono ?_
      rintro e w1 ⟨rfl, hu⟩
      have HU1 := Lib.hid (HU0.out.trans hu)
      obtain ⟨p0, p1, b0, b1⟩ := hcell.out w1 HU1.out
      clear hu
      go_wp2_with fail
      refine (hrw.out _ HU1.out).mono ?_
      rintro e w2 ⟨rfl, hu⟩
      have HU2 := Lib.hid (HU1.out.trans hu)
      obtain ⟨p0, p1, b0, b1⟩ := hcell.out w2 HU2.out
      clear hu
      go_wp2_with fail
      refine (hho.out _ HU2.out).mono ?_
      rintro e w3 ⟨rfl, hu⟩
      have HU3 := Lib.hid (HU2.out.trans hu)
      obtain ⟨p0, p1, b0, b1⟩ := hcell.out w3 HU3.out
      clear hu
      go_wp2_with fail
      refine (hb1.out _ HU3.out).mono ?_
      rintro e w4 ⟨rfl, hu⟩
      have HU4 := Lib.hid (HU3.out.trans hu)
      obtain ⟨p0, p1, b0, b1⟩ := hcell.out w4 HU4.out
      clear hu
      go_wp2_with fail
      refine (hb2.out _ HU4.out).mono ?_
      rintro e w5 ⟨rfl, hu⟩
      have HU5 := Lib.hid (HU4.out.trans hu)
      obtain ⟨p0, p1, b0, b1⟩ := hcell.out w5 HU5.out
      clear hu
      go_wp2_with fail
      go_ret
      exact ⟨rfl, HK.out _ (HUa.out.trans HU5.out), (HUa.out.trans HU5.out).mono (fun _ _ h => h.elim)⟩
    simp only [Bool.false_eq_true, if_false]
    go_enter Try.func12, Try.ntmps12
    go_wp2_with fail
    refine (hrr.out _ HU0.out).mono ?_
    rintro e w1 ⟨rfl, hu⟩
    have HU1 := Lib.hid (HU0.out.trans hu)
    obtain ⟨p0, p1, b0, b1⟩ := hcell.out w1 HU1.out
    clear hu
    go_wp2_with fail
    refine (hrw.out _ HU1.out).mono ?_
    rintro e w2 ⟨rfl, hu⟩
    have HU2 := Lib.hid (HU1.out.trans hu)
    obtain ⟨p0, p1, b0, b1⟩ := hcell.out w2 HU2.out
    clear hu
    go_wp2_with fail
    refine (hho.out _ HU2.out).mono ?_
    rintro e w3 ⟨rfl, hu⟩
    have HU3 := Lib.hid (HU2.out.trans hu)
    obtain ⟨p0, p1, b0, b1⟩ := hcell.out w3 HU3.out
    clear hu
    go_wp2_with fail
    refine (hb1.out _ HU3.out).mono ?_
    rintro e w4 ⟨rfl, hu⟩
    have HU4 := Lib.hid (HU3.out.trans hu)
    obtain ⟨p0, p1, b0, b1⟩ := hcell.out w4 HU4.out
    clear hu
    go_wp2_with fail
    refine (hb2.out _ HU4.out).mono ?_
    rintro e w5 ⟨rfl, hu⟩
    have HU5 := Lib.hid (HU4.out.trans hu)
    obtain ⟨p0, p1, b0, b1⟩ := hcell.out w5 HU5.out
    clear hu
    go_wp2_with fail
    refine sched2_begin (fun b => (Value.slice A l.length c).ownBlock = some b) (fun b => b = p ∨ (Value.slice A l.length c).ownBlock = some b) [16] (by kernel_rfl) ?_
    have HU5d := Lib.hid HU5.out.drew
    have hP0 := Lib.hid (hcell.out _ HU5d.out)
    have hnp : ¬ (Value.slice A l.length c).ownBlock = some p := fun e => (hown.out p e).2.2 hp
    have hns : ¬ (Value.slice A l.length c).ownBlock = some w.heap.size := fun e => by have := (hown.out _ e).2.1; omega
    generalize hwd : w5.drew = wd at *
    clear p0 p1 b0 b1 hwd
    have hz5 := HU5d.out.size
    refine sched2_take 0 rfl (by kernel_rfl) (by kernel_rfl) (by kernel_rfl) (by kernel_rfl) (by kernel_rfl) (fun _ _ _ h => h) (.inl ⟨rfl, fun x hx => by go_simp; rfl⟩) ?_
    go_simp
    refine sched2_take 1 rfl (by kernel_rfl) (by kernel_rfl) (by kernel_rfl) (by kernel_rfl) (by kernel_rfl) (fun _ _ _ h => h) (.inl ⟨rfl, fun x hx => by go_simp; rfl⟩) ?_
    go_simp
    refine sched2_take 2 rfl (by kernel_rfl) (by kernel_rfl) (by kernel_rfl) (by kernel_rfl) (by kernel_rfl) (fun _ _ _ h => h) (.inl ⟨rfl, fun x hx => by go_simp; rfl⟩) ?_
    go_simp
    refine sched2_take 3 rfl (by kernel_rfl) (by kernel_rfl) (by kernel_rfl) (by kernel_rfl) (by kernel_rfl) (fun _ _ _ h => h) (.inl ⟨rfl, fun x hx => by go_simp; rfl⟩) ?_
    go_simp
    refine sched2_take 4 rfl (by kernel_rfl) (by kernel_rfl) (by kernel_rfl) (by kernel_rfl) (by kernel_rfl) (fun _ _ _ h => h) (.inl ⟨rfl, fun x hx => by have hcx := hx.cell hP0.out.1 hnp; go_simp; rfl⟩) ?_
    go_simp
    refine sched2_take 5 rfl (by kernel_rfl) (by kernel_rfl) (by kernel_rfl) (by kernel_rfl) (by kernel_rfl) (fun _ _ _ h => h) (.inl ⟨rfl, fun x hx => by have hcx := hx.cell hP0.out.2.2.1 hns; have hcy := hx.cell hP0.out.2.2.2 hns; go_simp; rfl⟩) ?_
    go_simp
    refine sched2_take 6 rfl (by kernel_rfl) (by kernel_rfl) (by kernel_rfl) (by kernel_rfl) (by kernel_rfl) (fun _ _ _ h => h) (.inl ⟨rfl, fun x hx => by go_simp; rfl⟩) ?_
    go_simp
    refine sched2_take 8 rfl (by kernel_rfl) (by kernel_rfl) (by kernel_rfl) (by kernel_rfl) (by kernel_rfl) (fun _ _ _ h => h) (.inl ⟨rfl, fun x hx => by go_simp; rfl⟩) ?_
    go_simp
    refine sched2_take 10 rfl (by kernel_rfl) (by kernel_rfl) (by kernel_rfl) (by kernel_rfl) (by kernel_rfl) (fun _ _ _ h => h) (.inl ⟨rfl, fun x hx => by go_simp; rfl⟩) ?_
    go_simp
    refine sched2_alone 7 (by kernel_rfl) rfl rfl ?_
    go_simp
    refine (hc1.out _ HU5d.out).mono ?_
    rintro e w6 ⟨v6, rfl, hM6⟩
    refine ⟨both (hM6.2.mono (fun _ _ h => h.elim)) (fun _ h => .inr h), ?_⟩
    have HM6 := Lib.hid hM6
    have HU6 := Lib.hid (HU5d.out.trans hM6.2)
    have hz6 := hM6.2.size
    obtain ⟨A6, c6, _, rfl, _⟩ := hM6.1.read
    clear hM6
    go_simp
    refine sched2_alone 9 (by kernel_rfl) rfl rfl ?_
    go_simp
    refine (hc2.out _ HU6.out).mono ?_
    rintro e w7 ⟨v7, rfl, hM7⟩
    refine ⟨both (hM7.2.mono (fun _ _ h => h.elim)) (fun _ h => .inr h), ?_⟩
    have HM6' := Lib.hid (HM6.out.upd hM7.2)
    have HM7 := Lib.hid hM7
    have HU7 := Lib.hid (HU6.out.trans hM7.2)
    have hz7 := hM7.2.size
    obtain ⟨A7, c7, _, rfl, _⟩ := hM7.1.read
    clear hM7
    go_simp
    refine sched2_take 11 rfl (by kernel_rfl) (by kernel_rfl) (by kernel_rfl) (by kernel_rfl) (by kernel_rfl) (fun _ _ _ h => h) (.inl ⟨rfl, fun x hx => by go_simp; rfl⟩) ?_
    go_simp
    refine sched2_alone 12 (by kernel_rfl) rfl rfl ?_
    go_simp
    refine ⟨both ((Upd.refl _ _).alloc _) (fun _ h => .inr h), ?_⟩
    go_simp
    have HY := Lib.hid (show Rep.span.rep w7 (fun b => wd.heap.size ≤ b ∧ b < w7.heap.size) ⟨cl, sq, rd, wr, a, 0⟩ (#[.int .i64 cl, .int .u64 sq, .slice A6 rd.length c6, .slice A7 wr.length c7, .int .i64 a, .int .i64 0] : Array Value).toList from
      ⟨_, _, rfl, HM6'.out.1.read.mono (fun b hb => ⟨hb.1.resolve_left (fun h => h), hb.2⟩), HM7.out.1.read.mono (fun b hb => ⟨by have := hb.1.resolve_left (fun h => h); omega, hb.2⟩)⟩)
    have hwsz := HUa.out.size
    have HO7 := Lib.hid (HO.out w7 (HUa.out.trans HU7.out))
    have HB7 := Lib.hid (New.bd w0 w7 xs)
    have hTT : ∀ b, (wd.heap.size ≤ b ∧ b < w7.heap.size) → New w0 w7 xs b ∧ (Value.slice A l.length c).ownBlock ≠ some b := fun b hb => ⟨⟨by omega, hb.2, fun hm => by have := hxs b hm; omega⟩, fun e => by have := (hown.out b e).2.1; omega⟩
    have hall : (l.length + 1) * 80 ≤ 140737488355328 := by omega
    refine sched2_law 13 (by kernel_rfl) rfl rfl ?_
    go_simp
    at_builtin
    refine app_one' (r := Rep.span) (v := .slice A l.length c) (y := ⟨cl, sq, rd, wr, a, 0⟩) rfl _ _ 100 106 (.agg #[.int .i64 0, .int .u64 0, .slice none 0 0, .slice none 0 0, .int .i64 0, .int .i64 0]) 80 rfl Try.underlying100 iSpan rfl (by decide) rfl rfl HO7.out HB7.out HY.out hTT hall ?_
    intro v1 w9 ho2 hu2 hu3
    refine law_done ⟨both hu3 (fun _ h => .inr h), ?_⟩
    have HN := Lib.hid (ho2.new_app (by omega) (fun x hx => by have := hxs x hx; omega))
    have HU9 := Lib.hid hu2
    have g1 := hu2.heap (HU7.out.heap H1.out (fun h => h)) hnp
    have G1 := Lib.hid g1
    have f0 : w9.frozen? ⟨p, 0, none⟩ = false := by simp [World.frozen?, g1]
    have k0 : w9.cell? ⟨p, 0, none⟩ = some (.slice A l.length c) := (two_cells g1).1
    obtain ⟨A1, c1, _, e1, _⟩ := HN.out.read
    rw [List.length_append, List.length_singleton] at e1
    subst e1
    clear ho2 hu2 hu3 g1
    go_simp
    refine sched2_take 14 rfl (by kernel_rfl) (by kernel_rfl) (by kernel_rfl) (by kernel_rfl) (by kernel_rfl) (fun _ _ _ h => h) (.inl ⟨rfl, fun x hx => by go_simp; rfl⟩) ?_
    go_simp
    refine sched2_take 15 rfl (by kernel_rfl) (by kernel_rfl) (by kernel_rfl) (by kernel_rfl) (by kernel_rfl) (fun _ _ _ h => h) (.inl ⟨rfl, fun x hx => by go_simp; rfl⟩) ?_
    go_simp
    refine sched2_alone 16 (by kernel_rfl) rfl rfl ?_
    go_simp
    refine ⟨⟨((Upd.refl _ w9).setCell (p := ⟨p, 0, none⟩) (fun _ => .inl rfl) _), fun hn => ?_⟩, ?_⟩
    · have := hn 16 (by simp)
      simp at this
    go_simp
    refine sched2_done (by kernel_rfl) ?_
    have G2 := Lib.hid (heap_put G1.out 0 (.slice A1 (l.length + 1) c1))
    obtain ⟨w10, hw10⟩ : ∃ w10, w9.setCell ⟨p, 0, none⟩ (.slice A1 (l.length + 1) c1) = w10 := ⟨_, rfl⟩
    have U10 := Lib.hid (show Upd (fun b => b = p) w9 w10 by rw [← hw10]; exact (Upd.refl (fun b => b = p) w9).setCell (p := ⟨p, 0, none⟩) (fun _ => rfl) _)
    rw [hw10] at G2
    have G2' : w10.heap[p]? = some (.cells #[.slice A1 (l.length + 1) c1, .int .i64 last] 102 (0, 0)) := by simpa using G2.out
    have m1 := (two_cells G2').2
    have m2 : w10.frozen? ⟨p, 1, none⟩ = false := by simp [World.frozen?, G2']
    have G3 := Lib.hid (heap_put G2' 1 (.int .i64 a))
    have U11 := Lib.hid (U10.out.setCell (p := ⟨p, 1, none⟩) (fun _ => rfl) (.int .i64 a))
    clear G2'
    go_wp2_with fail
    go_ret
    refine ⟨rfl, ⟨_, by simpa using G3.out, HN.out.new_keep U11.out (fun b hb => .inl (by rw [show b = p from hb]; exact hp))⟩, ?_⟩
    refine (((HUa.out.trans HU7.out).mono (fun _ _ h => h.elim)).then HU9.out (fun i hi e => ?_)).then U11.out (fun i hi e => .inl e)
    obtain ⟨a1, a2, a3⟩ := hown.out i e
    exact .inr ⟨a1, hi, a3⟩
end Go.Proofs.Ytobfolkcpfaplaa
