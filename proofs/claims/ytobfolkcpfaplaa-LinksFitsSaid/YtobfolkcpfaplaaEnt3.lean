/- Entries of a log, any: one as the program's, as the document's; a list of them. -/
import Derived.Test.YtobfolkcpfaplaaEnt2
namespace Go.Proofs.Ytobfolkcpfaplaa
open Go.RowKit Kit
set_option linter.unusedVariables false
theorem two_world (w : World) (c0 c1 : Array Value) (T0 T1 : TypeId) : ∃ wa, (w.alloc (.cells c0 T0)).alloc (.cells c1 T1) = wa ∧ Upd NoB w wa ∧ ∀ x, Upd NoB wa x →
    x.heap[w.heap.size]? = some (.cells c0 T0 (0, 0)) ∧ x.heap[w.heap.size + 1]? = some (.cells c1 T1 (0, 0)) := by
  refine ⟨_, rfl, ((Upd.refl _ _).alloc _).alloc _, fun x hx => ⟨hx.heap (((Upd.refl NoB _).alloc _).heap (heap_alloc_new w _) (fun h => h)) (fun h => h), hx.heap ?_ (fun h => h)⟩⟩
  have := heap_alloc_new (w.alloc (.cells c0 T0)) (.cells c1 T1 (0, 0))
  rw [show (w.alloc (.cells c0 T0)).heap.size = w.heap.size + 1 by simp] at this
  exact this
theorem grow_old {w w1 : World} {b : Nat} (h : grow NoB w w1 b) : w.heap.size ≤ b ∧ b < w1.heap.size := ⟨h.1.resolve_left (fun h => h), h.2⟩
def Ent.cut (x : Ent) : Ent := { x with rd := x.rd.take 10, wr := x.wr.take 10 }
set_option maxHeartbeats 8000000 in
set_option maxRecDepth 100000 in
theorem eours_any {S : Nat → Prop} (x : Ent) (A B : Option Addr) (c d : Nat) (w : World) (h1 : RSlW Rep.rd w S (.slice A x.rd.length c) x.rd) (h2 : RSlW Rep.wt w S (.slice B x.wr.length d) x.wr) (hn1 : x.rd.length ≤ 9223372036854775807) (hn2 : x.wr.length ≤ 9223372036854775807) :
    Calls Try.prog 59 #[.agg #[.int .u64 x.ep, .int .i64 x.kd, .int .i64 x.tc, .int .u64 x.tq, .bool x.pl, .slice A x.rd.length c, .slice B x.wr.length d, .int .i64 x.ec, .int .u64 x.eq, .int .i64 x.cd]] w fun e w' => ∃ cs, e = .returned (.agg cs) ∧ Rep.ent.rep w' (grow NoB w w') x.cut cs.toList ∧ Upd NoB w w' := by
  obtain ⟨wa, hwa0, hua, hb0⟩ := two_world w #[.int .u64 x.ep, .int .i64 x.kd, .int .i64 x.tc, .int .u64 x.tq, .bool x.pl, .slice A x.rd.length c, .slice B x.wr.length d, .int .i64 x.ec, .int .u64 x.eq, .int .i64 x.cd] #[.int .u64 0, .int .i64 0, .int .i64 0, .int .u64 0, .bool false, .slice none 0 0, .slice none 0 0, .int .i64 0, .int .u64 0, .int .i64 0] 72 65
  have hwa := Lib.hid hwa0
  have HUa := Lib.hid hua
  have htx := Lib.hid (fun z (hz : Upd NoB w z) => ourtxn_any x.tc x.tq x.pl x.rd x.wr A B c d z (h1.upd hz (fun _ _ h => h)) (h2.upd hz (fun _ _ h => h)) hn1 hn2)
  have hb := Lib.hid (fun y hy => ten_cells (hb0 y hy).1)
  have hz := Lib.hid (fun y hy => ten_cells (hb0 y hy).2)
  have hn := Lib.hid (lt_of_heap (hb0 wa (Upd.refl _ _)).2)
  have hzf := Lib.hid (fun y (hy : Upd NoB wa y) => show ∀ i, World.frozen? y ⟨w.heap.size + 1, i, none⟩ = false from fun i => by simp [World.frozen?, (hb0 y hy).2])
  have hsg := Lib.hid (fun (y z : World) (hy : Upd (fun b => b = w.heap.size + 1) y z) (i : Nat) (u : Value) => hy.setCell (p := ⟨w.heap.size + 1, i, none⟩) (fun _ => rfl) u)
  clear hwa0 hua hb0 h1 h2 hn1 hn2
  go_enter Try.func59, Try.ntmps59
  go_wp2_with fail
  rw [hwa.out]
  refine sched2_begin NoB (fun b => b = w.heap.size + 1) [12] (by kernel_rfl) ?_
  have HUd := Lib.hid (Upd.refl NoB wa).drew
  refine sched2_take 0 rfl (by kernel_rfl) (by kernel_rfl) (by kernel_rfl) (by kernel_rfl) (by kernel_rfl) (fun _ _ _ h => h) (.inl ⟨rfl, fun x hx => by obtain ⟨y0, y1, y2, y3, y4, y5, y6, y7, y8, y9⟩ := hb.out x (HUd.out.trans hx); go_simp; rfl⟩) ?_
  go_simp
  refine sched2_take 1 rfl (by kernel_rfl) (by kernel_rfl) (by kernel_rfl) (by kernel_rfl) (by kernel_rfl) (fun _ _ _ h => h) (.inl ⟨rfl, fun x hx => by obtain ⟨y0, y1, y2, y3, y4, y5, y6, y7, y8, y9⟩ := hb.out x (HUd.out.trans hx); go_simp; rfl⟩) ?_
  go_simp
  refine sched2_take 2 rfl (by kernel_rfl) (by kernel_rfl) (by kernel_rfl) (by kernel_rfl) (by kernel_rfl) (fun _ _ _ h => h) (.inl ⟨rfl, fun x hx => by obtain ⟨y0, y1, y2, y3, y4, y5, y6, y7, y8, y9⟩ := hb.out x (HUd.out.trans hx); go_simp; rfl⟩) ?_
  go_simp
  refine sched2_take 3 rfl (by kernel_rfl) (by kernel_rfl) (by kernel_rfl) (by kernel_rfl) (by kernel_rfl) (fun _ _ _ h => h) (.inl ⟨rfl, fun x hx => by obtain ⟨y0, y1, y2, y3, y4, y5, y6, y7, y8, y9⟩ := hb.out x (HUd.out.trans hx); go_simp; rfl⟩) ?_
  go_simp
  refine sched2_take 4 rfl (by kernel_rfl) (by kernel_rfl) (by kernel_rfl) (by kernel_rfl) (by kernel_rfl) (fun _ _ _ h => h) (.inl ⟨rfl, fun x hx => by obtain ⟨y0, y1, y2, y3, y4, y5, y6, y7, y8, y9⟩ := hb.out x (HUd.out.trans hx); go_simp; rfl⟩) ?_
  go_simp
  refine sched2_take 5 rfl (by kernel_rfl) (by kernel_rfl) (by kernel_rfl) (by kernel_rfl) (by kernel_rfl) (fun _ _ _ h => h) (.inl ⟨rfl, fun x hx => by obtain ⟨y0, y1, y2, y3, y4, y5, y6, y7, y8, y9⟩ := hb.out x (HUd.out.trans hx); go_simp; rfl⟩) ?_
  go_simp
  refine sched2_take 7 rfl (by kernel_rfl) (by kernel_rfl) (by kernel_rfl) (by kernel_rfl) (by kernel_rfl) (fun _ _ _ h => h) (.inl ⟨rfl, fun x hx => by obtain ⟨y0, y1, y2, y3, y4, y5, y6, y7, y8, y9⟩ := hb.out x (HUd.out.trans hx); go_simp; rfl⟩) ?_
  go_simp
  refine sched2_take 8 rfl (by kernel_rfl) (by kernel_rfl) (by kernel_rfl) (by kernel_rfl) (by kernel_rfl) (fun _ _ _ h => h) (.inl ⟨rfl, fun x hx => by obtain ⟨y0, y1, y2, y3, y4, y5, y6, y7, y8, y9⟩ := hb.out x (HUd.out.trans hx); go_simp; rfl⟩) ?_
  go_simp
  refine sched2_take 9 rfl (by kernel_rfl) (by kernel_rfl) (by kernel_rfl) (by kernel_rfl) (by kernel_rfl) (fun _ _ _ h => h) (.inl ⟨rfl, fun x hx => by obtain ⟨y0, y1, y2, y3, y4, y5, y6, y7, y8, y9⟩ := hb.out x (HUd.out.trans hx); go_simp; rfl⟩) ?_
  go_simp
  refine sched2_take 10 rfl (by kernel_rfl) (by kernel_rfl) (by kernel_rfl) (by kernel_rfl) (by kernel_rfl) (fun _ _ _ h => h) (.inl ⟨rfl, fun x hx => by obtain ⟨y0, y1, y2, y3, y4, y5, y6, y7, y8, y9⟩ := hb.out x (HUd.out.trans hx); go_simp; rfl⟩) ?_
  go_simp
  refine sched2_alone 6 (by kernel_rfl) rfl rfl ?_
  go_simp
  refine (htx.out _ (HUa.out.trans HUd.out)).mono ?_
  rintro e w1 ⟨va, vb, rfl, hra, hrb, hu⟩
  refine ⟨both hu (fun _ h => h.elim), ?_⟩
  have HU1 := Lib.hid (HUd.out.trans hu)
  have hsz := Lib.hid (Nat.le_trans hn.out HUd.out.size)
  have F1 := Lib.hid (fun y (hy : Upd (fun b => b = w.heap.size + 1) w1 y) => (hra.upd hy (fun b hb f => by have := (grow_old hb).1; have := hsz.out; have f' : b = w.heap.size + 1 := f; omega)).mono (fun b hb => show grow NoB w y b from ⟨.inr (by have := (grow_old hb).1; have := hsz.out; omega), Nat.lt_of_lt_of_le hb.2 hy.size⟩))
  have F2 := Lib.hid (fun y (hy : Upd (fun b => b = w.heap.size + 1) w1 y) => (hrb.upd hy (fun b hb f => by have := (grow_old hb).1; have := hsz.out; have f' : b = w.heap.size + 1 := f; omega)).mono (fun b hb => show grow NoB w y b from ⟨.inr (by have := (grow_old hb).1; have := hsz.out; omega), Nat.lt_of_lt_of_le hb.2 hy.size⟩))
  obtain ⟨A1, c1, _, rfl, _⟩ := hra
  obtain ⟨A2, c2, _, rfl, _⟩ := hrb
  generalize hn1 : (List.take 10 x.rd).length = n1 at *
  generalize hn2 : (List.take 10 x.wr).length = n2 at *
  clear hn1 hn2
  clear hu
  go_simp
  refine sched2_take 11 rfl (by kernel_rfl) (by kernel_rfl) (by kernel_rfl) (by kernel_rfl) (by kernel_rfl) (fun _ _ _ h => h) (.inl ⟨rfl, fun x hx => by go_simp; rfl⟩) ?_
  go_simp
  obtain ⟨z0, z1, z2, z3, z4, z5, z6, z7, z8, z9⟩ := hz.out w1 HU1.out
  have zf := hzf.out w1 HU1.out
  have U10 := Lib.hid (fun a0 a1 a2 a3 a4 a5 a6 a7 a8 a9 => hsg.out _ _ (hsg.out _ _ (hsg.out _ _ (hsg.out _ _ (hsg.out _ _ (hsg.out _ _ (hsg.out _ _ (hsg.out _ _ (hsg.out _ _ (hsg.out _ _ (Upd.refl _ w1) 0 a0) 1 a1) 2 a2) 3 a3) 4 a4) 5 a5) 6 a6) 7 a7) 8 a8) 9 a9)
  refine sched2_alone 12 (by kernel_rfl) rfl rfl ?_
  go_simp
  refine ⟨⟨U10.out _ _ _ _ _ _ _ _ _ _, fun hn => ?_⟩, ?_⟩
  · have := hn 12 (by simp)
    simp at this
  refine sched2_done (by kernel_rfl) ?_
  have HUw := Lib.hid (fun y (hy : Upd (fun b => b = w.heap.size + 1) w1 y) => show Upd NoB w y from (HUa.out.trans HU1.out).then hy (fun i hi e => by have e' : i = w.heap.size + 1 := e; omega))
  go_wp2_with fail
  exact bodyPost_ret (v := .agg #[.int .u64 x.ep, .int .i64 x.kd, .int .i64 x.tc, .int .u64 x.tq, .bool x.pl, .slice A1 n1 c1, .slice A2 n2 c2, .int .i64 x.ec, .int .u64 x.eq, .int .i64 x.cd]) (by simp [results, Try.results59, go_sem, *]) rfl ⟨_, rfl, ⟨_, _, rfl, F1.out _ (U10.out _ _ _ _ _ _ _ _ _ _), F2.out _ (U10.out _ _ _ _ _ _ _ _ _ _)⟩, HUw.out _ (U10.out _ _ _ _ _ _ _ _ _ _)⟩
set_option maxHeartbeats 8000000 in
set_option maxRecDepth 100000 in
theorem eplain_any {S : Nat → Prop} (x : Ent) (A B : Option Addr) (c d : Nat) (w : World) (h1 : RSlW Rep.rd w S (.slice A x.rd.length c) x.rd) (h2 : RSlW Rep.wt w S (.slice B x.wr.length d) x.wr) (hn1 : x.rd.length ≤ 100000) (hn2 : x.wr.length ≤ 100000) :
    Calls Try.prog 30 #[.agg #[.int .u64 x.ep, .int .i64 x.kd, .int .i64 x.tc, .int .u64 x.tq, .bool x.pl, .slice A x.rd.length c, .slice B x.wr.length d, .int .i64 x.ec, .int .u64 x.eq, .int .i64 x.cd]] w fun e w' => ∃ cs, e = .returned (.agg cs) ∧ Rep.ent.rep w' (grow NoB w w') x cs.toList ∧ Upd NoB w w' := by
  obtain ⟨wa, hwa0, hua, hb0⟩ := two_world w #[.int .u64 x.ep, .int .i64 x.kd, .int .i64 x.tc, .int .u64 x.tq, .bool x.pl, .slice A x.rd.length c, .slice B x.wr.length d, .int .i64 x.ec, .int .u64 x.eq, .int .i64 x.cd] #[.int .u64 0, .int .i64 0, .int .i64 0, .int .u64 0, .bool false, .slice none 0 0, .slice none 0 0, .int .i64 0, .int .u64 0, .int .i64 0] 65 72
  have hwa := Lib.hid hwa0
  have HUa := Lib.hid hua
  have htx := Lib.hid (fun z (hz : Upd NoB w z) => plaintx_any x.tc x.tq x.pl x.rd x.wr A B c d z (h1.upd hz (fun _ _ h => h)) (h2.upd hz (fun _ _ h => h)) hn1 hn2)
  have hb := Lib.hid (fun y hy => ten_cells (hb0 y hy).1)
  have hz := Lib.hid (fun y hy => ten_cells (hb0 y hy).2)
  have hn := Lib.hid (lt_of_heap (hb0 wa (Upd.refl _ _)).2)
  have hzf := Lib.hid (fun y (hy : Upd NoB wa y) => show ∀ i, World.frozen? y ⟨w.heap.size + 1, i, none⟩ = false from fun i => by simp [World.frozen?, (hb0 y hy).2])
  have hsg := Lib.hid (fun (y z : World) (hy : Upd (fun b => b = w.heap.size + 1) y z) (i : Nat) (u : Value) => hy.setCell (p := ⟨w.heap.size + 1, i, none⟩) (fun _ => rfl) u)
  clear hwa0 hua hb0 h1 h2 hn1 hn2
  go_enter Try.func30, Try.ntmps30
  go_wp2_with fail
  rw [hwa.out]
  refine sched2_begin NoB (fun b => b = w.heap.size + 1) [12] (by kernel_rfl) ?_
  have HUd := Lib.hid (Upd.refl NoB wa).drew
  refine sched2_take 0 rfl (by kernel_rfl) (by kernel_rfl) (by kernel_rfl) (by kernel_rfl) (by kernel_rfl) (fun _ _ _ h => h) (.inl ⟨rfl, fun x hx => by obtain ⟨y0, y1, y2, y3, y4, y5, y6, y7, y8, y9⟩ := hb.out x (HUd.out.trans hx); go_simp; rfl⟩) ?_
  go_simp
  refine sched2_take 1 rfl (by kernel_rfl) (by kernel_rfl) (by kernel_rfl) (by kernel_rfl) (by kernel_rfl) (fun _ _ _ h => h) (.inl ⟨rfl, fun x hx => by obtain ⟨y0, y1, y2, y3, y4, y5, y6, y7, y8, y9⟩ := hb.out x (HUd.out.trans hx); go_simp; rfl⟩) ?_
  go_simp
  refine sched2_take 2 rfl (by kernel_rfl) (by kernel_rfl) (by kernel_rfl) (by kernel_rfl) (by kernel_rfl) (fun _ _ _ h => h) (.inl ⟨rfl, fun x hx => by obtain ⟨y0, y1, y2, y3, y4, y5, y6, y7, y8, y9⟩ := hb.out x (HUd.out.trans hx); go_simp; rfl⟩) ?_
  go_simp
  refine sched2_take 3 rfl (by kernel_rfl) (by kernel_rfl) (by kernel_rfl) (by kernel_rfl) (by kernel_rfl) (fun _ _ _ h => h) (.inl ⟨rfl, fun x hx => by obtain ⟨y0, y1, y2, y3, y4, y5, y6, y7, y8, y9⟩ := hb.out x (HUd.out.trans hx); go_simp; rfl⟩) ?_
  go_simp
  refine sched2_take 4 rfl (by kernel_rfl) (by kernel_rfl) (by kernel_rfl) (by kernel_rfl) (by kernel_rfl) (fun _ _ _ h => h) (.inl ⟨rfl, fun x hx => by obtain ⟨y0, y1, y2, y3, y4, y5, y6, y7, y8, y9⟩ := hb.out x (HUd.out.trans hx); go_simp; rfl⟩) ?_
  go_simp
  refine sched2_take 5 rfl (by kernel_rfl) (by kernel_rfl) (by kernel_rfl) (by kernel_rfl) (by kernel_rfl) (fun _ _ _ h => h) (.inl ⟨rfl, fun x hx => by obtain ⟨y0, y1, y2, y3, y4, y5, y6, y7, y8, y9⟩ := hb.out x (HUd.out.trans hx); go_simp; rfl⟩) ?_
  go_simp
  refine sched2_take 7 rfl (by kernel_rfl) (by kernel_rfl) (by kernel_rfl) (by kernel_rfl) (by kernel_rfl) (fun _ _ _ h => h) (.inl ⟨rfl, fun x hx => by obtain ⟨y0, y1, y2, y3, y4, y5, y6, y7, y8, y9⟩ := hb.out x (HUd.out.trans hx); go_simp; rfl⟩) ?_
  go_simp
  refine sched2_take 8 rfl (by kernel_rfl) (by kernel_rfl) (by kernel_rfl) (by kernel_rfl) (by kernel_rfl) (fun _ _ _ h => h) (.inl ⟨rfl, fun x hx => by obtain ⟨y0, y1, y2, y3, y4, y5, y6, y7, y8, y9⟩ := hb.out x (HUd.out.trans hx); go_simp; rfl⟩) ?_
  go_simp
  refine sched2_take 9 rfl (by kernel_rfl) (by kernel_rfl) (by kernel_rfl) (by kernel_rfl) (by kernel_rfl) (fun _ _ _ h => h) (.inl ⟨rfl, fun x hx => by obtain ⟨y0, y1, y2, y3, y4, y5, y6, y7, y8, y9⟩ := hb.out x (HUd.out.trans hx); go_simp; rfl⟩) ?_
  go_simp
  refine sched2_take 10 rfl (by kernel_rfl) (by kernel_rfl) (by kernel_rfl) (by kernel_rfl) (by kernel_rfl) (fun _ _ _ h => h) (.inl ⟨rfl, fun x hx => by obtain ⟨y0, y1, y2, y3, y4, y5, y6, y7, y8, y9⟩ := hb.out x (HUd.out.trans hx); go_simp; rfl⟩) ?_
  go_simp
  refine sched2_alone 6 (by kernel_rfl) rfl rfl ?_
  go_simp
  refine (htx.out _ (HUa.out.trans HUd.out)).mono ?_
  rintro e w1 ⟨va, vb, rfl, hra, hrb, hu⟩
  refine ⟨both hu (fun _ h => h.elim), ?_⟩
  have HU1 := Lib.hid (HUd.out.trans hu)
  have hsz := Lib.hid (Nat.le_trans hn.out HUd.out.size)
  have F1 := Lib.hid (fun y (hy : Upd (fun b => b = w.heap.size + 1) w1 y) => (hra.upd hy (fun b hb f => by have := (grow_old hb).1; have := hsz.out; have f' : b = w.heap.size + 1 := f; omega)).mono (fun b hb => show grow NoB w y b from ⟨.inr (by have := (grow_old hb).1; have := hsz.out; omega), Nat.lt_of_lt_of_le hb.2 hy.size⟩))
  have F2 := Lib.hid (fun y (hy : Upd (fun b => b = w.heap.size + 1) w1 y) => (hrb.upd hy (fun b hb f => by have := (grow_old hb).1; have := hsz.out; have f' : b = w.heap.size + 1 := f; omega)).mono (fun b hb => show grow NoB w y b from ⟨.inr (by have := (grow_old hb).1; have := hsz.out; omega), Nat.lt_of_lt_of_le hb.2 hy.size⟩))
  obtain ⟨A1, c1, _, rfl, _⟩ := hra
  obtain ⟨A2, c2, _, rfl, _⟩ := hrb
  generalize hn1 : x.rd.length = n1 at *
  generalize hn2 : x.wr.length = n2 at *
  clear hn1 hn2
  clear hu
  go_simp
  refine sched2_take 11 rfl (by kernel_rfl) (by kernel_rfl) (by kernel_rfl) (by kernel_rfl) (by kernel_rfl) (fun _ _ _ h => h) (.inl ⟨rfl, fun x hx => by go_simp; rfl⟩) ?_
  go_simp
  obtain ⟨z0, z1, z2, z3, z4, z5, z6, z7, z8, z9⟩ := hz.out w1 HU1.out
  have zf := hzf.out w1 HU1.out
  have U10 := Lib.hid (fun a0 a1 a2 a3 a4 a5 a6 a7 a8 a9 => hsg.out _ _ (hsg.out _ _ (hsg.out _ _ (hsg.out _ _ (hsg.out _ _ (hsg.out _ _ (hsg.out _ _ (hsg.out _ _ (hsg.out _ _ (hsg.out _ _ (Upd.refl _ w1) 0 a0) 1 a1) 2 a2) 3 a3) 4 a4) 5 a5) 6 a6) 7 a7) 8 a8) 9 a9)
  refine sched2_alone 12 (by kernel_rfl) rfl rfl ?_
  go_simp
  refine ⟨⟨U10.out _ _ _ _ _ _ _ _ _ _, fun hn => ?_⟩, ?_⟩
  · have := hn 12 (by simp)
    simp at this
  refine sched2_done (by kernel_rfl) ?_
  have HUw := Lib.hid (fun y (hy : Upd (fun b => b = w.heap.size + 1) w1 y) => show Upd NoB w y from (HUa.out.trans HU1.out).then hy (fun i hi e => by have e' : i = w.heap.size + 1 := e; omega))
  go_wp2_with fail
  exact bodyPost_ret (v := .agg #[.int .u64 x.ep, .int .i64 x.kd, .int .i64 x.tc, .int .u64 x.tq, .bool x.pl, .slice A1 n1 c1, .slice A2 n2 c2, .int .i64 x.ec, .int .u64 x.eq, .int .i64 x.cd]) (by simp [results, Try.results30, go_sem, *]) rfl ⟨_, rfl, ⟨_, _, rfl, F1.out _ (U10.out _ _ _ _ _ _ _ _ _ _), F2.out _ (U10.out _ _ _ _ _ _ _ _ _ _)⟩, HUw.out _ (U10.out _ _ _ _ _ _ _ _ _ _)⟩
end Go.Proofs.Ytobfolkcpfaplaa
