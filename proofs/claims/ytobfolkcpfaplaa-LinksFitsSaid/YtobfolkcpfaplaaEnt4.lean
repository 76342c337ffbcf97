/- Entries of a log, any: a list of them as the document's; a copy of one. -/
import Derived.Test.YtobfolkcpfaplaaEnt3
namespace Go.Proofs.Ytobfolkcpfaplaa
open Go.RowKit Kit
set_option linter.unusedVariables false
def Ent.small (x : Ent) : Prop := x.rd.length ≤ 100000 ∧ x.wr.length ≤ 100000
theorem iEnt (T : TypeId) (hT : T = 65 ∨ T = 72) : (Try.prog.info? T).map (fun i => (i.zero, i.size, i.bytes)) = some (some (.agg #[.int .u64 0, .int .i64 0, .int .i64 0, .int .u64 0, .bool false, .slice none 0 0, .slice none 0 0, .int .i64 0, .int .u64 0, .int .i64 0]), 10, 112) := by
  rcases hT with rfl | rfl <;> kernel_rfl
set_option maxHeartbeats 1000000 in
set_option maxRecDepth 100000 in
/-- slices.Clone of what is read: a row of its own. -/
theorem cloner_any {S : Nat → Prop} (v : Value) (l : List Rd) (w : World) (h : RSl Rep.rd w S v l) (hl : l.length * 24 ≤ 140737488355328) :
    Calls Try.prog 82 #[v] w fun e w' => ∃ v', e = .returned v' ∧ Mine Rep.rd 128 w w' v' l := by
  obtain ⟨A, c, cs, rfl, h1, h2, h3, h4, h5⟩ := id h
  cases A with
  | none =>
    obtain rfl : c = 0 := h4 rfl
    obtain rfl : l = [] := List.eq_nil_of_length_eq_zero (by omega)
    have hnil := fun w => Lib.run_eql_slice_nil (P := Try.prog) w 60 128 none 0 0 0 0 Try.underlying60
    have fin := Lib.hid (show Mine Rep.rd 128 w w (.slice none 0 0) [] from Mine.nil _ (Upd.refl _ _))
    clear h h3 h5
    go_enter Try.func82, Try.ntmps82
    go_wp2_with fail
    go_ret
    exact ⟨_, rfl, fin.out⟩
  | some a =>
    have hnil := fun w => Lib.run_eql_slice_nil (P := Try.prog) w 60 128 (some a) l.length c 0 0 Try.underlying60
    have hs : S a.block := (h5 a rfl).2.1
    have u0 : Upd NoB w (w.alloc (.cells #[] 128)) := (Upd.refl NoB w).alloc _
    have H := Lib.hid (h.upd u0 (fun b _ hf => hf))
    have H0 := Lib.hid (show Mine Rep.rd 128 w (w.alloc (.cells #[] 128)) (.slice (some ⟨w.heap.size, 0, none⟩) 0 0) [] from
      ⟨OSl.made (r := Rep.rd) (e := 128) (w := w) (S := grow NoB w (w.alloc (.cells #[] 128))) #[] 0 (by simp) (by decide) ⟨.inr (Nat.le_refl _), by simp⟩, u0⟩)
    have HB := Lib.hid H0.out.bd
    have HO := Lib.hid H0.out.1
    clear h h3 h5 h4
    go_enter Try.func82, Try.ntmps82
    go_wp2_with (at_builtin; go_must (refine app_all (r := Rep.rd) rfl _ _ 60 128 (.agg #[.string ⟨#[]⟩, .int .u64 0]) 24 rfl Try.underlying60 (iRd _ (by decide)) rfl (by decide) rfl rfl HO.out HB.out H.out (fun cs hc => Rows.flat flat_rd hc _ _) ?_ ?_))
    · simpa using hl
    · intro v1 w1 ho hu
      have fin := Lib.hid (H0.out.app ho hu)
      clear ho hu
      go_wp2_with fail
      go_ret
      exact ⟨_, rfl, by simpa using fin.out⟩
set_option maxHeartbeats 1000000 in
set_option maxRecDepth 100000 in
/-- slices.Clone of what is read: a row of its own. -/
theorem clonew_any {S : Nat → Prop} (v : Value) (l : List Wt) (w : World) (h : RSl Rep.wt w S v l) (hl : l.length * 40 ≤ 140737488355328) :
    Calls Try.prog 83 #[v] w fun e w' => ∃ v', e = .returned v' ∧ Mine Rep.wt 131 w w' v' l := by
  obtain ⟨A, c, cs, rfl, h1, h2, h3, h4, h5⟩ := id h
  cases A with
  | none =>
    obtain rfl : c = 0 := h4 rfl
    obtain rfl : l = [] := List.eq_nil_of_length_eq_zero (by omega)
    have hnil := fun w => Lib.run_eql_slice_nil (P := Try.prog) w 61 131 none 0 0 0 0 Try.underlying61
    have fin := Lib.hid (show Mine Rep.wt 131 w w (.slice none 0 0) [] from Mine.nil _ (Upd.refl _ _))
    clear h h3 h5
    go_enter Try.func83, Try.ntmps83
    go_wp2_with fail
    go_ret
    exact ⟨_, rfl, fin.out⟩
  | some a =>
    have hnil := fun w => Lib.run_eql_slice_nil (P := Try.prog) w 61 131 (some a) l.length c 0 0 Try.underlying61
    have hs : S a.block := (h5 a rfl).2.1
    have u0 : Upd NoB w (w.alloc (.cells #[] 131)) := (Upd.refl NoB w).alloc _
    have H := Lib.hid (h.upd u0 (fun b _ hf => hf))
    have H0 := Lib.hid (show Mine Rep.wt 131 w (w.alloc (.cells #[] 131)) (.slice (some ⟨w.heap.size, 0, none⟩) 0 0) [] from
      ⟨OSl.made (r := Rep.wt) (e := 131) (w := w) (S := grow NoB w (w.alloc (.cells #[] 131))) #[] 0 (by simp) (by decide) ⟨.inr (Nat.le_refl _), by simp⟩, u0⟩)
    have HB := Lib.hid H0.out.bd
    have HO := Lib.hid H0.out.1
    clear h h3 h5 h4
    go_enter Try.func83, Try.ntmps83
    go_wp2_with (at_builtin; go_must (refine app_all (r := Rep.wt) rfl _ _ 61 131 (.agg #[.string ⟨#[]⟩, .string ⟨#[]⟩, .bool false]) 40 rfl Try.underlying61 (iWt _ (by decide)) rfl (by decide) rfl rfl HO.out HB.out H.out (fun cs hc => Rows.flat flat_wt hc _ _) ?_ ?_))
    · simpa using hl
    · intro v1 w1 ho hu
      have fin := Lib.hid (H0.out.app ho hu)
      clear ho hu
      go_wp2_with fail
      go_ret
      exact ⟨_, rfl, by simpa using fin.out⟩
/-- What a row's cells tell. -/
theorem ten_at {S : Nat → Prop} {w wr : World} {v : Value} {l : List Ent} {A : Option Addr} {n cc : Nat} (h : RSl Rep.ent w S (.slice A n cc) l) (u : Upd NoB w wr) (k : Nat) (hk : k < l.length) :
    ∃ g o A1 B1 c1 d1, A = some ⟨g, o, none⟩ ∧ RSl Rep.rd wr S (.slice A1 (l[k]'hk).rd.length c1) (l[k]'hk).rd ∧ RSl Rep.wt wr S (.slice B1 (l[k]'hk).wr.length d1) (l[k]'hk).wr ∧
      wr.cell? ⟨g, o + k * 10, none⟩ = some (.int .u64 (l[k]'hk).ep) ∧ wr.cell? ⟨g, o + k * 10 + 1, none⟩ = some (.int .i64 (l[k]'hk).kd) ∧ wr.cell? ⟨g, o + k * 10 + 2, none⟩ = some (.int .i64 (l[k]'hk).tc) ∧ wr.cell? ⟨g, o + k * 10 + 3, none⟩ = some (.int .u64 (l[k]'hk).tq) ∧ wr.cell? ⟨g, o + k * 10 + 4, none⟩ = some (.bool (l[k]'hk).pl) ∧
      wr.cell? ⟨g, o + k * 10 + 5, none⟩ = some (.slice A1 (l[k]'hk).rd.length c1) ∧ wr.cell? ⟨g, o + k * 10 + 6, none⟩ = some (.slice B1 (l[k]'hk).wr.length d1) ∧ wr.cell? ⟨g, o + k * 10 + 7, none⟩ = some (.int .i64 (l[k]'hk).ec) ∧ wr.cell? ⟨g, o + k * 10 + 8, none⟩ = some (.int .u64 (l[k]'hk).eq) ∧ wr.cell? ⟨g, o + k * 10 + 9, none⟩ = some (.int .i64 (l[k]'hk).cd) := by
  obtain ⟨g, o, cc, rfl, hr, hc, _⟩ := h.cellN k hk
  obtain ⟨A1, B1, c1, d1, rfl, h1, h2⟩ := ent_list hr
  rw [show Rep.ent.sz = 10 from rfl] at hc
  exact ⟨g, o, A1, B1, c1, d1, rfl, h1.upd u (fun _ _ h => h), h2.upd u (fun _ _ h => h), u.cell (hc 0 _ rfl) (fun h => h), u.cell (hc 1 _ rfl) (fun h => h), u.cell (hc 2 _ rfl) (fun h => h), u.cell (hc 3 _ rfl) (fun h => h), u.cell (hc 4 _ rfl) (fun h => h), u.cell (hc 5 _ rfl) (fun h => h), u.cell (hc 6 _ rfl) (fun h => h), u.cell (hc 7 _ rfl) (fun h => h), u.cell (hc 8 _ rfl) (fun h => h), u.cell (hc 9 _ rfl) (fun h => h)⟩
theorem Mine.own_lt {w wr : World} {v : Value} {l : List Ent} {e : TypeId} (h : Mine Rep.ent e w wr v l) (b : Nat) (hb : v.ownBlock = some b) : b < wr.heap.size := by
  obtain ⟨_, _, hset, _⟩ := h.1
  exact (hset b hb).2
set_option maxHeartbeats 8000000 in
set_option maxRecDepth 100000 in
theorem eplainl_any {S : Nat → Prop} (v : Value) (l : List Ent) (w : World) (h : RSl Rep.ent w S v l) (hl : l.length ≤ 100000) (hs : ∀ x ∈ l, x.small) :
    Calls Try.prog 47 #[v] w fun e w' => ∃ v', e = .returned v' ∧ Mine Rep.ent 72 w w' v' l := by
  have HR := Lib.hid h
  have HS := Lib.hid hs
  have HU0 := Lib.hid (Upd.refl NoB w)
  obtain ⟨A, c, _, rfl, _⟩ := h
  go_enter Try.func47, Try.ntmps47
  go_wp2_with fail
  go_loopw [3, 8] (fun x3 x8 wr => ∃ k : Nat, k ≤ l.length ∧ x8 = .int .i64 k ∧ Hid (Mine Rep.ent 72 w wr x3 (l.take k))) (fun _ x8 _ => l.length - (intOf x8).toNat)
  case atStart => exact ⟨0, by omega, rfl, Lib.hid (Mine.nil _ HU0.out)⟩
  case round =>
    obtain ⟨k, hk, rfl, hM⟩ := hrel
    by_cases hlt : k < l.length
    · have hdl : decide (k < l.length) = true := decide_eq_true hlt
      obtain ⟨g, o, A1, B1, m1, m2, rfl, hr1, hr2, c0, c1, c2, c3, c4, c5, c6, c7, c8, c9⟩ := ten_at (v := .bool true) HR.out hM.out.2 k hlt
      have hsm := HS.out _ (List.getElem_mem hlt)
      have hln := Lib.hid (show l.take (k + 1) = l.take k ++ [l[k]'hlt] by
        rw [List.take_add_one, List.getElem?_eq_getElem hlt]; rfl)
      have hlen : (l.take k).length ≤ 100000 := by rw [List.length_take]; omega
      generalize l[k]'hlt = x at *
      have hall : ((l.take k).length + 1) * 112 ≤ 140737488355328 := by omega
      generalize l.take k = L at *
      have hco := Lib.hid (fun z (hz : Upd NoB wr z) => eplain_any x A1 B1 m1 m2 z (.inr (hr1.upd hz (fun _ _ h => h))) (.inr (hr2.upd hz (fun _ _ h => h))) hsm.1 hsm.2)
      have HA := Lib.hid (fun w2 (hu : Upd NoB wr w2) => hM.out.upd hu)
      have HUa := Lib.hid (fun o => (Upd.refl NoB wr).alloc o)
      clear hlen hr1 hr2 hsm
      go_wp2_with fail
      refine (hco.out _ (HUa.out _)).mono ?_
      rintro e w2 ⟨cs, rfl, hre, hu⟩
      have hM2 := Lib.hid (HA.out w2 ((HUa.out _).trans hu))
      have HO := Lib.hid hM2.out.1
      have HB := Lib.hid hM2.out.bd
      have HT := Lib.hid (fun b (hb : grow NoB wr w2 b) => show grow NoB w w2 b ∧ u3.ownBlock ≠ some b from ⟨⟨.inr (by have := (grow_old hb).1; have h9 := hM.out.2.size; omega), hb.2⟩, fun e => by have := (grow_old hb).1; have := Mine.own_lt hM.out b e; omega⟩)
      obtain ⟨A2, B2, n1, n2, rfl, _⟩ := ent_agg hre
      have hy := Lib.hid (Rep.ent_mono hre (fun b hb => grow_early (HUa.out _).size b hb))
      clear hu hre c0 c1 c2 c3 c4 c5 c6 c7 c8 c9
      go_wp2_with (at_builtin; go_must (refine app_one (r := Rep.ent) (v := u3) (y := x) rfl _ _ 56 72 (.agg #[.int .u64 0, .int .i64 0, .int .i64 0, .int .u64 0, .bool false, .slice none 0 0, .slice none 0 0, .int .i64 0, .int .u64 0, .int .i64 0]) 112 rfl Try.underlying56 (iEnt _ (by decide)) rfl (by decide) rfl rfl HO.out HB.out hy.out HT.out hall ?_))
      intro v1 w3 ho2 hu2
      have fin := Lib.hid (hM2.out.app ho2 hu2)
      clear ho2 hu2
      go_wp2_with fail
      go_roundw
      case measure => simp [intOf]; omega
      case rel => exact ⟨k + 1, by omega, by go_num, Lib.hid (by rw [hln.out]; exact fin.out)⟩
    · obtain rfl : k = l.length := by omega
      have hdl : decide (l.length < l.length) = false := by simp
      have fin := Lib.hid (show Mine Rep.ent 72 w wr u3 l by
        have := hM.out
        rwa [List.take_length] at this)
      go_wp2_with fail
      go_ret
      exact ⟨_, rfl, fin.out⟩
set_option maxHeartbeats 8000000 in
set_option maxRecDepth 100000 in
theorem ecopied_any {S : Nat → Prop} (x : Ent) (A B : Option Addr) (c d : Nat) (w : World) (h1 : RSl Rep.rd w S (.slice A x.rd.length c) x.rd) (h2 : RSl Rep.wt w S (.slice B x.wr.length d) x.wr) (hn : x.small) :
    Calls Try.prog 64 #[.agg #[.int .u64 x.ep, .int .i64 x.kd, .int .i64 x.tc, .int .u64 x.tq, .bool x.pl, .slice A x.rd.length c, .slice B x.wr.length d, .int .i64 x.ec, .int .u64 x.eq, .int .i64 x.cd]] w fun e w' => ∃ cs, e = .returned (.agg cs) ∧ Rep.ent.rep w' (grow NoB w w') x cs.toList ∧ Upd NoB w w' := by
  obtain ⟨wa, hwa0, hua, hb0⟩ := two_world w #[.int .u64 x.ep, .int .i64 x.kd, .int .i64 x.tc, .int .u64 x.tq, .bool x.pl, .slice A x.rd.length c, .slice B x.wr.length d, .int .i64 x.ec, .int .u64 x.eq, .int .i64 x.cd] #[.int .u64 0, .int .i64 0, .int .i64 0, .int .u64 0, .bool false, .slice none 0 0, .slice none 0 0, .int .i64 0, .int .u64 0, .int .i64 0] 65 65
  have hwa := Lib.hid hwa0
  have HUa := Lib.hid hua
  have hcr := Lib.hid (fun z (hz : Upd NoB w z) => cloner_any _ x.rd z (h1.upd hz (fun _ _ h => h)) (by have := hn.1; omega))
  have hcw := Lib.hid (fun z (hz : Upd NoB w z) => clonew_any _ x.wr z (h2.upd hz (fun _ _ h => h)) (by have := hn.2; omega))
  have hb := Lib.hid (fun y hy => ten_cells (hb0 y hy).1)
  have hbh := Lib.hid (fun y hy => (hb0 y hy).1)
  have hf := Lib.hid (fun y (hy : Upd NoB wa y) => show ∀ i, World.frozen? y ⟨w.heap.size, i, none⟩ = false from fun i => by simp [World.frozen?, (hb0 y hy).1])
  have hzh := Lib.hid (fun y hy => (hb0 y hy).2)
  have hns := Lib.hid (lt_of_heap (hb0 wa (Upd.refl _ _)).2)
  have hsg := Lib.hid (fun (y z : World) (hy : Upd (fun b => b = w.heap.size ∨ b = w.heap.size + 1) y z) (i : Nat) (u : Value) => hy.setCell (p := ⟨w.heap.size + 1, i, none⟩) (fun _ => .inr rfl) u)
  clear hwa0 hua hb0 h1 h2 hn
  go_enter Try.func64, Try.ntmps64
  go_wp2_with fail
  rw [hwa.out]
  refine sched2_begin NoB (fun b => b = w.heap.size) [10, 13] (by kernel_rfl) ?_
  have HUd := Lib.hid (Upd.refl NoB wa).drew
  refine sched2_take 0 rfl (by kernel_rfl) (by kernel_rfl) (by kernel_rfl) (by kernel_rfl) (by kernel_rfl) (fun _ _ _ h => h) (.inl ⟨rfl, fun x hx => by obtain ⟨y0, y1, y2, y3, y4, y5, y6, y7, y8, y9⟩ := hb.out x (HUd.out.trans hx); go_simp; rfl⟩) ?_
  go_simp
  refine sched2_take 1 rfl (by kernel_rfl) (by kernel_rfl) (by kernel_rfl) (by kernel_rfl) (by kernel_rfl) (fun _ _ _ h => h) (.inl ⟨rfl, fun x hx => by obtain ⟨y0, y1, y2, y3, y4, y5, y6, y7, y8, y9⟩ := hb.out x (HUd.out.trans hx); go_simp; rfl⟩) ?_
  go_simp
  refine sched2_take 2 rfl (by kernel_rfl) (by kernel_rfl) (by kernel_rfl) (by kernel_rfl) (by kernel_rfl) (fun _ _ _ h => h) (.inl ⟨rfl, fun x hx => by obtain ⟨y0, y1, y2, y3, y4, y5, y6, y7, y8, y9⟩ := hb.out x (HUd.out.trans hx); go_simp; rfl⟩) ?_
  go_simp
  refine sched2_take 4 rfl (by kernel_rfl) (by kernel_rfl) (by kernel_rfl) (by kernel_rfl) (by kernel_rfl) (fun _ _ _ h => h) (.inl ⟨rfl, fun x hx => by obtain ⟨y0, y1, y2, y3, y4, y5, y6, y7, y8, y9⟩ := hb.out x (HUd.out.trans hx); go_simp; rfl⟩) ?_
  go_simp
  refine sched2_take 5 rfl (by kernel_rfl) (by kernel_rfl) (by kernel_rfl) (by kernel_rfl) (by kernel_rfl) (fun _ _ _ h => h) (.inl ⟨rfl, fun x hx => by obtain ⟨y0, y1, y2, y3, y4, y5, y6, y7, y8, y9⟩ := hb.out x (HUd.out.trans hx); go_simp; rfl⟩) ?_
  go_simp
  refine sched2_take 6 rfl (by kernel_rfl) (by kernel_rfl) (by kernel_rfl) (by kernel_rfl) (by kernel_rfl) (fun _ _ _ h => h) (.inl ⟨rfl, fun x hx => by obtain ⟨y0, y1, y2, y3, y4, y5, y6, y7, y8, y9⟩ := hb.out x (HUd.out.trans hx); go_simp; rfl⟩) ?_
  go_simp
  refine sched2_alone 3 (by kernel_rfl) rfl rfl ?_
  go_simp
  refine (hcr.out _ (HUa.out.trans HUd.out)).mono ?_
  rintro e w1 ⟨va, rfl, hMa⟩
  refine ⟨both hMa.2 (fun _ h => h.elim), ?_⟩
  have HU1 := Lib.hid (HUd.out.trans hMa.2)
  have HMa := Lib.hid hMa
  obtain ⟨A1, k1, _, e1, _⟩ := hMa.1.read
  subst e1
  clear hMa
  go_simp
  refine sched2_take 8 rfl (by kernel_rfl) (by kernel_rfl) (by kernel_rfl) (by kernel_rfl) (by kernel_rfl) (fun _ _ _ h => h) (.inl ⟨rfl, fun x hx => by go_simp; rfl⟩) ?_
  go_simp
  refine sched2_take 9 rfl (by kernel_rfl) (by kernel_rfl) (by kernel_rfl) (by kernel_rfl) (by kernel_rfl) (fun _ _ _ h => h) (.inl ⟨rfl, fun x hx => by go_simp; rfl⟩) ?_
  go_simp
  refine sched2_alone 7 (by kernel_rfl) rfl rfl ?_
  go_simp
  refine (hcw.out _ (HUa.out.trans HU1.out)).mono ?_
  rintro e w2 ⟨vb, rfl, hMb⟩
  refine ⟨both hMb.2 (fun _ h => h.elim), ?_⟩
  have HU2 := Lib.hid (HU1.out.trans hMb.2)
  have HMa2 := Lib.hid (HMa.out.upd hMb.2)
  have HMb := Lib.hid hMb
  obtain ⟨A2, k2, _, e2, _⟩ := hMb.1.read
  subst e2
  have hs1 := Lib.hid (Nat.le_trans hns.out HUd.out.size)
  have hs2 := Lib.hid (Nat.le_trans hns.out HU1.out.size)
  clear hMb
  obtain ⟨y0, y1, y2, y3, y4, y5, y6, y7, y8, y9⟩ := hb.out w2 HU2.out
  have f := hf.out w2 HU2.out
  go_simp
  refine sched2_alone 10 (by kernel_rfl) rfl rfl ?_
  go_simp
  refine ⟨⟨((Upd.refl (fun b => b = w.heap.size) w2).setCell (p := ⟨w.heap.size, 5, none⟩) (fun _ => rfl) _), fun hn => ?_⟩, ?_⟩
  · have := hn 10 (by simp)
    simp at this
  refine sched2_alone 11 (by kernel_rfl) rfl rfl ?_
  go_simp
  refine ⟨⟨Upd.refl _ _, fun _ => Upd.refl _ _⟩, ?_⟩
  refine sched2_alone 12 (by kernel_rfl) rfl rfl ?_
  go_simp
  refine ⟨⟨Upd.refl _ _, fun _ => Upd.refl _ _⟩, ?_⟩
  refine sched2_alone 13 (by kernel_rfl) rfl rfl ?_
  go_simp
  refine ⟨⟨((Upd.refl (fun b => b = w.heap.size) _).setCell (p := ⟨w.heap.size, 6, none⟩) (fun _ => rfl) _), fun hn => ?_⟩, ?_⟩
  · have := hn 10 (by simp)
    simp at this
  refine sched2_done (by kernel_rfl) ?_
  have hp0 := heap_put2 (heap_put2 (hbh.out w2 HU2.out) 5 (.slice A1 x.rd.length k1)) 6 (.slice A2 x.wr.length k2)
  have hp1 : ((w2.setCell ⟨w.heap.size, 5, none⟩ (.slice A1 x.rd.length k1)).setCell ⟨w.heap.size, 6, none⟩ (.slice A2 x.wr.length k2)).heap[w.heap.size]? = some (.cells #[.int .u64 x.ep, .int .i64 x.kd, .int .i64 x.tc, .int .u64 x.tq, .bool x.pl, .slice A1 x.rd.length k1, .slice A2 x.wr.length k2, .int .i64 x.ec, .int .u64 x.eq, .int .i64 x.cd] 65 (0, 0)) := by simpa using hp0
  have u3 : Upd (fun b => b = w.heap.size) w2 ((w2.setCell ⟨w.heap.size, 5, none⟩ (.slice A1 x.rd.length k1)).setCell ⟨w.heap.size, 6, none⟩ (.slice A2 x.wr.length k2)) := ((Upd.refl (fun b => b = w.heap.size) w2).setCell (p := ⟨w.heap.size, 5, none⟩) (fun _ => rfl) _).setCell (p := ⟨w.heap.size, 6, none⟩) (fun _ => rfl) _
  obtain ⟨w3, hw3⟩ : ∃ w3, (w2.setCell ⟨w.heap.size, 5, none⟩ (.slice A1 x.rd.length k1)).setCell ⟨w.heap.size, 6, none⟩ (.slice A2 x.wr.length k2) = w3 := ⟨_, rfl⟩
  rw [hw3] at hp1 u3 ⊢
  clear y0 y1 y2 y3 y4 y5 y6 y7 y8 y9 f hw3 hp0
  obtain ⟨y0, y1, y2, y3, y4, y5, y6, y7, y8, y9⟩ := ten_cells hp1
  have hz3 := u3.heap (hzh.out w2 HU2.out) (fun e => by omega)
  obtain ⟨z0, z1, z2, z3, z4, z5, z6, z7, z8, z9⟩ := ten_cells hz3
  have zf : ∀ i, w3.frozen? ⟨w.heap.size + 1, i, none⟩ = false := fun i => by simp [World.frozen?, hz3]
  have F0 := Lib.hid (fun y (hy : Upd (fun b => b = w.heap.size ∨ b = w.heap.size + 1) w3 y) => show Upd (fun b => b = w.heap.size ∨ b = w.heap.size + 1) w2 y from (u3.mono (fun _ _ h => .inl h)).trans hy)
  have F1 := Lib.hid (fun y (hy : Upd (fun b => b = w.heap.size ∨ b = w.heap.size + 1) w3 y) => show RSl Rep.rd y (grow NoB w y) (.slice A1 x.rd.length k1) x.rd from
    (HMa2.out.1.read.upd (F0.out y hy) (fun b hb f => by have := (grow_old hb).1; have := hs1.out; rcases f with f | f <;> omega)).mono (fun b hb => ⟨.inr (by have := (grow_old hb).1; have := hs1.out; omega), Nat.lt_of_lt_of_le hb.2 (F0.out y hy).size⟩))
  have F2 := Lib.hid (fun y (hy : Upd (fun b => b = w.heap.size ∨ b = w.heap.size + 1) w3 y) => show RSl Rep.wt y (grow NoB w y) (.slice A2 x.wr.length k2) x.wr from
    (HMb.out.1.read.upd (F0.out y hy) (fun b hb f => by have := (grow_old hb).1; have := hs2.out; rcases f with f | f <;> omega)).mono (fun b hb => ⟨.inr (by have := (grow_old hb).1; have := hs2.out; omega), Nat.lt_of_lt_of_le hb.2 (F0.out y hy).size⟩))
  have F3 := Lib.hid (fun y (hy : Upd (fun b => b = w.heap.size ∨ b = w.heap.size + 1) w3 y) => show Upd NoB w y from (HUa.out.trans HU2.out).then (F0.out y hy) (fun i hi e => by rcases e with e | e <;> omega))
  have U10 := Lib.hid (fun a0 a1 a2 a3 a4 a5 a6 a7 a8 a9 => hsg.out _ _ (hsg.out _ _ (hsg.out _ _ (hsg.out _ _ (hsg.out _ _ (hsg.out _ _ (hsg.out _ _ (hsg.out _ _ (hsg.out _ _ (hsg.out _ _ (Upd.refl _ w3) 0 a0) 1 a1) 2 a2) 3 a3) 4 a4) 5 a5) 6 a6) 7 a7) 8 a8) 9 a9)
  generalize hn1 : x.rd.length = n1 at *
  generalize hn2 : x.wr.length = n2 at *
  clear hn1 hn2 hz3 hp1 u3
  go_wp2_with fail
  exact bodyPost_ret (v := .agg #[.int .u64 x.ep, .int .i64 x.kd, .int .i64 x.tc, .int .u64 x.tq, .bool x.pl, .slice A1 n1 k1, .slice A2 n2 k2, .int .i64 x.ec, .int .u64 x.eq, .int .i64 x.cd]) (by simp [results, Try.results64, go_sem, *]) rfl ⟨_, rfl, ⟨_, _, rfl, F1.out _ (U10.out _ _ _ _ _ _ _ _ _ _), F2.out _ (U10.out _ _ _ _ _ _ _ _ _ _)⟩, F3.out _ (U10.out _ _ _ _ _ _ _ _ _ _)⟩
end Go.Proofs.Ytobfolkcpfaplaa
