/- A log of entries that end something, function by function (3): one more. -/
import Derived.Test.YtobfolkcpfaplaaLink2
namespace Go.Proofs.Ytobfolkcpfaplaa
open Go.RowKit Kit
set_option linter.unusedVariables false
theorem iFin : (Try.prog.info? 65).map (fun i => (i.zero, i.size, i.bytes)) = some (some (.agg #[.int .u64 0, .int .i64 0, .int .i64 0, .int .u64 0, .bool false, .slice none 0 0, .slice none 0 0, .int .i64 0, .int .u64 0, .int .i64 0]), 10, 112) := by kernel_rfl
theorem heap_put {w : World} {p : Nat} {T : TypeId} {cs : Array Value} {fr : Nat × Nat} (h : w.heap[p]? = some (.cells cs T fr)) (i : Nat) (u : Value) : (w.setCell ⟨p, i, none⟩ u).heap[p]? = some (.cells (cs.setIfInBounds i u) T fr) := by
  simp only [World.setCell, Array.getElem?_modify, if_true, h]
  rfl
theorem add_nil (ep sq : Int) (w : World) : Calls Try.prog 37 #[.pointer none, finV ep sq] w fun e w' => e = .returned (.int .i64 2) ∧ Upd NoB w w' := by
  have HU := Lib.hid (fun o => (Upd.refl NoB w).alloc o)
  unfold finV
  go_enter Try.func37, Try.ntmps37
  go_wp2_with fail
  go_ret
  exact ⟨rfl, HU.out _⟩
set_option maxHeartbeats 8000000 in
set_option maxRecDepth 100000 in
theorem add_any (w0 : World) (xs : List Nat) (p : Nat) (l : List Fin) (ep sq : Int) (w : World) (h : Ll w0 w xs p l) (he : 0 < ep) (hs : 0 < sq) (hle : epL l l.length ≤ ep) (hl : l.length < 400)
    (hp : p ∈ xs) (hxs : ∀ x ∈ xs, x < w.heap.size) (h0 : w0.heap.size ≤ w.heap.size) :
    Calls Try.prog 37 #[.pointer (some ⟨p, 0, none⟩), finV ep sq] w fun e w' => e = .returned (.int .i64 0) ∧ Ll w0 w' xs p (l ++ [⟨ep, sq⟩]) ∧ Upd (fun b => b = p ∨ New w0 w xs b) w w' := by
  have HK := Lib.hid (fun x (hx : Upd NoB w x) => h.keep hx (fun h => h) (fun _ h => h.elim))
  obtain ⟨v, h1, h2⟩ := id h
  obtain ⟨wa, hwa0⟩ : ∃ wa, w.alloc (.cells #[.int .u64 ep, .int .i64 2, .int .i64 0, .int .u64 0, .bool false, .slice none 0 0, .slice none 0 0, .int .i64 0, .int .u64 sq, .int .i64 0] 65) = wa := ⟨_, rfl⟩
  have hua : Upd NoB w wa := by rw [← hwa0]; exact (Upd.refl _ _).alloc _
  have hA : wa.heap[w.heap.size]? = some (.cells #[.int .u64 ep, .int .i64 2, .int .i64 0, .int .u64 0, .bool false, .slice none 0 0, .slice none 0 0, .int .i64 0, .int .u64 sq, .int .i64 0] 65 (0, 0)) := by rw [← hwa0]; exact heap_alloc_new _ _
  have hwa := Lib.hid hwa0
  have H1 := Lib.hid (hua.heap h1 (fun h => h))
  have hb := Lib.hid (fun x (hx : Upd NoB wa x) => ten_cells (hx.heap hA (fun h => h)))
  have hri := Lib.hid (fun w => right_any ep sq w he hs)
  have hco := Lib.hid (copied_any ep sq)
  have hln := Lib.hid (fun w1 (hu : Upd NoB wa w1) => len_any w0 xs p l w1 (HK.out _ (hua.trans hu)))
  have hep := Lib.hid (fun w1 (hu : Upd NoB wa w1) => epoch_any w0 xs p l l.length w1 (HK.out _ (hua.trans hu)) (by omega))
  have HO := Lib.hid (fun x (hx : Upd NoB w x) => h2.new_keep hx (fun _ h => h.elim))
  have hown := Lib.hid (fun k (hk : v.ownBlock = some k) => h2.new_own k hk)
  have HUa := Lib.hid hua
  have hplt := lt_of_heap h1
  have hslt : w.heap.size < wa.heap.size := lt_of_heap hA
  obtain ⟨A, c, _, rfl, _⟩ := h2.read
  have d1 : decide (ep < epL l l.length) = false := decide_eq_false (by omega)
  have d2 : decide ((400 : Int) ≤ l.length) = false := decide_eq_false (by omega)
  have hl2 := Lib.hid hl
  generalize epL l l.length = E at *
  clear h h1 h2 hua hA hwa0 he hs hle hl
  unfold finV at *
  go_enter Try.func37, Try.ntmps37
  go_wp2_with fail
  rw [hwa.out]
  clear hwa
  refine sched_begin NoB (by kernel_rfl) ?_
  have HU0 := Lib.hid (Upd.refl NoB wa).drew
  refine sched_take 0 rfl (by kernel_rfl) (by kernel_rfl) (by kernel_rfl) (fun _ _ _ h => h) rfl (fun x hx => by obtain ⟨y0, y1, y2, y3, y4, y5, y6, y7, y8, y9⟩ := hb.out x (HU0.out.trans hx); go_simp; rfl) ?_
  go_simp
  refine sched_alone 1 (by kernel_rfl) rfl rfl ?_
  go_simp
  refine (hri.out _).mono ?_
  rintro e w1 ⟨rfl, hu⟩
  refine ⟨hu, ?_⟩
  have HU1 := Lib.hid (HU0.out.trans hu)
  clear hu
  go_simp
  refine sched_take 2 rfl (by kernel_rfl) (by kernel_rfl) (by kernel_rfl) (fun _ _ _ h => h) rfl (fun x hx => by go_simp; rfl) ?_
  go_simp
  refine sched_take 3 rfl (by kernel_rfl) (by kernel_rfl) (by kernel_rfl) (fun _ _ _ h => h) rfl (fun x hx => by go_simp; rfl) ?_
  go_simp
  refine sched_take 4 rfl (by kernel_rfl) (by kernel_rfl) (by kernel_rfl) (fun _ _ _ h => h) rfl (fun x hx => by obtain ⟨y0, y1, y2, y3, y4, y5, y6, y7, y8, y9⟩ := hb.out x (HU1.out.trans hx); go_simp; rfl) ?_
  go_simp
  refine sched_take 5 rfl (by kernel_rfl) (by kernel_rfl) (by kernel_rfl) (fun _ _ _ h => h) rfl (fun x hx => by obtain ⟨y0, y1, y2, y3, y4, y5, y6, y7, y8, y9⟩ := hb.out x (HU1.out.trans hx); go_simp; rfl) ?_
  go_simp
  refine sched_take 6 rfl (by kernel_rfl) (by kernel_rfl) (by kernel_rfl) (fun _ _ _ h => h) rfl (fun x hx => by obtain ⟨y0, y1, y2, y3, y4, y5, y6, y7, y8, y9⟩ := hb.out x (HU1.out.trans hx); go_simp; rfl) ?_
  go_simp
  refine sched_take 7 rfl (by kernel_rfl) (by kernel_rfl) (by kernel_rfl) (fun _ _ _ h => h) rfl (fun x hx => by obtain ⟨y0, y1, y2, y3, y4, y5, y6, y7, y8, y9⟩ := hb.out x (HU1.out.trans hx); go_simp; rfl) ?_
  go_simp
  refine sched_alone 8 (by kernel_rfl) rfl rfl ?_
  go_simp
  refine (hln.out _ HU1.out).mono ?_
  rintro e w2 ⟨rfl, hu⟩
  refine ⟨hu, ?_⟩
  have HU2 := Lib.hid (HU1.out.trans hu)
  clear hu
  go_simp
  refine sched_alone 9 (by kernel_rfl) rfl rfl ?_
  go_simp
  refine (hep.out _ HU2.out).mono ?_
  rintro e w3 ⟨rfl, hu⟩
  refine ⟨hu, ?_⟩
  have HU3 := Lib.hid (HU2.out.trans hu)
  clear hu
  go_simp
  refine sched_take 10 rfl (by kernel_rfl) (by kernel_rfl) (by kernel_rfl) (fun _ _ _ h => h) rfl (fun x hx => by go_simp; rfl) ?_
  go_simp
  refine sched_take 11 rfl (by kernel_rfl) (by kernel_rfl) (by kernel_rfl) (fun _ _ _ h => h) rfl (fun x hx => by go_simp; rfl) ?_
  go_simp
  refine sched_take 12 rfl (by kernel_rfl) (by kernel_rfl) (by kernel_rfl) (fun _ _ _ h => h) rfl (fun x hx => by go_simp; rfl) ?_
  go_simp
  refine sched_done (by kernel_rfl) ?_
  go_wp2_with fail
  refine (hln.out _ HU3.out).mono ?_
  rintro e w4 ⟨rfl, hu⟩
  have HU4 := Lib.hid (HU3.out.trans hu)
  clear hu
  go_wp2_with fail
  refine sched2_begin (fun b => (Value.slice A l.length c).ownBlock = some b) (fun b => b = p ∨ (Value.slice A l.length c).ownBlock = some b) [11] (by kernel_rfl) ?_
  have HU4d := Lib.hid HU4.out.drew
  have hP0 := Lib.hid (one_cell (HU4d.out.heap H1.out (fun h => h)))
  have hB0 := Lib.hid (hb.out _ HU4d.out)
  have hnp : ¬ (Value.slice A l.length c).ownBlock = some p := fun e => (hown.out p e).2.2 hp
  have hns : ¬ (Value.slice A l.length c).ownBlock = some w.heap.size := fun e => by have := (hown.out _ e).2.1; omega
  generalize hwd : w4.drew = wd at *
  clear hwd
  refine sched2_take 0 rfl (by kernel_rfl) (by kernel_rfl) (by kernel_rfl) (by kernel_rfl) (by kernel_rfl) (fun _ _ _ h => h) (.inl ⟨rfl, fun x hx => by go_simp; rfl⟩) ?_
  go_simp
  refine sched2_take 1 rfl (by kernel_rfl) (by kernel_rfl) (by kernel_rfl) (by kernel_rfl) (by kernel_rfl) (fun _ _ _ h => h) (.inl ⟨rfl, fun x hx => by go_simp; rfl⟩) ?_
  go_simp
  refine sched2_take 2 rfl (by kernel_rfl) (by kernel_rfl) (by kernel_rfl) (by kernel_rfl) (by kernel_rfl) (fun _ _ _ h => h) (.inl ⟨rfl, fun x hx => by go_simp; rfl⟩) ?_
  go_simp
  refine sched2_take 3 rfl (by kernel_rfl) (by kernel_rfl) (by kernel_rfl) (by kernel_rfl) (by kernel_rfl) (fun _ _ _ h => h) (.inl ⟨rfl, fun x hx => by go_simp; rfl⟩) ?_
  go_simp
  refine sched2_take 4 rfl (by kernel_rfl) (by kernel_rfl) (by kernel_rfl) (by kernel_rfl) (by kernel_rfl) (fun _ _ _ h => h) (.inl ⟨rfl, fun x hx => by have hcx := hx.cell hP0.out hnp; go_simp; rfl⟩) ?_
  go_simp
  refine sched2_take 5 rfl (by kernel_rfl) (by kernel_rfl) (by kernel_rfl) (by kernel_rfl) (by kernel_rfl) (fun _ _ _ h => h) (.inl ⟨rfl, fun x hx => by obtain ⟨y0, y1, y2, y3, y4, y5, y6, y7, y8, y9⟩ := hB0.out; replace y0 := hx.cell y0 hns; replace y1 := hx.cell y1 hns; replace y2 := hx.cell y2 hns; replace y3 := hx.cell y3 hns; replace y4 := hx.cell y4 hns; replace y5 := hx.cell y5 hns; replace y6 := hx.cell y6 hns; replace y7 := hx.cell y7 hns; replace y8 := hx.cell y8 hns; replace y9 := hx.cell y9 hns; go_simp; rfl⟩) ?_
  go_simp
  refine sched2_alone 6 (by kernel_rfl) rfl rfl ?_
  go_simp
  refine (hco.out _).mono ?_
  rintro e w6 ⟨rfl, hu⟩
  refine ⟨both (hu.mono (fun _ _ h => h.elim)) (fun _ h => .inr h), ?_⟩
  have HU6 := Lib.hid (HU4d.out.trans hu)
  clear hu
  go_simp
  refine sched2_alone 7 (by kernel_rfl) rfl rfl ?_
  go_simp
  refine ⟨both ((Upd.refl _ _).alloc _) (fun _ h => .inr h), ?_⟩
  go_simp
  have HY := Lib.hid (show Rep.fin.rep w6 NoB ⟨ep, sq⟩ (#[.int .u64 ep, .int .i64 2, .int .i64 0, .int .u64 0, .bool false, .slice none 0 0, .slice none 0 0, .int .i64 0, .int .u64 sq, .int .i64 0] : Array Value).toList from rfl)
  have hwsz := HUa.out.size
  have hz6 := HU6.out.size
  have HO7 := Lib.hid (HO.out w6 (HUa.out.trans HU6.out))
  have HB7 := Lib.hid (New.bd w0 w6 xs)
  have hall : (l.length + 1) * 112 ≤ 140737488355328 := by have := hl2.out; omega
  refine sched2_law 8 (by kernel_rfl) rfl rfl ?_
  go_simp
  at_builtin
  refine app_one' (r := Rep.fin) (v := .slice A l.length c) (y := ⟨ep, sq⟩) rfl _ _ 59 65 (.agg #[.int .u64 0, .int .i64 0, .int .i64 0, .int .u64 0, .bool false, .slice none 0 0, .slice none 0 0, .int .i64 0, .int .u64 0, .int .i64 0]) 112 rfl Try.underlying59 iFin rfl (by decide) rfl rfl HO7.out HB7.out HY.out (fun _ h => h.elim) hall ?_
  intro v1 w9 ho2 hu2 hu3
  refine law_done ⟨both hu3 (fun _ h => .inr h), ?_⟩
  have HN := Lib.hid (ho2.new_app (by omega) (fun x hx => by have := hxs x hx; omega))
  have HU9 := Lib.hid hu2
  have g1 := hu2.heap (HU6.out.heap H1.out (fun h => h)) hnp
  have G1 := Lib.hid g1
  have f0 : w9.frozen? ⟨p, 0, none⟩ = false := by simp [World.frozen?, g1]
  have k0 : w9.cell? ⟨p, 0, none⟩ = some (.slice A l.length c) := one_cell g1
  obtain ⟨A1, c1, _, e1, _⟩ := HN.out.read
  rw [List.length_append, List.length_singleton] at e1
  subst e1
  clear ho2 hu2 hu3 g1
  go_simp
  refine sched2_take 9 rfl (by kernel_rfl) (by kernel_rfl) (by kernel_rfl) (by kernel_rfl) (by kernel_rfl) (fun _ _ _ h => h) (.inl ⟨rfl, fun x hx => by go_simp; rfl⟩) ?_
  go_simp
  refine sched2_take 10 rfl (by kernel_rfl) (by kernel_rfl) (by kernel_rfl) (by kernel_rfl) (by kernel_rfl) (fun _ _ _ h => h) (.inl ⟨rfl, fun x hx => by go_simp; rfl⟩) ?_
  go_simp
  refine sched2_alone 11 (by kernel_rfl) rfl rfl ?_
  go_simp
  refine ⟨⟨((Upd.refl _ w9).setCell (p := ⟨p, 0, none⟩) (fun _ => .inl rfl) _), fun hn => ?_⟩, ?_⟩
  · have := hn 11 (by simp)
    simp at this
  go_simp
  refine sched2_done (by kernel_rfl) ?_
  have G2 := Lib.hid (heap_put G1.out 0 (.slice A1 (l.length + 1) c1))
  have U10 := Lib.hid ((Upd.refl (fun b => b = p) w9).setCell (p := ⟨p, 0, none⟩) (fun _ => rfl) (.slice A1 (l.length + 1) c1))
  go_wp2_with fail
  go_ret
  refine ⟨rfl, ⟨_, by simpa using G2.out, HN.out.new_keep U10.out (fun b hb => .inl (by rw [show b = p from hb]; exact hp))⟩, ?_⟩
  refine (((HUa.out.trans HU6.out).mono (fun _ _ h => h.elim)).then HU9.out (fun i hi e => ?_)).then U10.out (fun i hi e => .inl e)
  obtain ⟨a1, a2, a3⟩ := hown.out i e
  exact .inr ⟨a1, hi, a3⟩
end Go.Proofs.Ytobfolkcpfaplaa
