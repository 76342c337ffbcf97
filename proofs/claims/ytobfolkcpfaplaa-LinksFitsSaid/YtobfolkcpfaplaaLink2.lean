/- A log of entries that end something, function by function (2): such an entry; whether it is right; a copy of it. -/
import Derived.Test.YtobfolkcpfaplaaLink1
namespace Go.Proofs.Ytobfolkcpfaplaa
open Go.RowKit Kit
set_option linter.unusedVariables false
theorem ten_cells {x : World} {b : Nat} {T : TypeId} {fr : Nat × Nat} {c0 c1 c2 c3 c4 c5 c6 c7 c8 c9 : Value} (h : x.heap[b]? = some (.cells #[c0, c1, c2, c3, c4, c5, c6, c7, c8, c9] T fr)) :
    x.cell? ⟨b, 0, none⟩ = some c0 ∧ x.cell? ⟨b, 1, none⟩ = some c1 ∧ x.cell? ⟨b, 2, none⟩ = some c2 ∧ x.cell? ⟨b, 3, none⟩ = some c3 ∧ x.cell? ⟨b, 4, none⟩ = some c4 ∧ x.cell? ⟨b, 5, none⟩ = some c5 ∧ x.cell? ⟨b, 6, none⟩ = some c6 ∧ x.cell? ⟨b, 7, none⟩ = some c7 ∧ x.cell? ⟨b, 8, none⟩ = some c8 ∧ x.cell? ⟨b, 9, none⟩ = some c9 := by
  refine ⟨?_, ?_, ?_, ?_, ?_, ?_, ?_, ?_, ?_, ?_⟩ <;> simp only [World.cell?, h] <;> rfl
/-- The entry as a value. -/
def finV (ep sq : Int) : Value := .agg #[.int .u64 ep, .int .i64 2, .int .i64 0, .int .u64 0, .bool false, .slice none 0 0, .slice none 0 0, .int .i64 0, .int .u64 sq, .int .i64 0]
set_option maxHeartbeats 1000000 in
theorem one_any (ep : Int) (w : World) : Calls Try.prog 29 #[.int .u64 ep] w fun e w' => e = .returned (finV ep 1) ∧ Upd NoB w w' := by
  have HU := Lib.hid (fun o => (Upd.refl NoB w).alloc o)
  go_enter Try.func29, Try.ntmps29
  go_wp2_with fail
  exact bodyPost_ret (v := finV ep 1) (by simp [results, Try.results29, go_sem, finV, *]) rfl ⟨rfl, HU.out _⟩
set_option maxHeartbeats 1000000 in
theorem rightid_any (sq : Int) (w : World) (h : 0 < sq) : Calls Try.prog 81 #[.agg #[.int .i64 0, .int .u64 sq]] w fun e w' => e = .returned (.bool true) ∧ Upd NoB w w' := by
  have HU := Lib.hid (fun o => (Upd.refl NoB w).alloc o)
  have hq : decide (0 < sq) = true := decide_eq_true h
  clear h
  go_enter Try.func81, Try.ntmps81
  go_wp2_with fail
  go_ret
  exact ⟨rfl, HU.out _⟩
set_option maxHeartbeats 1000000 in
theorem none_any (w : World) : Calls Try.prog 80 #[.agg #[.int .i64 0, .int .u64 0, .bool false, .slice none 0 0, .slice none 0 0]] w fun e w' => e = .returned (.bool true) ∧ Upd NoB w w' := by
  have HU := Lib.hid (fun o => (Upd.refl NoB w).alloc o)
  go_enter Try.func80, Try.ntmps80
  go_wp2_with fail
  go_ret
  exact ⟨rfl, HU.out _⟩
set_option maxHeartbeats 2000000 in
theorem right_any (ep sq : Int) (w : World) (he : 0 < ep) (hs : 0 < sq) : Calls Try.prog 63 #[finV ep sq] w fun e w' => e = .returned (.bool true) ∧ Upd NoB w w' := by
  have HU := Lib.hid (fun o => (Upd.refl NoB w).alloc o)
  have hcl := Lib.hid (fun (x : World) (hx : Upd NoB (w.alloc (.cells #[.int .u64 ep, .int .i64 2, .int .i64 0, .int .u64 0, .bool false, .slice none 0 0, .slice none 0 0, .int .i64 0, .int .u64 sq, .int .i64 0] 65)) x) => ten_cells (hx.heap (heap_alloc_new w _) (fun h => h)))
  have hno := Lib.hid none_any
  have hid := Lib.hid (fun w => rightid_any sq w hs)
  have e0 : (ep == 0) = false := by simp; omega
  clear he hs
  unfold finV
  go_enter Try.func63, Try.ntmps63
  go_wp2_with fail
  refine (hno.out _).mono ?_
  rintro e w1 ⟨rfl, hu⟩
  obtain ⟨y0, y1, y2, y3, y4, y5, y6, y7, y8, y9⟩ := hcl.out w1 hu
  have HU1 := Lib.hid hu
  clear hu
  go_wp2_with fail
  refine (hid.out _).mono ?_
  rintro e w2 ⟨rfl, hu⟩
  have HU2 := Lib.hid (HU1.out.trans hu)
  clear hu y0 y1 y2 y3 y4 y5 y6 y7 y8 y9
  obtain ⟨y0, y1, y2, y3, y4, y5, y6, y7, y8, y9⟩ := hcl.out w2 HU2.out
  go_wp2_with fail
  go_ret
  exact ⟨rfl, (HU.out _).trans HU2.out⟩
set_option maxRecDepth 100000 in
theorem cloner_nil (w : World) : Calls Try.prog 82 #[.slice none 0 0] w fun e w' => e = .returned (.slice none 0 0) ∧ Upd NoB w w' := by
  have HU := Lib.hid (Upd.refl NoB w)
  have hnil := fun w => Lib.run_eql_slice_nil (P := Try.prog) w 60 128 none 0 0 0 0 Try.underlying60
  go_enter Try.func82, Try.ntmps82
  go_wp2_with fail
  go_ret
  exact ⟨rfl, HU.out⟩
set_option maxRecDepth 100000 in
theorem clonew_nil (w : World) : Calls Try.prog 83 #[.slice none 0 0] w fun e w' => e = .returned (.slice none 0 0) ∧ Upd NoB w w' := by
  have HU := Lib.hid (Upd.refl NoB w)
  have hnil := fun w => Lib.run_eql_slice_nil (P := Try.prog) w 61 131 none 0 0 0 0 Try.underlying61
  go_enter Try.func83, Try.ntmps83
  go_wp2_with fail
  go_ret
  exact ⟨rfl, HU.out⟩
theorem copied_world (ep sq : Int) (w : World) : ∃ wa, (w.alloc (.cells #[.int .u64 ep, .int .i64 2, .int .i64 0, .int .u64 0, .bool false, .slice none 0 0, .slice none 0 0, .int .i64 0, .int .u64 sq, .int .i64 0] 65)).alloc (.cells #[.int .u64 0, .int .i64 0, .int .i64 0, .int .u64 0, .bool false, .slice none 0 0, .slice none 0 0, .int .i64 0, .int .u64 0, .int .i64 0] 65) = wa ∧ Upd NoB w wa ∧ ∀ x, Upd NoB wa x →
    x.heap[w.heap.size]? = some (.cells #[.int .u64 ep, .int .i64 2, .int .i64 0, .int .u64 0, .bool false, .slice none 0 0, .slice none 0 0, .int .i64 0, .int .u64 sq, .int .i64 0] 65 (0, 0)) ∧ x.heap[w.heap.size + 1]? = some (.cells #[.int .u64 0, .int .i64 0, .int .i64 0, .int .u64 0, .bool false, .slice none 0 0, .slice none 0 0, .int .i64 0, .int .u64 0, .int .i64 0] 65 (0, 0)) := by
  refine ⟨_, rfl, ((Upd.refl _ _).alloc _).alloc _, fun x hx => ⟨hx.heap (((Upd.refl NoB _).alloc _).heap (heap_alloc_new w _) (fun h => h)) (fun h => h), hx.heap ?_ (fun h => h)⟩⟩
  have := heap_alloc_new (w.alloc (.cells #[.int .u64 ep, .int .i64 2, .int .i64 0, .int .u64 0, .bool false, .slice none 0 0, .slice none 0 0, .int .i64 0, .int .u64 sq, .int .i64 0] 65)) (.cells #[.int .u64 0, .int .i64 0, .int .i64 0, .int .u64 0, .bool false, .slice none 0 0, .slice none 0 0, .int .i64 0, .int .u64 0, .int .i64 0] 65 (0, 0))
  rw [show (w.alloc (.cells #[.int .u64 ep, .int .i64 2, .int .i64 0, .int .u64 0, .bool false, .slice none 0 0, .slice none 0 0, .int .i64 0, .int .u64 sq, .int .i64 0] 65)).heap.size = w.heap.size + 1 by simp] at this
  exact this
theorem same_back {x : World} {b : Nat} {T : TypeId} {c0 c1 c2 c3 c4 c5 c6 c7 c8 c9 : Value} (h : x.heap[b]? = some (.cells #[c0, c1, c2, c3, c4, c5, c6, c7, c8, c9] T (0, 0))) :
    ∃ y, (x.setCell ⟨b, 5, none⟩ c5).setCell ⟨b, 6, none⟩ c6 = y ∧ Upd NoB x y := by
  have k2 : ((x.setCell ⟨b, 5, none⟩ c5).setCell ⟨b, 6, none⟩ c6).heap[b]? = x.heap[b]? := by
    rw [h]
    simp only [World.setCell, Array.getElem?_modify, if_true, h]
    rfl
  have u := ((Upd.refl (fun k => k = b) x).setCell (p := ⟨b, 5, none⟩) (fun _ => rfl) c5).setCell (p := ⟨b, 6, none⟩) (fun _ => rfl) c6
  refine ⟨_, rfl, u.os, u.tape, u.output, u.size, fun k hk _ => ?_⟩
  by_cases e : k = b
  · subst e; exact k2
  · exact u.block k hk e
set_option maxHeartbeats 4000000 in
set_option maxRecDepth 100000 in
theorem copied_any (ep sq : Int) (w : World) : Calls Try.prog 64 #[finV ep sq] w fun e w' => e = .returned (finV ep sq) ∧ Upd NoB w w' := by
  obtain ⟨wa, hwa0, hua, hb0⟩ := copied_world ep sq w
  have hwa := Lib.hid hwa0
  have HUa := Lib.hid hua
  have hcr := Lib.hid cloner_nil
  have hcw := Lib.hid clonew_nil
  have hb := Lib.hid (fun x hx => ten_cells (hb0 x hx).1)
  have hf := Lib.hid (fun x (hx : Upd NoB wa x) => show ∀ i, World.frozen? x ⟨w.heap.size, i, none⟩ = false from fun i => by simp [World.frozen?, (hb0 x hx).1])
  have hz := Lib.hid (fun x hx => ten_cells (hb0 x hx).2)
  have hzf := Lib.hid (fun x (hx : Upd NoB wa x) => show ∀ i, World.frozen? x ⟨w.heap.size + 1, i, none⟩ = false from fun i => by simp [World.frozen?, (hb0 x hx).2])
  have hback := Lib.hid (fun x hx => same_back (hb0 x hx).1)
  clear hwa0 hua hb0
  unfold finV
  go_enter Try.func64, Try.ntmps64
  go_wp2_with fail
  rw [hwa.out]
  refine sched2_begin NoB (fun b => b = w.heap.size) [10, 13] (by kernel_rfl) ?_
  have HUd := Lib.hid (Upd.refl NoB wa).drew
  refine sched2_take 0 rfl (by kernel_rfl) (by kernel_rfl) (by kernel_rfl) (by kernel_rfl) (by kernel_rfl) (fun _ _ _ h => h) (.inl ⟨rfl, fun x hx => by obtain ⟨y0, y1, y2, y3, y4, y5, y6, y7, y8, y9⟩ := hb.out x (HUd.out.trans hx); go_simp; rfl⟩) ?_
  go_simp
  refine sched2_take 1 rfl (by kernel_rfl) (by kernel_rfl) (by kernel_rfl) (by kernel_rfl) (by kernel_rfl) (fun _ _ _ h => h) (.inl ⟨rfl, fun x hx => by obtain ⟨y0, y1, y2, y3, y4, y5, y6, y7, y8, y9⟩ := hb.out x (HUd.out.trans hx); go_simp; rfl⟩) ?_
  go_simp
  refine sched2_take 2 rfl (by kernel_rfl) (by kernel_rfl) (by kernel_rfl) (by kernel_rfl) (by kernel_rfl) (fun _ _ _ h => h) (.inl ⟨rfl, fun x hx => by obtain ⟨y0, y1, y2, y3, y4, y5, y6, y7, y8, y9⟩ := hb.out x (HUd.out.trans hx); go_simp; rfl⟩) ?_
  go_simp
  refine sched2_take 4 rfl (by kernel_rfl) (by kernel_rfl) (by kernel_rfl) (by kernel_rfl) (by kernel_rfl) (fun _ _ _ h => h) (.inl ⟨rfl, fun x hx => by obtain ⟨y0, y1, y2, y3, y4, y5, y6, y7, y8, y9⟩ := hb.out x (HUd.out.trans hx); go_simp; rfl⟩) ?_
  go_simp
  refine sched2_take 5 rfl (by kernel_rfl) (by kernel_rfl) (by kernel_rfl) (by kernel_rfl) (by kernel_rfl) (fun _ _ _ h => h) (.inl ⟨rfl, fun x hx => by obtain ⟨y0, y1, y2, y3, y4, y5, y6, y7, y8, y9⟩ := hb.out x (HUd.out.trans hx); go_simp; rfl⟩) ?_
  go_simp
  refine sched2_take 6 rfl (by kernel_rfl) (by kernel_rfl) (by kernel_rfl) (by kernel_rfl) (by kernel_rfl) (fun _ _ _ h => h) (.inl ⟨rfl, fun x hx => by obtain ⟨y0, y1, y2, y3, y4, y5, y6, y7, y8, y9⟩ := hb.out x (HUd.out.trans hx); go_simp; rfl⟩) ?_
  go_simp
  refine sched2_alone 3 (by kernel_rfl) rfl rfl ?_
  go_simp
  refine (hcr.out _).mono ?_
  rintro e w1 ⟨rfl, hu⟩
  refine ⟨both hu (fun _ h => h.elim), ?_⟩
  have HU1 := Lib.hid (HUd.out.trans hu)
  clear hu
  go_simp
  refine sched2_take 8 rfl (by kernel_rfl) (by kernel_rfl) (by kernel_rfl) (by kernel_rfl) (by kernel_rfl) (fun _ _ _ h => h) (.inl ⟨rfl, fun x hx => by go_simp; rfl⟩) ?_
  go_simp
  refine sched2_take 9 rfl (by kernel_rfl) (by kernel_rfl) (by kernel_rfl) (by kernel_rfl) (by kernel_rfl) (fun _ _ _ h => h) (.inl ⟨rfl, fun x hx => by go_simp; rfl⟩) ?_
  go_simp
  refine sched2_alone 7 (by kernel_rfl) rfl rfl ?_
  go_simp
  refine (hcw.out _).mono ?_
  rintro e w2 ⟨rfl, hu⟩
  refine ⟨both hu (fun _ h => h.elim), ?_⟩
  have HU2 := Lib.hid (HU1.out.trans hu)
  clear hu
  obtain ⟨y0, y1, y2, y3, y4, y5, y6, y7, y8, y9⟩ := hb.out w2 HU2.out
  have f := hf.out w2 HU2.out
  go_simp
  refine sched2_alone 10 (by kernel_rfl) rfl rfl ?_
  go_simp
  refine ⟨⟨((Upd.refl (fun b => b = w.heap.size) w2).setCell (p := ⟨w.heap.size, 5, none⟩) (fun _ => rfl) _), fun hn => ?_⟩, ?_⟩
  · have := hn 10 (by simp)
    simp at this
  refine sched2_alone 11 (by kernel_rfl) rfl rfl ?_
  go_simp
  refine ⟨⟨Upd.refl _ _, fun _ => Upd.refl _ _⟩, ?_⟩
  refine sched2_alone 12 (by kernel_rfl) rfl rfl ?_
  go_simp
  refine ⟨⟨Upd.refl _ _, fun _ => Upd.refl _ _⟩, ?_⟩
  refine sched2_alone 13 (by kernel_rfl) rfl rfl ?_
  go_simp
  refine ⟨⟨((Upd.refl (fun b => b = w.heap.size) _).setCell (p := ⟨w.heap.size, 6, none⟩) (fun _ => rfl) _), fun hn => ?_⟩, ?_⟩
  · have := hn 10 (by simp)
    simp at this
  refine sched2_done (by kernel_rfl) ?_
  obtain ⟨w3, hw3, hu⟩ := hback.out w2 HU2.out
  rw [hw3]
  have HU3 := Lib.hid (HU2.out.trans hu)
  clear y0 y1 y2 y3 y4 y5 y6 y7 y8 y9 f hu hw3
  obtain ⟨y0, y1, y2, y3, y4, y5, y6, y7, y8, y9⟩ := hb.out w3 HU3.out
  obtain ⟨z0, z1, z2, z3, z4, z5, z6, z7, z8, z9⟩ := hz.out w3 HU3.out
  have zf := hzf.out w3 HU3.out
  have HUw := Lib.hid (HUa.out.trans HU3.out)
  have hset := Lib.hid (fun (x : World) (hx : Upd NoB w x) (i : Nat) (u : Value) => hx.setCell (p := ⟨w.heap.size + 1, i, none⟩) (fun e => absurd e (by simp only; omega)) u)
  go_wp2_with fail
  exact bodyPost_ret (v := finV ep sq) (by simp [results, Try.results64, go_sem, finV, *]) rfl ⟨rfl, (hset.out _ (hset.out _ (hset.out _ (hset.out _ (hset.out _ (hset.out _ (hset.out _ (hset.out _ (hset.out _ (hset.out _ HUw.out 0 _) 1 _) 2 _) 3 _) 4 _) 5 _) 6 _) 7 _) 8 _) 9 _)⟩
end Go.Proofs.Ytobfolkcpfaplaa
