/- Entries that end something, as the document's (2): one, a list of them; are two the same. -/
import Derived.Test.YtobfolkcpfaplaaLink8
namespace Go.Proofs.Ytobfolkcpfaplaa
open Go.RowKit Kit
set_option linter.unusedVariables false
theorem plain_world (ep sq : Int) (w : World) : ∃ wa, (w.alloc (.cells #[.int .u64 ep, .int .i64 2, .int .i64 0, .int .u64 0, .bool false, .slice none 0 0, .slice none 0 0, .int .i64 0, .int .u64 sq, .int .i64 0] 65)).alloc (.cells #[.int .u64 0, .int .i64 0, .int .i64 0, .int .u64 0, .bool false, .slice none 0 0, .slice none 0 0, .int .i64 0, .int .u64 0, .int .i64 0] 72) = wa ∧ Upd NoB w wa ∧ ∀ x, Upd NoB wa x →
    x.heap[w.heap.size]? = some (.cells #[.int .u64 ep, .int .i64 2, .int .i64 0, .int .u64 0, .bool false, .slice none 0 0, .slice none 0 0, .int .i64 0, .int .u64 sq, .int .i64 0] 65 (0, 0)) ∧ x.heap[w.heap.size + 1]? = some (.cells #[.int .u64 0, .int .i64 0, .int .i64 0, .int .u64 0, .bool false, .slice none 0 0, .slice none 0 0, .int .i64 0, .int .u64 0, .int .i64 0] 72 (0, 0)) := by
  refine ⟨_, rfl, ((Upd.refl _ _).alloc _).alloc _, fun x hx => ⟨hx.heap (((Upd.refl NoB _).alloc _).heap (heap_alloc_new w _) (fun h => h)) (fun h => h), hx.heap ?_ (fun h => h)⟩⟩
  have := heap_alloc_new (w.alloc (.cells #[.int .u64 ep, .int .i64 2, .int .i64 0, .int .u64 0, .bool false, .slice none 0 0, .slice none 0 0, .int .i64 0, .int .u64 sq, .int .i64 0] 65)) (.cells #[.int .u64 0, .int .i64 0, .int .i64 0, .int .u64 0, .bool false, .slice none 0 0, .slice none 0 0, .int .i64 0, .int .u64 0, .int .i64 0] 72 (0, 0))
  rw [show (w.alloc (.cells #[.int .u64 ep, .int .i64 2, .int .i64 0, .int .u64 0, .bool false, .slice none 0 0, .slice none 0 0, .int .i64 0, .int .u64 sq, .int .i64 0] 65)).heap.size = w.heap.size + 1 by simp] at this
  exact this
set_option maxHeartbeats 4000000 in
set_option maxRecDepth 100000 in
theorem plain_any (ep sq : Int) (w : World) : Calls Try.prog 30 #[finV ep sq] w fun e w' => e = .returned (finV ep sq) ∧ Upd NoB w w' := by
  obtain ⟨wa, hwa0, hua, hb0⟩ := plain_world ep sq w
  have hwa := Lib.hid hwa0
  have HUa := Lib.hid hua
  have htx := Lib.hid plaintxn_any
  have hb := Lib.hid (fun x hx => ten_cells (hb0 x hx).1)
  have hz := Lib.hid (fun x hx => ten_cells (hb0 x hx).2)
  have hzf := Lib.hid (fun x (hx : Upd NoB wa x) => show ∀ i, World.frozen? x ⟨w.heap.size + 1, i, none⟩ = false from fun i => by simp [World.frozen?, (hb0 x hx).2])
  have hset := Lib.hid (fun (x : World) (hx : Upd NoB w x) (i : Nat) (u : Value) => hx.setCell (p := ⟨w.heap.size + 1, i, none⟩) (fun e => absurd e (by simp only; omega)) u)
  have hsg := Lib.hid (fun (x y : World) (hx : Upd (fun b => b = w.heap.size + 1) x y) (i : Nat) (u : Value) => hx.setCell (p := ⟨w.heap.size + 1, i, none⟩) (fun _ => rfl) u)
  clear hwa0 hua hb0
  unfold finV
  go_enter Try.func30, Try.ntmps30
  go_wp2_with fail
  rw [hwa.out]
  refine sched2_begin NoB (fun b => b = w.heap.size + 1) [12] (by kernel_rfl) ?_
  have HUd := Lib.hid (Upd.refl NoB wa).drew
  refine sched2_take 0 rfl (by kernel_rfl) (by kernel_rfl) (by kernel_rfl) (by kernel_rfl) (by kernel_rfl) (fun _ _ _ h => h) (.inl ⟨rfl, fun x hx => by obtain ⟨y0, y1, y2, y3, y4, y5, y6, y7, y8, y9⟩ := hb.out x (HUd.out.trans hx); go_simp; rfl⟩) ?_
  go_simp
  refine sched2_take 1 rfl (by kernel_rfl) (by kernel_rfl) (by kernel_rfl) (by kernel_rfl) (by kernel_rfl) (fun _ _ _ h => h) (.inl ⟨rfl, fun x hx => by obtain ⟨y0, y1, y2, y3, y4, y5, y6, y7, y8, y9⟩ := hb.out x (HUd.out.trans hx); go_simp; rfl⟩) ?_
  go_simp
  refine sched2_take 2 rfl (by kernel_rfl) (by kernel_rfl) (by kernel_rfl) (by kernel_rfl) (by kernel_rfl) (fun _ _ _ h => h) (.inl ⟨rfl, fun x hx => by obtain ⟨y0, y1, y2, y3, y4, y5, y6, y7, y8, y9⟩ := hb.out x (HUd.out.trans hx); go_simp; rfl⟩) ?_
  go_simp
  refine sched2_take 3 rfl (by kernel_rfl) (by kernel_rfl) (by kernel_rfl) (by kernel_rfl) (by kernel_rfl) (fun _ _ _ h => h) (.inl ⟨rfl, fun x hx => by obtain ⟨y0, y1, y2, y3, y4, y5, y6, y7, y8, y9⟩ := hb.out x (HUd.out.trans hx); go_simp; rfl⟩) ?_
  go_simp
  refine sched2_take 4 rfl (by kernel_rfl) (by kernel_rfl) (by kernel_rfl) (by kernel_rfl) (by kernel_rfl) (fun _ _ _ h => h) (.inl ⟨rfl, fun x hx => by obtain ⟨y0, y1, y2, y3, y4, y5, y6, y7, y8, y9⟩ := hb.out x (HUd.out.trans hx); go_simp; rfl⟩) ?_
  go_simp
  refine sched2_take 5 rfl (by kernel_rfl) (by kernel_rfl) (by kernel_rfl) (by kernel_rfl) (by kernel_rfl) (fun _ _ _ h => h) (.inl ⟨rfl, fun x hx => by obtain ⟨y0, y1, y2, y3, y4, y5, y6, y7, y8, y9⟩ := hb.out x (HUd.out.trans hx); go_simp; rfl⟩) ?_
  go_simp
  refine sched2_take 7 rfl (by kernel_rfl) (by kernel_rfl) (by kernel_rfl) (by kernel_rfl) (by kernel_rfl) (fun _ _ _ h => h) (.inl ⟨rfl, fun x hx => by obtain ⟨y0, y1, y2, y3, y4, y5, y6, y7, y8, y9⟩ := hb.out x (HUd.out.trans hx); go_simp; rfl⟩) ?_
  go_simp
  refine sched2_take 8 rfl (by kernel_rfl) (by kernel_rfl) (by kernel_rfl) (by kernel_rfl) (by kernel_rfl) (fun _ _ _ h => h) (.inl ⟨rfl, fun x hx => by obtain ⟨y0, y1, y2, y3, y4, y5, y6, y7, y8, y9⟩ := hb.out x (HUd.out.trans hx); go_simp; rfl⟩) ?_
  go_simp
  refine sched2_take 9 rfl (by kernel_rfl) (by kernel_rfl) (by kernel_rfl) (by kernel_rfl) (by kernel_rfl) (fun _ _ _ h => h) (.inl ⟨rfl, fun x hx => by obtain ⟨y0, y1, y2, y3, y4, y5, y6, y7, y8, y9⟩ := hb.out x (HUd.out.trans hx); go_simp; rfl⟩) ?_
  go_simp
  refine sched2_take 10 rfl (by kernel_rfl) (by kernel_rfl) (by kernel_rfl) (by kernel_rfl) (by kernel_rfl) (fun _ _ _ h => h) (.inl ⟨rfl, fun x hx => by obtain ⟨y0, y1, y2, y3, y4, y5, y6, y7, y8, y9⟩ := hb.out x (HUd.out.trans hx); go_simp; rfl⟩) ?_
  go_simp
  refine sched2_alone 6 (by kernel_rfl) rfl rfl ?_
  go_simp
  refine (htx.out _).mono ?_
  rintro e w1 ⟨rfl, hu⟩
  refine ⟨both hu (fun _ h => h.elim), ?_⟩
  have HU1 := Lib.hid (HUd.out.trans hu)
  clear hu
  go_simp
  refine sched2_take 11 rfl (by kernel_rfl) (by kernel_rfl) (by kernel_rfl) (by kernel_rfl) (by kernel_rfl) (fun _ _ _ h => h) (.inl ⟨rfl, fun x hx => by go_simp; rfl⟩) ?_
  go_simp
  obtain ⟨z0, z1, z2, z3, z4, z5, z6, z7, z8, z9⟩ := hz.out w1 HU1.out
  have zf := hzf.out w1 HU1.out
  refine sched2_alone 12 (by kernel_rfl) rfl rfl ?_
  go_simp
  refine ⟨⟨(hsg.out _ _ (hsg.out _ _ (hsg.out _ _ (hsg.out _ _ (hsg.out _ _ (hsg.out _ _ (hsg.out _ _ (hsg.out _ _ (hsg.out _ _ (hsg.out _ _ (Upd.refl _ _) 0 _) 1 _) 2 _) 3 _) 4 _) 5 _) 6 _) 7 _) 8 _) 9 _), fun hn => ?_⟩, ?_⟩
  · have := hn 12 (by simp)
    simp at this
  refine sched2_done (by kernel_rfl) ?_
  have HUw := Lib.hid (HUa.out.trans HU1.out)
  go_wp2_with fail
  exact bodyPost_ret (v := finV ep sq) (by simp [results, Try.results30, go_sem, finV, *]) rfl ⟨rfl, (hset.out _ (hset.out _ (hset.out _ (hset.out _ (hset.out _ (hset.out _ (hset.out _ (hset.out _ (hset.out _ (hset.out _ HUw.out 0 _) 1 _) 2 _) 3 _) 4 _) 5 _) 6 _) 7 _) 8 _) 9 _)⟩
end Go.Proofs.Ytobfolkcpfaplaa
