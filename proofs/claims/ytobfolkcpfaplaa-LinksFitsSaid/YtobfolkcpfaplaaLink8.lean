/- Entries that end something, as the document's. -/
import Derived.Test.YtobfolkcpfaplaaLink7
namespace Go.Proofs.Ytobfolkcpfaplaa
open Go.RowKit Kit
set_option linter.unusedVariables false
theorem five_cells {x : World} {b : Nat} {T : TypeId} {fr : Nat × Nat} {c0 c1 c2 c3 c4 : Value} (h : x.heap[b]? = some (.cells #[c0, c1, c2, c3, c4] T fr)) :
    x.cell? ⟨b, 0, none⟩ = some c0 ∧ x.cell? ⟨b, 1, none⟩ = some c1 ∧ x.cell? ⟨b, 2, none⟩ = some c2 ∧ x.cell? ⟨b, 3, none⟩ = some c3 ∧ x.cell? ⟨b, 4, none⟩ = some c4 := by
  simp [World.cell?, h]
theorem txn_world (w : World) (a b c : TypeId) : ∀ x, Upd NoB (((w.alloc (.cells #[.int .i64 0, .int .u64 0, .bool false, .slice none 0 0, .slice none 0 0] a)).alloc (.cells #[.int .i64 0, .int .u64 0, .bool false, .slice none 0 0, .slice none 0 0] b)).alloc (.cells #[.int .i64 0, .int .u64 0, .bool false, .slice none 0 0, .slice none 0 0] c)) x → Upd NoB w x ∧
    x.heap[w.heap.size]? = some (.cells #[.int .i64 0, .int .u64 0, .bool false, .slice none 0 0, .slice none 0 0] a (0, 0)) ∧
    x.heap[w.heap.size + 1]? = some (.cells #[.int .i64 0, .int .u64 0, .bool false, .slice none 0 0, .slice none 0 0] b (0, 0)) ∧
    x.heap[w.heap.size + 1 + 1]? = some (.cells #[.int .i64 0, .int .u64 0, .bool false, .slice none 0 0, .slice none 0 0] c (0, 0)) := by
  intro x h
  obtain ⟨y, hy⟩ : ∃ y, w.alloc (.cells #[.int .i64 0, .int .u64 0, .bool false, .slice none 0 0, .slice none 0 0] a) = y := ⟨_, rfl⟩
  have s1 : y.heap.size = w.heap.size + 1 := by rw [← hy]; simp
  have u0 : Upd NoB w y := by rw [← hy]; exact (Upd.refl _ _).alloc _
  have b0 : y.heap[w.heap.size]? = some (.cells #[.int .i64 0, .int .u64 0, .bool false, .slice none 0 0, .slice none 0 0] a (0, 0)) := by rw [← hy]; exact heap_alloc_new _ _
  rw [hy] at h
  obtain ⟨z, hz⟩ : ∃ z, y.alloc (.cells #[.int .i64 0, .int .u64 0, .bool false, .slice none 0 0, .slice none 0 0] b) = z := ⟨_, rfl⟩
  have s2 : z.heap.size = w.heap.size + 1 + 1 := by rw [← hz]; simp [s1]
  have u1 : Upd NoB y z := by rw [← hz]; exact (Upd.refl _ _).alloc _
  have b1 : z.heap[w.heap.size + 1]? = some (.cells #[.int .i64 0, .int .u64 0, .bool false, .slice none 0 0, .slice none 0 0] b (0, 0)) := by rw [← hz, ← s1]; exact heap_alloc_new _ _
  rw [hz] at h
  have u2 := ((Upd.refl NoB z).alloc (.cells #[.int .i64 0, .int .u64 0, .bool false, .slice none 0 0, .slice none 0 0] c)).trans h
  have b2 := h.heap (heap_alloc_new z (.cells #[.int .i64 0, .int .u64 0, .bool false, .slice none 0 0, .slice none 0 0] c (0, 0))) (fun h => h)
  rw [s2] at b2
  exact ⟨(u0.trans u1).trans u2, (u1.trans u2).heap b0 (fun h => h), u2.heap b1 (fun h => h), b2⟩
set_option maxHeartbeats 4000000 in
set_option maxRecDepth 100000 in
theorem plaintxn_any (w : World) : Calls Try.prog 61 #[.agg #[.int .i64 0, .int .u64 0, .bool false, .slice none 0 0, .slice none 0 0]] w fun e w' => e = .returned (.agg #[.int .i64 0, .int .u64 0, .bool false, .slice none 0 0, .slice none 0 0]) ∧ Upd NoB w w' := by
  have hcl := Lib.hid (txn_world w 63 70 70)
  have HU := Lib.hid (Upd.refl NoB (((w.alloc (.cells #[.int .i64 0, .int .u64 0, .bool false, .slice none 0 0, .slice none 0 0] 63)).alloc (.cells #[.int .i64 0, .int .u64 0, .bool false, .slice none 0 0, .slice none 0 0] 70)).alloc (.cells #[.int .i64 0, .int .u64 0, .bool false, .slice none 0 0, .slice none 0 0] 70)))
  go_enter Try.func61, Try.ntmps61
  go_wp2_with fail
  go_loopw [16] (fun x16 wr => x16 = .int .i64 0 ∧ Hid (Upd NoB (((w.alloc (.cells #[.int .i64 0, .int .u64 0, .bool false, .slice none 0 0, .slice none 0 0] 63)).alloc (.cells #[.int .i64 0, .int .u64 0, .bool false, .slice none 0 0, .slice none 0 0] 70)).alloc (.cells #[.int .i64 0, .int .u64 0, .bool false, .slice none 0 0, .slice none 0 0] 70)) wr)) (fun _ _ => 0)
  case atStart => exact ⟨rfl, HU⟩
  case round =>
    obtain ⟨rfl, hU⟩ := hrel
    obtain ⟨hw, b0, b1, b2⟩ := hcl.out wr hU.out
    have HW := Lib.hid hw
    have B1 := Lib.hid b1
    have B2 := Lib.hid b2
    obtain ⟨x0, x1, x2, x3, x4⟩ := five_cells b0
    clear hw b0 b1 b2
    go_wp2_with fail
    obtain ⟨wz, hwz⟩ : ∃ wz, wz = wr := ⟨_, rfl⟩
    subst hwz
    have HZ := Lib.hid (Upd.refl NoB wz)
    go_loopw [34] (fun x34 wq => x34 = .int .i64 0 ∧ Hid (Upd NoB wz wq)) (fun _ _ => 0)
    case atStart => exact ⟨rfl, HZ⟩
    case round =>
      obtain ⟨rfl, hU2⟩ := hrel
      have d1 := hU2.out.heap B1.out (fun h => h)
      obtain ⟨y0, y1, y2, y3, y4⟩ := five_cells d1
      obtain ⟨z0, z1, z2, z3, z4⟩ := five_cells (hU2.out.heap B2.out (fun h => h))
      have f0 : ∀ i, wr.frozen? ⟨w.heap.size + 1, i, none⟩ = false := fun i => by simp [World.frozen?, d1]
      have HUw := Lib.hid (HW.out.trans hU2.out)
      have hset := Lib.hid (fun (x : World) (hx : Upd NoB w x) (i : Nat) (u : Value) => hx.setCell (p := ⟨w.heap.size + 1, i, none⟩) (fun e => absurd e (by simp only; omega)) u)
      clear d1 x0 x1 x2 x3 x4
      go_wp2_with fail
      exact bodyPost_ret (v := .agg #[.int .i64 0, .int .u64 0, .bool false, .slice none 0 0, .slice none 0 0]) (by simp [results, Try.results61, go_sem, *]) rfl ⟨rfl, hset.out _ (hset.out _ (hset.out _ (hset.out _ (hset.out _ HUw.out 0 _) 1 _) 2 _) 3 _) 4 _⟩
end Go.Proofs.Ytobfolkcpfaplaa
