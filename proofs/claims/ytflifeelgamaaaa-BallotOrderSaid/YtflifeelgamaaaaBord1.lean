/- Ballots, function by function: which is less, which is the greater one. -/
import Derived.Test.YtflifeelgamaaaaSched2
import Derived.Test.YtflifeelgamaaaaMine
import Derived.Test.YtflifeelgamaaaaProg
import Derived.Lib.Hide
import Derived.ProofKit
namespace Go.Proofs.Ytflifeelgamaaaa
open Go.RowKit Kit
set_option linter.unusedVariables false

/-- Is (r, n) less than (s, m)? -/
def lessB (r n s m : Int) : Bool := if r = s then decide (n < m) else decide (r < s)

set_option maxHeartbeats 1000000 in
theorem less_any (r n s m : Int) (w : World) : Calls Try.prog 33 #[.agg #[.int .u64 r, .int .i64 n], .agg #[.int .u64 s, .int .i64 m]] w fun e w' => e = .returned (.bool (lessB r n s m)) ∧ Upd NoB w w' := by
  obtain ⟨wa, hwa⟩ : ∃ wa, (w.alloc (.cells #[.int .u64 r, .int .i64 n] 42)).alloc (.cells #[.int .u64 s, .int .i64 m] 42) = wa := ⟨_, rfl⟩
  have hua : Upd NoB w wa := by rw [← hwa]; exact ((Upd.refl _ _).alloc _).alloc _
  have hB1 : wa.heap[w.heap.size + 1]? = some (.cells #[.int .u64 s, .int .i64 m] 42 (0, 0)) := by
    have := heap_alloc_new (w.alloc (.cells #[.int .u64 r, .int .i64 n] 42)) (.cells #[.int .u64 s, .int .i64 m] 42 (0, 0))
    rw [show (w.alloc (.cells #[.int .u64 r, .int .i64 n] 42)).heap.size = w.heap.size + 1 by simp, hwa] at this
    exact this
  have hB0 : wa.heap[w.heap.size]? = some (.cells #[.int .u64 r, .int .i64 n] 42 (0, 0)) := by
    rw [← hwa, Below.heap_alloc _ _ _ (by simp)]
    exact heap_alloc_new _ _
  have c00 : wa.cell? ⟨w.heap.size, 0, none⟩ = some (.int .u64 r) := by simp [World.cell?, hB0]
  have c01 : wa.cell? ⟨w.heap.size, 1, none⟩ = some (.int .i64 n) := by simp [World.cell?, hB0]
  have c10 : wa.cell? ⟨w.heap.size + 1, 0, none⟩ = some (.int .u64 s) := by simp [World.cell?, hB1]
  have c11 : wa.cell? ⟨w.heap.size + 1, 1, none⟩ = some (.int .i64 m) := by simp [World.cell?, hB1]
  have HU := Lib.hid hua
  clear hB0 hB1 hua
  unfold lessB
  by_cases h1 : r = s
  · rw [if_pos h1]
    have e1 : (r == s) = true := by simp [h1]
    have e2 : decide (r < s) = false := decide_eq_false (by omega)
    clear h1
    generalize hq : decide (n < m) = q
    skip
    go_enter Try.func33, Try.ntmps33
    go_wp2_with fail
    go_ret
    exact ⟨rfl, HU.out⟩
  · rw [if_neg h1]
    have e1 : (r == s) = false := by simp [h1]
    generalize hq : decide (r < s) = q
    clear h1
    cases q
    · skip
      go_enter Try.func33, Try.ntmps33
      go_wp2_with fail
      go_ret
      exact ⟨rfl, HU.out⟩
    · skip
      go_enter Try.func33, Try.ntmps33
      go_wp2_with fail
      go_ret
      exact ⟨rfl, HU.out⟩
set_option maxHeartbeats 1000000 in
theorem refless_any (r n s m : Int) (w : World) : Calls Try.prog 34 #[.agg #[.int .u64 r, .int .i64 n], .agg #[.int .u64 s, .int .i64 m]] w fun e w' => e = .returned (.bool (lessB r n s m)) ∧ Upd NoB w w' := by
  obtain ⟨wa, hwa⟩ : ∃ wa, (w.alloc (.cells #[.int .u64 r, .int .i64 n] 41)).alloc (.cells #[.int .u64 s, .int .i64 m] 41) = wa := ⟨_, rfl⟩
  have hua : Upd NoB w wa := by rw [← hwa]; exact ((Upd.refl _ _).alloc _).alloc _
  have hB1 : wa.heap[w.heap.size + 1]? = some (.cells #[.int .u64 s, .int .i64 m] 41 (0, 0)) := by
    have := heap_alloc_new (w.alloc (.cells #[.int .u64 r, .int .i64 n] 41)) (.cells #[.int .u64 s, .int .i64 m] 41 (0, 0))
    rw [show (w.alloc (.cells #[.int .u64 r, .int .i64 n] 41)).heap.size = w.heap.size + 1 by simp, hwa] at this
    exact this
  have hB0 : wa.heap[w.heap.size]? = some (.cells #[.int .u64 r, .int .i64 n] 41 (0, 0)) := by
    rw [← hwa, Below.heap_alloc _ _ _ (by simp)]
    exact heap_alloc_new _ _
  have c00 : wa.cell? ⟨w.heap.size, 0, none⟩ = some (.int .u64 r) := by simp [World.cell?, hB0]
  have c01 : wa.cell? ⟨w.heap.size, 1, none⟩ = some (.int .i64 n) := by simp [World.cell?, hB0]
  have c10 : wa.cell? ⟨w.heap.size + 1, 0, none⟩ = some (.int .u64 s) := by simp [World.cell?, hB1]
  have c11 : wa.cell? ⟨w.heap.size + 1, 1, none⟩ = some (.int .i64 m) := by simp [World.cell?, hB1]
  have HU := Lib.hid hua
  clear hB0 hB1 hua
  unfold lessB
  by_cases h1 : r = s
  · rw [if_pos h1]
    have e1 : (r == s) = true := by simp [h1]
    clear h1
    skip
    go_enter Try.func34, Try.ntmps34
    go_wp2_with fail
    go_ret
    exact ⟨rfl, HU.out⟩
  · rw [if_neg h1]
    have e1 : (r == s) = false := by simp [h1]
    clear h1
    skip
    go_enter Try.func34, Try.ntmps34
    go_wp2_with fail
    go_ret
    exact ⟨rfl, HU.out⟩
set_option maxHeartbeats 1000000 in
theorem ours_any (r n : Int) (w : World) : Calls Try.prog 32 #[.agg #[.int .u64 r, .int .i64 n]] w fun e w' => e = .returned (.agg #[.int .u64 r, .int .i64 n]) ∧ Upd NoB w w' := by
  have HU := Lib.hid (fun o o' => ((Upd.refl NoB w).alloc o).alloc o')
  go_enter Try.func32, Try.ntmps32
  go_wp2_with fail
  exact bodyPost_ret (v := .agg #[.int .u64 r, .int .i64 n]) (by simp [results, Try.results32, go_sem, *]) rfl ⟨rfl, HU.out _ _⟩
set_option maxHeartbeats 1000000 in
theorem plain_any (r n : Int) (w : World) : Calls Try.prog 35 #[.agg #[.int .u64 r, .int .i64 n]] w fun e w' => e = .returned (.agg #[.int .u64 r, .int .i64 n]) ∧ Upd NoB w w' := by
  have HU := Lib.hid (fun o o' => ((Upd.refl NoB w).alloc o).alloc o')
  go_enter Try.func35, Try.ntmps35
  go_wp2_with fail
  exact bodyPost_ret (v := .agg #[.int .u64 r, .int .i64 n]) (by simp [results, Try.results35, go_sem, *]) rfl ⟨rfl, HU.out _ _⟩
theorem lessB_refl (r n : Int) : lessB r n r n = false := by simp [lessB]
theorem lessB_swap {r n s m : Int} (h : ¬ (r = s ∧ n = m)) : lessB s m r n = !lessB r n s m := by
  unfold lessB
  by_cases e : r = s
  · subst e
    have hn : ¬ n = m := fun e => h ⟨rfl, e⟩
    by_cases e1 : n < m
    · simp [e1, show ¬ m < n by omega]
    · simp [e1, show m < n by omega]
  · rw [if_neg e, if_neg (fun h => e h.symm)]
    by_cases e1 : r < s
    · simp [e1, show ¬ s < r by omega]
    · simp [e1, show s < r by omega]
theorem max_cells (w : World) (r n s m : Int) : ∀ w1, Upd NoB (((w.alloc (.cells #[.int .u64 r, .int .i64 n] 42)).alloc (.cells #[.int .u64 s, .int .i64 m] 42)).alloc (.cells #[.int .u64 0, .int .i64 0] 42)) w1 →
    w1.cell? ⟨w.heap.size, 0, none⟩ = some (.int .u64 r) ∧ w1.cell? ⟨w.heap.size, 1, none⟩ = some (.int .i64 n) ∧ w1.cell? ⟨w.heap.size + 1, 0, none⟩ = some (.int .u64 s) ∧ w1.cell? ⟨w.heap.size + 1, 1, none⟩ = some (.int .i64 m) ∧
    w1.cell? ⟨w.heap.size + 1 + 1, 0, none⟩ = some (.int .u64 0) ∧ w1.cell? ⟨w.heap.size + 1 + 1, 1, none⟩ = some (.int .i64 0) ∧ w1.frozen? ⟨w.heap.size + 1 + 1, 0, none⟩ = false ∧ w1.frozen? ⟨w.heap.size + 1 + 1, 1, none⟩ = false ∧ w.heap.size + 1 + 1 < w1.heap.size := by
  intro w1 h
  obtain ⟨x, hx⟩ : ∃ x, w.alloc (.cells #[.int .u64 r, .int .i64 n] 42) = x := ⟨_, rfl⟩
  have s1 : x.heap.size = w.heap.size + 1 := by rw [← hx]; simp
  have b0 : x.heap[w.heap.size]? = some (.cells #[.int .u64 r, .int .i64 n] 42 (0, 0)) := by rw [← hx]; exact heap_alloc_new _ _
  obtain ⟨y, hy⟩ : ∃ y, x.alloc (.cells #[.int .u64 s, .int .i64 m] 42) = y := ⟨_, rfl⟩
  have s2 : y.heap.size = w.heap.size + 1 + 1 := by rw [← hy]; simp [s1]
  have b1 : y.heap[w.heap.size + 1]? = some (.cells #[.int .u64 s, .int .i64 m] 42 (0, 0)) := by rw [← hy, ← s1]; exact heap_alloc_new _ _
  have b2 := heap_alloc_new y (.cells #[.int .u64 0, .int .i64 0] 42 (0, 0))
  rw [hx, hy] at h
  have u1 : Upd NoB x y := by rw [← hy]; exact (Upd.refl _ _).alloc _
  have u2 : Upd NoB y (y.alloc (.cells #[.int .u64 0, .int .i64 0] 42)) := (Upd.refl _ _).alloc _
  have k0 := ((u1.trans u2).trans h).heap b0 (fun h => h)
  have k1 := (u2.trans h).heap b1 (fun h => h)
  rw [s2] at b2
  have k2 := h.heap b2 (fun h => h)
  refine ⟨?_, ?_, ?_, ?_, ?_, ?_, ?_, ?_, lt_of_heap k2⟩ <;> simp only [World.cell?, World.frozen?, k0, k1, k2] <;> rfl
set_option maxHeartbeats 2000000 in
theorem max_any (r n s m : Int) (w : World) : Calls Try.prog 36 #[.agg #[.int .u64 r, .int .i64 n], .agg #[.int .u64 s, .int .i64 m]] w fun e w' => e = .returned (if lessB r n s m = true then .agg #[.int .u64 s, .int .i64 m] else .agg #[.int .u64 r, .int .i64 n]) ∧ Upd NoB w w' := by
  have HU := Lib.hid (fun o o' o'' => (((Upd.refl NoB w).alloc o).alloc o').alloc o'')
  by_cases hh : r = s ∧ n = m
  · obtain ⟨rfl, rfl⟩ := hh
    rw [lessB_refl]
    simp only [Bool.false_eq_true, if_false]
    go_enter Try.func36, Try.ntmps36
    go_wp2_with fail
    exact bodyPost_ret (v := .agg #[.int .u64 r, .int .i64 n]) (by simp [results, Try.results36, go_sem, *]) rfl ⟨rfl, HU.out _ _ _⟩
  · have hsw := lessB_swap hh
    have hcl := Lib.hid (max_cells w r n s m)
    have hless := Lib.hid (fun w => less_any s m r n w)
    rw [hsw] at hless
    have hset := Lib.hid (fun x (hx : Upd NoB w x) (hl : w.heap.size + 1 + 1 < x.heap.size) (u v : Value) => show Upd NoB w ((x.setCell ⟨w.heap.size + 1 + 1, 0, none⟩ u).setCell ⟨w.heap.size + 1 + 1, 1, none⟩ v) from (hx.setCell (p := ⟨w.heap.size + 1 + 1, 0, none⟩) (fun e => by simp only at e; omega) u).setCell (p := ⟨w.heap.size + 1 + 1, 1, none⟩) (fun e => by simp only at e; omega) v)
    generalize lessB r n s m = p at *
    clear hsw
    by_cases hr : r = s
    · subst hr
      have hn : ¬ n = m := fun e => hh ⟨rfl, e⟩
      clear hh
      cases p
      · simp only [Bool.false_eq_true, if_false]
        go_enter Try.func36, Try.ntmps36
        go_wp2_with fail
        refine (hless.out _).mono ?_
        rintro e w1 ⟨rfl, hu⟩
        have HU1 := Lib.hid ((HU.out _ _ _).trans hu)
        obtain ⟨w1c, w2c, w3c, w4c, w5c, w6c, w7c, w8c, w9c⟩ := hcl.out w1 hu
        have HS := Lib.hid (hset.out w1 HU1.out w9c)
        clear hu
        go_wp2_with fail
        exact bodyPost_ret (v := .agg #[.int .u64 r, .int .i64 n]) (by simp [results, Try.results36, go_sem, *]) rfl ⟨rfl, HS.out _ _⟩
      · simp only [if_true]
        go_enter Try.func36, Try.ntmps36
        go_wp2_with fail
        refine (hless.out _).mono ?_
        rintro e w1 ⟨rfl, hu⟩
        have HU1 := Lib.hid ((HU.out _ _ _).trans hu)
        obtain ⟨w1c, w2c, w3c, w4c, w5c, w6c, w7c, w8c, w9c⟩ := hcl.out w1 hu
        have HS := Lib.hid (hset.out w1 HU1.out w9c)
        clear hu
        go_wp2_with fail
        exact bodyPost_ret (v := .agg #[.int .u64 r, .int .i64 m]) (by simp [results, Try.results36, go_sem, *]) rfl ⟨rfl, HS.out _ _⟩
    · clear hh
      cases p
      · simp only [Bool.false_eq_true, if_false]
        go_enter Try.func36, Try.ntmps36
        go_wp2_with fail
        refine (hless.out _).mono ?_
        rintro e w1 ⟨rfl, hu⟩
        have HU1 := Lib.hid ((HU.out _ _ _).trans hu)
        obtain ⟨w1c, w2c, w3c, w4c, w5c, w6c, w7c, w8c, w9c⟩ := hcl.out w1 hu
        have HS := Lib.hid (hset.out w1 HU1.out w9c)
        clear hu
        go_wp2_with fail
        exact bodyPost_ret (v := .agg #[.int .u64 r, .int .i64 n]) (by simp [results, Try.results36, go_sem, *]) rfl ⟨rfl, HS.out _ _⟩
      · simp only [if_true]
        go_enter Try.func36, Try.ntmps36
        go_wp2_with fail
        refine (hless.out _).mono ?_
        rintro e w1 ⟨rfl, hu⟩
        have HU1 := Lib.hid ((HU.out _ _ _).trans hu)
        obtain ⟨w1c, w2c, w3c, w4c, w5c, w6c, w7c, w8c, w9c⟩ := hcl.out w1 hu
        have HS := Lib.hid (hset.out w1 HU1.out w9c)
        clear hu
        go_wp2_with fail
        exact bodyPost_ret (v := .agg #[.int .u64 s, .int .i64 m]) (by simp [results, Try.results36, go_sem, *]) rfl ⟨rfl, HS.out _ _⟩
end Go.Proofs.Ytflifeelgamaaaa
