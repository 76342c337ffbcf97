/- Which ballot is less, and which the greater one (BallotOrder): the law's walk. -/
import Derived.Test.YtflifeelgamaaaaBord1
import Derived.Test.YtflifeelgamaaaaBallotNext
namespace Go.Proofs.Ytflifeelgamaaaa
open Go.RowKit Kit
set_option linter.unusedVariables false

theorem order_boxes (w : World) (r0 n0 r1 n1 r2 n2 : Int) : ∃ wa, ((w.alloc (.cells #[.int .u64 r0, .int .i64 n0] 41)).alloc (.cells #[.int .u64 r1, .int .i64 n1] 41)).alloc (.cells #[.int .u64 r2, .int .i64 n2] 41) = wa ∧ Upd NoB w wa ∧ wa.heap.size = w.heap.size + 3 ∧
    ∀ x, Upd (fun b => w.heap.size + 3 ≤ b) wa x → x.cell? ⟨w.heap.size, 0, none⟩ = some (.int .u64 r0) ∧ x.cell? ⟨w.heap.size, 1, none⟩ = some (.int .i64 n0) ∧ x.cell? ⟨w.heap.size + 1, 0, none⟩ = some (.int .u64 r1) ∧ x.cell? ⟨w.heap.size + 1, 1, none⟩ = some (.int .i64 n1) ∧
      x.cell? ⟨w.heap.size + 1 + 1, 0, none⟩ = some (.int .u64 r2) ∧ x.cell? ⟨w.heap.size + 1 + 1, 1, none⟩ = some (.int .i64 n2) := by
  refine ⟨_, rfl, (((Upd.refl _ _).alloc _).alloc _).alloc _, by simp, ?_⟩
  obtain ⟨x, hx⟩ : ∃ x, w.alloc (.cells #[.int .u64 r0, .int .i64 n0] 41) = x := ⟨_, rfl⟩
  have s1 : x.heap.size = w.heap.size + 1 := by rw [← hx]; simp
  have b0 : x.heap[w.heap.size]? = some (.cells #[.int .u64 r0, .int .i64 n0] 41 (0, 0)) := by rw [← hx]; exact heap_alloc_new _ _
  obtain ⟨y, hy⟩ : ∃ y, x.alloc (.cells #[.int .u64 r1, .int .i64 n1] 41) = y := ⟨_, rfl⟩
  have s2 : y.heap.size = w.heap.size + 1 + 1 := by rw [← hy]; simp [s1]
  have b1 : y.heap[w.heap.size + 1]? = some (.cells #[.int .u64 r1, .int .i64 n1] 41 (0, 0)) := by rw [← hy, ← s1]; exact heap_alloc_new _ _
  have b2 := heap_alloc_new y (.cells #[.int .u64 r2, .int .i64 n2] 41 (0, 0))
  rw [hx, hy]
  intro w1 h
  have u1 : Upd NoB x y := by rw [← hy]; exact (Upd.refl _ _).alloc _
  have u2 : Upd NoB y (y.alloc (.cells #[.int .u64 r2, .int .i64 n2] 41)) := (Upd.refl _ _).alloc _
  have k0 := h.heap ((u1.trans u2).heap b0 (fun h => h)) (by omega)
  have k1 := h.heap (u2.heap b1 (fun h => h)) (by omega)
  rw [s2] at b2
  have k2 := h.heap b2 (by omega)
  refine ⟨?_, ?_, ?_, ?_, ?_, ?_⟩ <;> simp only [World.cell?, k0, k1, k2] <;> rfl
/-- Three pointers, as far as they are made: to blocks that are new since wa, apart, and zero. -/
def Fr (wa x : World) (o7 o8 o9 : Option Nat) : Prop :=
  Upd NoB wa x ∧ (∀ b, (o7 = some b ∨ o8 = some b ∨ o9 = some b) → wa.heap.size ≤ b ∧ x.heap[b]? = some (.cells #[.int .u64 0, .int .i64 0] 42 (0, 0))) ∧ (∀ b, o7 = some b → o8 ≠ some b ∧ o9 ≠ some b) ∧ (∀ b, o8 = some b → o9 ≠ some b)
section
variable {wa x x' : World} {o7 o8 o9 : Option Nat}
theorem Fr.start (wa : World) : Fr wa wa none none none := ⟨Upd.refl _ _, by simp, by simp, by simp⟩
theorem Fr.upd (h : Fr wa x o7 o8 o9) (u : Upd NoB x x') : Fr wa x' o7 o8 o9 :=
  ⟨h.1.trans u, fun b hb => ⟨(h.2.1 b hb).1, u.heap (h.2.1 b hb).2 (fun h => h)⟩, h.2.2.1, h.2.2.2⟩
theorem Fr.ne (h : Fr wa x o7 o8 o9) : o7 ≠ some x.heap.size ∧ o8 ≠ some x.heap.size ∧ o9 ≠ some x.heap.size := by
  have k : ∀ b, (o7 = some b ∨ o8 = some b ∨ o9 = some b) → b < x.heap.size := fun b hb => lt_of_heap (h.2.1 b hb).2
  exact ⟨fun e => absurd (k _ (.inl e)) (by omega), fun e => absurd (k _ (.inr (.inl e))) (by omega), fun e => absurd (k _ (.inr (.inr e))) (by omega)⟩
theorem Fr.fresh (h : Fr wa x o7 o8 o9) : wa.heap.size ≤ x.heap.size ∧ (x.alloc (.cells #[.int .u64 0, .int .i64 0] 42)).heap[x.heap.size]? = some (.cells #[.int .u64 0, .int .i64 0] 42 (0, 0)) := ⟨h.1.size, heap_alloc_new _ _⟩
theorem Fr.a7 (h : Fr wa x none o8 o9) : Fr wa (x.alloc (.cells #[.int .u64 0, .int .i64 0] 42)) (some x.heap.size) o8 o9 := by
  obtain ⟨g1, g2, g3, g4⟩ := h.upd ((Upd.refl NoB x).alloc (.cells #[.int .u64 0, .int .i64 0] 42))
  refine ⟨g1, fun b hb => ?_, fun b hb => ?_, g4⟩
  · rcases hb with e | e | e
    · cases e; exact h.fresh
    · exact g2 b (.inr (.inl e))
    · exact g2 b (.inr (.inr e))
  · cases hb; exact ⟨h.ne.2.1, h.ne.2.2⟩
theorem Fr.a8 (h : Fr wa x o7 none o9) : Fr wa (x.alloc (.cells #[.int .u64 0, .int .i64 0] 42)) o7 (some x.heap.size) o9 := by
  obtain ⟨g1, g2, g3, g4⟩ := h.upd ((Upd.refl NoB x).alloc (.cells #[.int .u64 0, .int .i64 0] 42))
  refine ⟨g1, fun b hb => ?_, fun b hb => ⟨fun e => ?_, (g3 b hb).2⟩, fun b hb => ?_⟩
  · rcases hb with e | e | e
    · exact g2 b (.inl e)
    · cases e; exact h.fresh
    · exact g2 b (.inr (.inr e))
  · cases e; exact h.ne.1 hb
  · cases hb; exact h.ne.2.2
theorem Fr.a9 (h : Fr wa x o7 o8 none) : Fr wa (x.alloc (.cells #[.int .u64 0, .int .i64 0] 42)) o7 o8 (some x.heap.size) := by
  obtain ⟨g1, g2, g3, g4⟩ := h.upd ((Upd.refl NoB x).alloc (.cells #[.int .u64 0, .int .i64 0] 42))
  refine ⟨g1, fun b hb => ?_, fun b hb => ⟨(g3 b hb).1, fun e => ?_⟩, fun b hb e => ?_⟩
  · rcases hb with e | e | e
    · exact g2 b (.inl e)
    · exact g2 b (.inr (.inl e))
    · cases e; exact h.fresh
  · cases e; exact h.ne.1 hb
  · cases e; exact h.ne.2.1 hb
end
theorem zero_cells {x : World} {b : Nat} {T : TypeId} (h : x.heap[b]? = some (.cells #[.int .u64 0, .int .i64 0] T (0, 0))) : x.cell? ⟨b, 0, none⟩ = some (.int .u64 0) ∧ x.cell? ⟨b, 1, none⟩ = some (.int .i64 0) ∧ ∀ i, x.frozen? ⟨b, i, none⟩ = false := by
  refine ⟨?_, ?_, fun i => ?_⟩
  · simp only [World.cell?, h]; rfl
  · simp only [World.cell?, h]; rfl
  · simp [World.frozen?, h]
theorem Fr.zeros {wa x : World} {b7 b8 b9 : Nat} (h : Fr wa x (some b7) (some b8) (some b9)) :
    x.cell? ⟨b7, 0, none⟩ = some (.int .u64 0) ∧ x.cell? ⟨b7, 1, none⟩ = some (.int .i64 0) ∧ (∀ i, x.frozen? ⟨b7, i, none⟩ = false) ∧
    x.cell? ⟨b8, 0, none⟩ = some (.int .u64 0) ∧ x.cell? ⟨b8, 1, none⟩ = some (.int .i64 0) ∧ (∀ i, x.frozen? ⟨b8, i, none⟩ = false) ∧
    x.cell? ⟨b9, 0, none⟩ = some (.int .u64 0) ∧ x.cell? ⟨b9, 1, none⟩ = some (.int .i64 0) ∧ (∀ i, x.frozen? ⟨b9, i, none⟩ = false) ∧
    b7 ≠ b8 ∧ b7 ≠ b9 ∧ b8 ≠ b9 ∧ b8 ≠ b7 ∧ b9 ≠ b7 ∧ b9 ≠ b8 := by
  obtain ⟨_, g2, g3, g4⟩ := h
  obtain ⟨x1, x2, x3⟩ := zero_cells (g2 b7 (.inl rfl)).2
  obtain ⟨y1, y2, y3⟩ := zero_cells (g2 b8 (.inr (.inl rfl))).2
  obtain ⟨t1, t2, t3⟩ := zero_cells (g2 b9 (.inr (.inr rfl))).2
  have m1 : b8 ≠ b7 := fun e => (g3 b7 rfl).1 (by rw [e])
  have m2 : b9 ≠ b7 := fun e => (g3 b7 rfl).2 (by rw [e])
  have m3 : b9 ≠ b8 := fun e => (g4 b8 rfl) (by rw [e])
  exact ⟨x1, x2, x3, y1, y2, y3, t1, t2, t3, Ne.symm m1, Ne.symm m2, Ne.symm m3, m1, m2, m3⟩
theorem heap_put2 {w : World} {p : Nat} {T : TypeId} {c0 c1 : Value} {fr : Nat × Nat} (h : w.heap[p]? = some (.cells #[c0, c1] T fr)) (u v : Value) : ((w.setCell ⟨p, 0, none⟩ u).setCell ⟨p, 1, none⟩ v).heap[p]? = some (.cells #[u, v] T fr) := by
  simp only [World.setCell, Array.getElem?_modify, if_true, h]
  rfl
theorem heap_put_ne {w : World} {p b : Nat} {o : Obj} (h : w.heap[b]? = some o) (hne : b ≠ p) (u v : Value) : ((w.setCell ⟨p, 0, none⟩ u).setCell ⟨p, 1, none⟩ v).heap[b]? = some o := by
  rw [Below.heap_setCell _ _ _ _ (by exact hne), Below.heap_setCell _ _ _ _ (by exact hne), h]
theorem two_cells {x : World} {b : Nat} {T : TypeId} {fr : Nat × Nat} {c0 c1 : Value} (h : x.heap[b]? = some (.cells #[c0, c1] T fr)) :
    x.cell? ⟨b, 0, none⟩ = some c0 ∧ x.cell? ⟨b, 1, none⟩ = some c1 := by
  simp [World.cell?, h]
theorem order_stored {wa x : World} {b7 b8 b9 : Nat} (h : Fr wa x (some b7) (some b8) (some b9)) (v0 v1 v2 v3 v4 v5 : Value) :
    ∃ wz, ((((((x.setCell ⟨b7, 0, none⟩ v0).setCell ⟨b7, 1, none⟩ v1).setCell ⟨b8, 0, none⟩ v2).setCell ⟨b8, 1, none⟩ v3).setCell ⟨b9, 0, none⟩ v4).setCell ⟨b9, 1, none⟩ v5) = wz ∧ Upd NoB wa wz ∧
      ∀ y, Upd NoB wz y → y.cell? ⟨b7, 0, none⟩ = some v0 ∧ y.cell? ⟨b7, 1, none⟩ = some v1 ∧ y.cell? ⟨b8, 0, none⟩ = some v2 ∧ y.cell? ⟨b8, 1, none⟩ = some v3 ∧ y.cell? ⟨b9, 0, none⟩ = some v4 ∧ y.cell? ⟨b9, 1, none⟩ = some v5 := by
  obtain ⟨_, _, _, _, _, _, _, _, _, n78, n79, n89, n87, n97, n98⟩ := h.zeros
  obtain ⟨g1, g2, _, _⟩ := h
  obtain ⟨l7, k7⟩ := g2 b7 (.inl rfl)
  obtain ⟨l8, k8⟩ := g2 b8 (.inr (.inl rfl))
  obtain ⟨l9, k9⟩ := g2 b9 (.inr (.inr rfl))
  have lt : ∀ {b : Nat}, wa.heap.size ≤ b → b < wa.heap.size → NoB b := fun h1 h2 => absurd h2 (by omega)
  refine ⟨_, rfl, (((((g1.setCell (lt l7) _).setCell (lt l7) _).setCell (lt l8) _).setCell (lt l8) _).setCell (lt l9) _).setCell (lt l9) _, fun y hy => ?_⟩
  have e7 := hy.heap (heap_put_ne (heap_put_ne (heap_put2 k7 v0 v1) n78 v2 v3) n79 v4 v5) (fun h => h)
  have e8 := hy.heap (heap_put_ne (heap_put2 (heap_put_ne k8 n87 v0 v1) v2 v3) n89 v4 v5) (fun h => h)
  have e9 := hy.heap (heap_put2 (heap_put_ne (heap_put_ne k9 n97 v0 v1) n98 v2 v3) v4 v5) (fun h => h)
  exact ⟨(two_cells e7).1, (two_cells e7).2, (two_cells e8).1, (two_cells e8).2, (two_cells e9).1, (two_cells e9).2⟩
theorem lessB_trans {a b c d e f : Int} (h : lessB a b c d = true) (k : lessB c d e f = true) : lessB a b e f = true := by
  unfold lessB at *
  by_cases h1 : a = c <;> by_cases h2 : c = e <;> by_cases h3 : a = e <;> simp_all <;> omega
theorem awakeB_any (w : World) : Calls Try.prog 21 #[] w fun e w' => e = .returned (.bool true) ∧ Upd NoB w w' := by
  have h := next_awake 0
  exact (PBallotNext.sautoirlaw07_awake.calls 8 true w h).mono fun e w' ⟨he, hd⟩ => ⟨he, Upd.of_below hd _⟩
theorem most_box {wz W : World} (hU : Upd NoB wz W) (r n : Int) : ∀ y, Upd NoB (W.alloc (.cells #[.int .u64 r, .int .i64 n] 41)) y →
    y.cell? ⟨W.heap.size, 0, none⟩ = some (.int .u64 r) ∧ y.cell? ⟨W.heap.size, 1, none⟩ = some (.int .i64 n) ∧ (∀ i, y.frozen? ⟨W.heap.size, i, none⟩ = false) ∧ Upd NoB wz y ∧ y.heap[W.heap.size]? = some (.cells #[.int .u64 r, .int .i64 n] 41 (0, 0)) := by
  intro y hy
  have h := hy.heap (heap_alloc_new W (.cells #[.int .u64 r, .int .i64 n] 41 (0, 0))) (fun h => h)
  exact ⟨(two_cells h).1, (two_cells h).2, fun i => by simp [World.frozen?, h], (hU.alloc _).trans hy, h⟩
theorem most_set {wz y : World} {b : Nat} {r n : Int} (hb : wz.heap.size ≤ b) (hU : Upd NoB wz y) (h : y.heap[b]? = some (.cells #[.int .u64 r, .int .i64 n] 41 (0, 0))) (u v : Value) :
    ∃ w9, ((y.setCell ⟨b, 0, none⟩ u).setCell ⟨b, 1, none⟩ v) = w9 ∧ Upd NoB wz w9 ∧ ∀ x, Upd NoB w9 x → x.cell? ⟨b, 0, none⟩ = some u ∧ x.cell? ⟨b, 1, none⟩ = some v := by
  refine ⟨_, rfl, (hU.setCell (p := ⟨b, 0, none⟩) (fun e => absurd e (by simp only; omega)) u).setCell (p := ⟨b, 1, none⟩) (fun e => absurd e (by simp only; omega)) v, fun x hx => two_cells (hx.heap (heap_put2 h u v) (fun h => h))⟩
section
variable {P : Program} {ops : Array Oper} {Q : Exit → Act → World → Prop} {F : Nat → Prop} {fuel n : Nat} {listed L L' : Array Bool} {a : Act} {w : World}
theorem sched_some (is : List Nat) (hr : Region.ready .any ops listed = is) (hne : is ≠ [])
    (h : ∀ i ∈ is, ∃ oi, ops[i]? = some oi ∧ Region.wanted oi (yielded ops a.tmps) = true ∧ oi.wp P a w (fun a' w' => Upd F w w' ∧ Sched P ops Q F fuel (listed.setIfInBounds i true) a' w') Q) : Sched P ops Q F (fuel + 1) listed a w := by
  refine wpAnyH_all hr hne ?_
  intro k hk
  obtain ⟨oi, hi, hwi, h1⟩ := h k hk
  unfold wpOp
  simp only [hi]
  rw [if_pos hwi]
  exact .inl (Oper.wp_mono (fun a' w' h' => ⟨h'.1, heldMono (fun x hx => h'.1.trans hx) _ _ _ _ h'.2⟩) h1)
theorem sched_open (h : ∀ S : Nat → Array Bool → Act → World → Prop, (∀ n L a w, S n L a w ↔ Sched P ops Q F n L a w) → S n L a w) : Sched P ops Q F n L a w := h (Sched P ops Q F) (fun _ _ _ _ => Iff.rfl)
theorem sched_listed (e : L = L') (h : Sched P ops Q F n L' a w) : Sched P ops Q F n L a w := e ▸ h
end
set_option maxHeartbeats 4000000 in
set_option maxRecDepth 100000 in
theorem ballotOrder_walk (r0 n0 r1 n1 r2 n2 : Int) (w : World) :
    Calls Try.prog 7 #[.agg #[.int .u64 r0, .int .i64 n0], .agg #[.int .u64 r1, .int .i64 n1], .agg #[.int .u64 r2, .int .i64 n2]] w fun e w' => e = .returned (.bool true) ∧ Upd NoB w w' := by
  obtain ⟨wa, hwa, hu0, hs0, hcl0⟩ := order_boxes w r0 n0 r1 n1 r2 n2
  have hcl := Lib.hid hcl0
  have HU := Lib.hid hu0
  have hs := Lib.hid hs0
  have hours := Lib.hid ours_any
  have hless01 := Lib.hid (less_any r0 n0 r1 n1)
  have hless10 := Lib.hid (less_any r1 n1 r0 n0)
  have hless12 := Lib.hid (less_any r1 n1 r2 n2)
  have hless02 := Lib.hid (less_any r0 n0 r2 n2)
  have hrl01 := Lib.hid (refless_any r0 n0 r1 n1)
  have hmax := Lib.hid (max_any r0 n0 r1 n1)
  have hplain := Lib.hid plain_any
  have hawake := Lib.hid awakeB_any
  clear hu0 hs0 hcl0
  go_enter Try.func7, Try.ntmps7
  go_wp2_with fail
  clear hwa
  refine sched_begin (fun b => w.heap.size + 3 ≤ b) (by kernel_rfl) ?_
  refine sched_take 0 rfl (by kernel_rfl) (by kernel_rfl) (by kernel_rfl) (fun _ _ _ h => h) rfl (fun x hx => by obtain ⟨q0, q1, q2, q3, q4, q5⟩ := hcl.out x ((Upd.refl _ wa).drew.trans hx); go_simp; rfl) ?_
  go_simp
  refine sched_take 2 rfl (by kernel_rfl) (by kernel_rfl) (by kernel_rfl) (fun _ _ _ h => h) rfl (fun x hx => by obtain ⟨q0, q1, q2, q3, q4, q5⟩ := hcl.out x ((Upd.refl _ wa).drew.trans hx); go_simp; rfl) ?_
  go_simp
  refine sched_take 4 rfl (by kernel_rfl) (by kernel_rfl) (by kernel_rfl) (fun _ _ _ h => h) rfl (fun x hx => by obtain ⟨q0, q1, q2, q3, q4, q5⟩ := hcl.out x ((Upd.refl _ wa).drew.trans hx); go_simp; rfl) ?_
  go_simp
  refine sched_open ?_
  intro S hS0
  have hS := Lib.hid hS0
  clear hS0
  have S3789 : ∀ (x : World) (b7 b8 b9 : Nat), Fr wa x (some b7) (some b8) (some b9) → S 3 #[true, true, true, true, true, true, true, true, true, false, false, false] ⟨#[.agg #[.int .u64 r0, .int .i64 n0], .agg #[.int .u64 r1, .int .i64 n1], .agg #[.int .u64 r2, .int .i64 n2], .pointer (some ⟨w.heap.size, 0, none⟩), .pointer (some ⟨w.heap.size + 1, 0, none⟩), .pointer (some ⟨w.heap.size + 1 + 1, 0, none⟩), .bool false, .pointer (some ⟨b7, 0, none⟩), .pointer (some ⟨b8, 0, none⟩), .pointer (some ⟨b9, 0, none⟩), undef, .agg #[.int .u64 r0, .int .i64 n0], .agg #[.int .u64 r0, .int .i64 n0], .agg #[.int .u64 r1, .int .i64 n1], .agg #[.int .u64 r1, .int .i64 n1], .agg #[.int .u64 r2, .int .i64 n2], .agg #[.int .u64 r2, .int .i64 n2], undef, undef, undef, undef, undef, undef, undef, undef, undef, undef, undef, undef, undef, undef, undef, undef, undef, undef, undef, undef, undef, undef, undef, undef, undef, undef, undef, undef, undef, undef, undef, undef, undef, undef, undef, undef, undef, undef, undef, undef, undef, undef, undef, undef, undef, undef, undef, undef, undef, undef, undef], []⟩ x := by
    intro x b7 b8 b9 hf0
    have hf := Lib.hid hf0
    clear hf0
    refine (hS.out _ _ _ _).2 ?_
    obtain ⟨z0, z1, z2, z3, z4, z5, z6, z7, z8, n78, n79, n89, n87, n97, n98⟩ := hf.out.zeros
    have g7 : w.heap.size + 3 ≤ b7 := by rw [← hs.out]; exact (hf.out.2.1 b7 (.inl rfl)).1
    have g8 : w.heap.size + 3 ≤ b8 := by rw [← hs.out]; exact (hf.out.2.1 b8 (.inr (.inl rfl))).1
    have g9 : w.heap.size + 3 ≤ b9 := by rw [← hs.out]; exact (hf.out.2.1 b9 (.inr (.inr rfl))).1
    have hst := Lib.hid (fun (y : World) (b : Nat) (hb : w.heap.size + 3 ≤ b) (u v : Value) => show Upd (fun b => w.heap.size + 3 ≤ b) y ((y.setCell ⟨b, 0, none⟩ u).setCell ⟨b, 1, none⟩ v) from ((Upd.refl _ _).setCell (p := ⟨b, 0, none⟩) (fun _ => hb) u).setCell (p := ⟨b, 1, none⟩) (fun _ => hb) v)
    refine sched_alone 9 (by kernel_rfl) rfl rfl ?_
    go_simp
    refine ⟨hst.out _ _ g7 _ _, ?_⟩
    refine sched_alone 10 (by kernel_rfl) rfl rfl ?_
    go_simp
    refine ⟨hst.out _ _ g8 _ _, ?_⟩
    refine sched_alone 11 (by kernel_rfl) rfl rfl ?_
    go_simp
    refine ⟨hst.out _ _ g9 _ _, ?_⟩
    refine sched_done (by kernel_rfl) ?_
    obtain ⟨wz, hwz, huz, hcz0⟩ := order_stored hf.out (.int .u64 r0) (.int .i64 n0) (.int .u64 r1) (.int .i64 n1) (.int .u64 r2) (.int .i64 n2)
    have hcz := Lib.hid (fun y (hy : Upd NoB wz y) => show _ ∧ _ ∧ _ ∧ _ ∧ _ ∧ _ ∧ _ ∧ _ ∧ _ ∧ _ ∧ _ ∧ _ from ⟨(hcz0 y hy).1, (hcz0 y hy).2.1, (hcz0 y hy).2.2.1, (hcz0 y hy).2.2.2.1, (hcz0 y hy).2.2.2.2.1, (hcz0 y hy).2.2.2.2.2, hcl.out y ((huz.trans hy).mono (fun _ _ h => h.elim))⟩)
    have HUz := Lib.hid (HU.out.trans huz)
    have hwzs := Lib.hid (show w.heap.size + 3 ≤ wz.heap.size by rw [← hs.out]; exact huz.size)
    rw [hwz]
    clear hcz0 huz hwz hf hst z0 z1 z2 z3 z4 z5 z6 z7 z8 n78 n79 n89 n87 n97 n98 g7 g8 g9 hS hcl hours
    by_cases he : r0 = r1 ∧ n0 = n1
    · obtain ⟨rfl, rfl⟩ := he
      rw [lessB_refl] at hless01 hless10 hrl01 hmax
      simp only [Bool.false_eq_true, if_false] at hmax
      go_wp2_with fail
      refine sched_begin NoB (by kernel_rfl) ?_
      have HUw0 := Lib.hid (Upd.refl NoB wz).drew
      refine sched_take 0 rfl (by kernel_rfl) (by kernel_rfl) (by kernel_rfl) (fun _ _ _ h => h) rfl (fun x hx => by obtain ⟨y0, y1, y2, y3, y4, y5, y6, y7, y8, y9, y10, y11⟩ := hcz.out x (HUw0.out.trans hx); go_simp; rfl) ?_
      go_simp
      refine sched_take 1 rfl (by kernel_rfl) (by kernel_rfl) (by kernel_rfl) (fun _ _ _ h => h) rfl (fun x hx => by obtain ⟨y0, y1, y2, y3, y4, y5, y6, y7, y8, y9, y10, y11⟩ := hcz.out x (HUw0.out.trans hx); go_simp; rfl) ?_
      go_simp
      refine sched_take 3 rfl (by kernel_rfl) (by kernel_rfl) (by kernel_rfl) (fun _ _ _ h => h) rfl (fun x hx => by obtain ⟨y0, y1, y2, y3, y4, y5, y6, y7, y8, y9, y10, y11⟩ := hcz.out x (HUw0.out.trans hx); go_simp; rfl) ?_
      go_simp
      refine sched_take 4 rfl (by kernel_rfl) (by kernel_rfl) (by kernel_rfl) (fun _ _ _ h => h) rfl (fun x hx => by obtain ⟨y0, y1, y2, y3, y4, y5, y6, y7, y8, y9, y10, y11⟩ := hcz.out x (HUw0.out.trans hx); go_simp; rfl) ?_
      go_simp
      refine sched_alone 2 (by kernel_rfl) rfl rfl ?_
      go_simp
      refine (hless01.out _).mono ?_
      rintro e w1 ⟨rfl, hu⟩
      refine ⟨hu, ?_⟩
      have HUw1 := Lib.hid (HUw0.out.trans hu)
      clear hu
      go_simp
      refine sched_alone 5 (by kernel_rfl) rfl rfl ?_
      go_simp
      refine (hrl01.out _).mono ?_
      rintro e w2 ⟨rfl, hu⟩
      refine ⟨hu, ?_⟩
      have HUw2 := Lib.hid (HUw1.out.trans hu)
      clear hu
      go_simp
      refine sched_take 6 rfl (by kernel_rfl) (by kernel_rfl) (by kernel_rfl) (fun _ _ _ h => h) rfl (fun x hx => by go_simp; rfl) ?_
      go_simp
      refine sched_take 7 rfl (by kernel_rfl) (by kernel_rfl) (by kernel_rfl) (fun _ _ _ h => h) rfl (fun x hx => by go_simp; rfl) ?_
      go_simp
      refine sched_take 8 rfl (by kernel_rfl) (by kernel_rfl) (by kernel_rfl) (fun _ _ _ h => h) rfl (fun x hx => by obtain ⟨y0, y1, y2, y3, y4, y5, y6, y7, y8, y9, y10, y11⟩ := hcz.out x (HUw2.out.trans hx); go_simp; rfl) ?_
      go_simp
      refine sched_take 9 rfl (by kernel_rfl) (by kernel_rfl) (by kernel_rfl) (fun _ _ _ h => h) rfl (fun x hx => by obtain ⟨y0, y1, y2, y3, y4, y5, y6, y7, y8, y9, y10, y11⟩ := hcz.out x (HUw2.out.trans hx); go_simp; rfl) ?_
      go_simp
      refine sched_take 16 rfl (by kernel_rfl) (by kernel_rfl) (by kernel_rfl) (fun _ _ _ h => h) rfl (fun x hx => by obtain ⟨y0, y1, y2, y3, y4, y5, y6, y7, y8, y9, y10, y11⟩ := hcz.out x (HUw2.out.trans hx); go_simp; rfl) ?_
      go_simp
      refine sched_take 17 rfl (by kernel_rfl) (by kernel_rfl) (by kernel_rfl) (fun _ _ _ h => h) rfl (fun x hx => by obtain ⟨y0, y1, y2, y3, y4, y5, y6, y7, y8, y9, y10, y11⟩ := hcz.out x (HUw2.out.trans hx); go_simp; rfl) ?_
      go_simp
      refine sched_take (v := .bool false) 18 rfl (by kernel_rfl) (by kernel_rfl) (by kernel_rfl) (fun _ _ _ h => h) rfl (fun x' hx => by go_simp; skip) ?_
      go_simp
      refine sched_alone 10 (by kernel_rfl) rfl rfl ?_
      go_simp
      refine (hless01.out _).mono ?_
      rintro e w3 ⟨rfl, hu⟩
      refine ⟨hu, ?_⟩
      have HUw3 := Lib.hid (HUw2.out.trans hu)
      clear hu
      go_simp
      refine sched_take 11 rfl (by kernel_rfl) (by kernel_rfl) (by kernel_rfl) (fun _ _ _ h => h) rfl (fun x hx => by go_simp; rfl) ?_
      go_simp
      refine sched_take 12 rfl (by kernel_rfl) (by kernel_rfl) (by kernel_rfl) (fun _ _ _ h => h) rfl (fun x hx => by obtain ⟨y0, y1, y2, y3, y4, y5, y6, y7, y8, y9, y10, y11⟩ := hcz.out x (HUw3.out.trans hx); go_simp; rfl) ?_
      go_simp
      refine sched_take 13 rfl (by kernel_rfl) (by kernel_rfl) (by kernel_rfl) (fun _ _ _ h => h) rfl (fun x hx => by obtain ⟨y0, y1, y2, y3, y4, y5, y6, y7, y8, y9, y10, y11⟩ := hcz.out x (HUw3.out.trans hx); go_simp; rfl) ?_
      go_simp
      refine sched_alone 14 (by kernel_rfl) rfl rfl ?_
      go_simp
      refine (hless10.out _).mono ?_
      rintro e w4 ⟨rfl, hu⟩
      refine ⟨hu, ?_⟩
      have HUw4 := Lib.hid (HUw3.out.trans hu)
      clear hu
      go_simp
      refine sched_take 15 rfl (by kernel_rfl) (by kernel_rfl) (by kernel_rfl) (fun _ _ _ h => h) rfl (fun x hx => by go_simp; rfl) ?_
      go_simp
      refine sched_take 19 rfl (by kernel_rfl) (by kernel_rfl) (by kernel_rfl) (fun _ _ _ h => h) rfl (fun x hx => by go_simp; rfl) ?_
      go_simp
      refine sched_take 20 rfl (by kernel_rfl) (by kernel_rfl) (by kernel_rfl) (fun _ _ _ h => h) rfl (fun x hx => by go_simp; rfl) ?_
      go_simp
      refine sched_take 21 rfl (by kernel_rfl) (by kernel_rfl) (by kernel_rfl) (fun _ _ _ h => h) rfl (fun x hx => by go_simp; rfl) ?_
      go_simp
      refine sched_take 22 rfl (by kernel_rfl) (by kernel_rfl) (by kernel_rfl) (fun _ _ _ h => h) rfl (fun x hx => by obtain ⟨y0, y1, y2, y3, y4, y5, y6, y7, y8, y9, y10, y11⟩ := hcz.out x (HUw4.out.trans hx); go_simp; rfl) ?_
      go_simp
      refine sched_take 23 rfl (by kernel_rfl) (by kernel_rfl) (by kernel_rfl) (fun _ _ _ h => h) rfl (fun x hx => by obtain ⟨y0, y1, y2, y3, y4, y5, y6, y7, y8, y9, y10, y11⟩ := hcz.out x (HUw4.out.trans hx); go_simp; rfl) ?_
      go_simp
      refine sched_alone 24 (by kernel_rfl) rfl rfl ?_
      go_simp
      refine (hless01.out _).mono ?_
      rintro e w5 ⟨rfl, hu⟩
      refine ⟨hu, ?_⟩
      have HUw5 := Lib.hid (HUw4.out.trans hu)
      clear hu
      go_simp
      refine sched_take 25 rfl (by kernel_rfl) (by kernel_rfl) (by kernel_rfl) (fun _ _ _ h => h) rfl (fun x hx => by go_simp; rfl) ?_
      go_simp
      refine sched_skip 26 rfl (by kernel_rfl) (by kernel_rfl) (by kernel_rfl) (fun _ _ _ h => h) rfl ?_
      go_simp
      refine sched_skip 27 rfl (by kernel_rfl) (by kernel_rfl) (by kernel_rfl) (fun _ _ _ h => h) rfl ?_
      go_simp
      refine sched_skip 28 rfl (by kernel_rfl) (by kernel_rfl) (by kernel_rfl) (fun _ _ _ h => h) rfl ?_
      go_simp
      refine sched_take 29 rfl (by kernel_rfl) (by kernel_rfl) (by kernel_rfl) (fun _ _ _ h => h) rfl (fun x hx => by go_simp; rfl) ?_
      go_simp
      refine sched_take 30 rfl (by kernel_rfl) (by kernel_rfl) (by kernel_rfl) (fun _ _ _ h => h) rfl (fun x hx => by go_simp; rfl) ?_
      go_simp
      refine sched_skip 31 rfl (by kernel_rfl) (by kernel_rfl) (by kernel_rfl) (fun _ _ _ h => h) rfl ?_
      go_simp
      refine sched_skip 32 rfl (by kernel_rfl) (by kernel_rfl) (by kernel_rfl) (fun _ _ _ h => h) rfl ?_
      go_simp
      refine sched_skip 33 rfl (by kernel_rfl) (by kernel_rfl) (by kernel_rfl) (fun _ _ _ h => h) rfl ?_
      go_simp
      refine sched_skip 34 rfl (by kernel_rfl) (by kernel_rfl) (by kernel_rfl) (fun _ _ _ h => h) rfl ?_
      go_simp
      refine sched_take 35 rfl (by kernel_rfl) (by kernel_rfl) (by kernel_rfl) (fun _ _ _ h => h) rfl (fun x hx => by go_simp; rfl) ?_
      go_simp
      refine sched_take 36 rfl (by kernel_rfl) (by kernel_rfl) (by kernel_rfl) (fun _ _ _ h => h) rfl (fun x hx => by go_simp; rfl) ?_
      go_simp
      refine sched_done (by kernel_rfl) ?_
      obtain ⟨y0, y1, y2, y3, y4, y5, y6, y7, y8, y9, y10, y11⟩ := hcz.out w5 HUw5.out
      have hmb := Lib.hid (most_box HUw5.out r0 n0)
      have t0 : w.heap.size < w5.heap.size := by have := HUw5.out.size; have := hwzs.out; omega
      have t1 : w.heap.size + 1 < w5.heap.size := by have := HUw5.out.size; have := hwzs.out; omega
      have t2 : w.heap.size + 1 + 1 < w5.heap.size := by have := HUw5.out.size; have := hwzs.out; omega
      go_wp2_with fail
      refine (hrl01.out _).mono ?_
      rintro e w8 ⟨rfl, hu⟩
      obtain ⟨a0, a1, a2, a3, a4⟩ := hmb.out w8 hu
      replace a4 := Lib.hid a4
      replace a3 := Lib.hid a3
      clear hu t0 t1 t2 y0 y1 y2 y3 y4 y5 y6 y7 y8 y9 y10 y11
      obtain ⟨y0, y1, y2, y3, y4, y5, y6, y7, y8, y9, y10, y11⟩ := hcz.out w8 a3.out
      have HUw9 := a3
      have hmost := Lib.hid (fun x (hx : Upd NoB w8 x) => two_cells (hx.heap a4.out (fun h => h)))
      clear a0 a1 a2 a3 a4 y0 y1 y2 y3 y4 y5 y6 y7 y8 y9 y10 y11
      go_wp2_with fail
      refine sched_begin NoB (by kernel_rfl) ?_
      have HUd := Lib.hid HUw9.out.drew
      have HMd := Lib.hid (Upd.refl NoB w8).drew
      refine sched_take 0 rfl (by kernel_rfl) (by kernel_rfl) (by kernel_rfl) (fun _ _ _ h => h) rfl (fun x hx => by obtain ⟨y0, y1, y2, y3, y4, y5, y6, y7, y8, y9, y10, y11⟩ := hcz.out x (HUd.out.trans hx); obtain ⟨m0, m1⟩ := hmost.out x (HMd.out.trans hx); go_simp; rfl) ?_
      go_simp
      refine sched_take 1 rfl (by kernel_rfl) (by kernel_rfl) (by kernel_rfl) (fun _ _ _ h => h) rfl (fun x hx => by obtain ⟨y0, y1, y2, y3, y4, y5, y6, y7, y8, y9, y10, y11⟩ := hcz.out x (HUd.out.trans hx); obtain ⟨m0, m1⟩ := hmost.out x (HMd.out.trans hx); go_simp; rfl) ?_
      go_simp
      refine sched_take 4 rfl (by kernel_rfl) (by kernel_rfl) (by kernel_rfl) (fun _ _ _ h => h) rfl (fun x hx => by obtain ⟨y0, y1, y2, y3, y4, y5, y6, y7, y8, y9, y10, y11⟩ := hcz.out x (HUd.out.trans hx); obtain ⟨m0, m1⟩ := hmost.out x (HMd.out.trans hx); go_simp; rfl) ?_
      go_simp
      refine sched_alone 2 (by kernel_rfl) rfl rfl ?_
      go_simp
      refine (hmax.out _).mono ?_
      rintro e w10 ⟨rfl, hu⟩
      refine ⟨hu, ?_⟩
      have HUw10 := Lib.hid (HUd.out.trans hu)
      clear hu
      go_simp
      refine sched_alone 3 (by kernel_rfl) rfl rfl ?_
      go_simp
      refine (hplain.out _ _ _).mono ?_
      rintro e w11 ⟨rfl, hu⟩
      refine ⟨hu, ?_⟩
      have HUw11 := Lib.hid (HUw10.out.trans hu)
      clear hu
      go_simp
      refine sched_take 5 rfl (by kernel_rfl) (by kernel_rfl) (by kernel_rfl) (fun _ _ _ h => h) rfl (fun x hx => by go_simp; rfl) ?_
      go_simp
      refine sched_take 6 rfl (by kernel_rfl) (by kernel_rfl) (by kernel_rfl) (fun _ _ _ h => h) rfl (fun x hx => by go_simp; rfl) ?_
      go_simp
      refine sched_alone 7 (by kernel_rfl) rfl rfl ?_
      go_simp
      refine (hawake.out _).mono ?_
      rintro e w12 ⟨rfl, hu⟩
      refine ⟨hu, ?_⟩
      have HUw12 := Lib.hid (HUw11.out.trans hu)
      clear hu
      go_simp
      refine sched_take 8 rfl (by kernel_rfl) (by kernel_rfl) (by kernel_rfl) (fun _ _ _ h => h) rfl (fun x hx => by go_simp; rfl) ?_
      go_simp
      refine sched_take 9 rfl (by kernel_rfl) (by kernel_rfl) (by kernel_rfl) (fun _ _ _ h => h) rfl (fun x hx => by go_simp; rfl) ?_
      go_simp
      refine sched_done (by kernel_rfl) ?_
      go_wp2_with fail
      go_ret
      exact ⟨rfl, HUz.out.trans HUw12.out⟩
    · have hne := Lib.hid (fun (e1 : r0 = r1) (e2 : n0 = n1) => he ⟨e1, e2⟩)
      have hsw := lessB_swap he
      have htr := Lib.hid (fun h k => @lessB_trans r0 n0 r1 n1 r2 n2 h k)
      clear he
      rw [hsw] at hless10
      clear hsw
      generalize lessB r0 n0 r1 n1 = p at *
      generalize lessB r1 n1 r2 n2 = q at *
      cases p
      · simp only [Bool.false_eq_true, if_false] at hmax
        simp only [Bool.not_false] at hless10
        go_wp2_with fail
        refine sched_begin NoB (by kernel_rfl) ?_
        have HUw0 := Lib.hid (Upd.refl NoB wz).drew
        refine sched_take 0 rfl (by kernel_rfl) (by kernel_rfl) (by kernel_rfl) (fun _ _ _ h => h) rfl (fun x hx => by obtain ⟨y0, y1, y2, y3, y4, y5, y6, y7, y8, y9, y10, y11⟩ := hcz.out x (HUw0.out.trans hx); go_simp; rfl) ?_
        go_simp
        refine sched_take 1 rfl (by kernel_rfl) (by kernel_rfl) (by kernel_rfl) (fun _ _ _ h => h) rfl (fun x hx => by obtain ⟨y0, y1, y2, y3, y4, y5, y6, y7, y8, y9, y10, y11⟩ := hcz.out x (HUw0.out.trans hx); go_simp; rfl) ?_
        go_simp
        refine sched_take 3 rfl (by kernel_rfl) (by kernel_rfl) (by kernel_rfl) (fun _ _ _ h => h) rfl (fun x hx => by obtain ⟨y0, y1, y2, y3, y4, y5, y6, y7, y8, y9, y10, y11⟩ := hcz.out x (HUw0.out.trans hx); go_simp; rfl) ?_
        go_simp
        refine sched_take 4 rfl (by kernel_rfl) (by kernel_rfl) (by kernel_rfl) (fun _ _ _ h => h) rfl (fun x hx => by obtain ⟨y0, y1, y2, y3, y4, y5, y6, y7, y8, y9, y10, y11⟩ := hcz.out x (HUw0.out.trans hx); go_simp; rfl) ?_
        go_simp
        refine sched_alone 2 (by kernel_rfl) rfl rfl ?_
        go_simp
        refine (hless01.out _).mono ?_
        rintro e w1 ⟨rfl, hu⟩
        refine ⟨hu, ?_⟩
        have HUw1 := Lib.hid (HUw0.out.trans hu)
        clear hu
        go_simp
        refine sched_alone 5 (by kernel_rfl) rfl rfl ?_
        go_simp
        refine (hrl01.out _).mono ?_
        rintro e w2 ⟨rfl, hu⟩
        refine ⟨hu, ?_⟩
        have HUw2 := Lib.hid (HUw1.out.trans hu)
        clear hu
        go_simp
        refine sched_take 6 rfl (by kernel_rfl) (by kernel_rfl) (by kernel_rfl) (fun _ _ _ h => h) rfl (fun x hx => by go_simp; rfl) ?_
        go_simp
        refine sched_take 7 rfl (by kernel_rfl) (by kernel_rfl) (by kernel_rfl) (fun _ _ _ h => h) rfl (fun x hx => by go_simp; rfl) ?_
        go_simp
        refine sched_take 8 rfl (by kernel_rfl) (by kernel_rfl) (by kernel_rfl) (fun _ _ _ h => h) rfl (fun x hx => by obtain ⟨y0, y1, y2, y3, y4, y5, y6, y7, y8, y9, y10, y11⟩ := hcz.out x (HUw2.out.trans hx); go_simp; rfl) ?_
        go_simp
        refine sched_take 9 rfl (by kernel_rfl) (by kernel_rfl) (by kernel_rfl) (fun _ _ _ h => h) rfl (fun x hx => by obtain ⟨y0, y1, y2, y3, y4, y5, y6, y7, y8, y9, y10, y11⟩ := hcz.out x (HUw2.out.trans hx); go_simp; rfl) ?_
        go_simp
        refine sched_take 16 rfl (by kernel_rfl) (by kernel_rfl) (by kernel_rfl) (fun _ _ _ h => h) rfl (fun x hx => by obtain ⟨y0, y1, y2, y3, y4, y5, y6, y7, y8, y9, y10, y11⟩ := hcz.out x (HUw2.out.trans hx); go_simp; rfl) ?_
        go_simp
        refine sched_take 17 rfl (by kernel_rfl) (by kernel_rfl) (by kernel_rfl) (fun _ _ _ h => h) rfl (fun x hx => by obtain ⟨y0, y1, y2, y3, y4, y5, y6, y7, y8, y9, y10, y11⟩ := hcz.out x (HUw2.out.trans hx); go_simp; rfl) ?_
        go_simp
        refine sched_take (v := .bool true) 18 rfl (by kernel_rfl) (by kernel_rfl) (by kernel_rfl) (fun _ _ _ h => h) rfl (fun x' hx => by go_simp; exact hne.out) ?_
        go_simp
        refine sched_alone 10 (by kernel_rfl) rfl rfl ?_
        go_simp
        refine (hless01.out _).mono ?_
        rintro e w3 ⟨rfl, hu⟩
        refine ⟨hu, ?_⟩
        have HUw3 := Lib.hid (HUw2.out.trans hu)
        clear hu
        go_simp
        refine sched_take 11 rfl (by kernel_rfl) (by kernel_rfl) (by kernel_rfl) (fun _ _ _ h => h) rfl (fun x hx => by go_simp; rfl) ?_
        go_simp
        refine sched_take 12 rfl (by kernel_rfl) (by kernel_rfl) (by kernel_rfl) (fun _ _ _ h => h) rfl (fun x hx => by obtain ⟨y0, y1, y2, y3, y4, y5, y6, y7, y8, y9, y10, y11⟩ := hcz.out x (HUw3.out.trans hx); go_simp; rfl) ?_
        go_simp
        refine sched_take 13 rfl (by kernel_rfl) (by kernel_rfl) (by kernel_rfl) (fun _ _ _ h => h) rfl (fun x hx => by obtain ⟨y0, y1, y2, y3, y4, y5, y6, y7, y8, y9, y10, y11⟩ := hcz.out x (HUw3.out.trans hx); go_simp; rfl) ?_
        go_simp
        refine sched_alone 14 (by kernel_rfl) rfl rfl ?_
        go_simp
        refine (hless10.out _).mono ?_
        rintro e w4 ⟨rfl, hu⟩
        refine ⟨hu, ?_⟩
        have HUw4 := Lib.hid (HUw3.out.trans hu)
        clear hu
        go_simp
        refine sched_take 15 rfl (by kernel_rfl) (by kernel_rfl) (by kernel_rfl) (fun _ _ _ h => h) rfl (fun x hx => by go_simp; rfl) ?_
        go_simp
        refine sched_take 19 rfl (by kernel_rfl) (by kernel_rfl) (by kernel_rfl) (fun _ _ _ h => h) rfl (fun x hx => by go_simp; rfl) ?_
        go_simp
        refine sched_take 20 rfl (by kernel_rfl) (by kernel_rfl) (by kernel_rfl) (fun _ _ _ h => h) rfl (fun x hx => by go_simp; rfl) ?_
        go_simp
        refine sched_take 21 rfl (by kernel_rfl) (by kernel_rfl) (by kernel_rfl) (fun _ _ _ h => h) rfl (fun x hx => by go_simp; rfl) ?_
        go_simp
        refine sched_take 22 rfl (by kernel_rfl) (by kernel_rfl) (by kernel_rfl) (fun _ _ _ h => h) rfl (fun x hx => by obtain ⟨y0, y1, y2, y3, y4, y5, y6, y7, y8, y9, y10, y11⟩ := hcz.out x (HUw4.out.trans hx); go_simp; rfl) ?_
        go_simp
        refine sched_take 23 rfl (by kernel_rfl) (by kernel_rfl) (by kernel_rfl) (fun _ _ _ h => h) rfl (fun x hx => by obtain ⟨y0, y1, y2, y3, y4, y5, y6, y7, y8, y9, y10, y11⟩ := hcz.out x (HUw4.out.trans hx); go_simp; rfl) ?_
        go_simp
        refine sched_alone 24 (by kernel_rfl) rfl rfl ?_
        go_simp
        refine (hless01.out _).mono ?_
        rintro e w5 ⟨rfl, hu⟩
        refine ⟨hu, ?_⟩
        have HUw5 := Lib.hid (HUw4.out.trans hu)
        clear hu
        go_simp
        refine sched_take 25 rfl (by kernel_rfl) (by kernel_rfl) (by kernel_rfl) (fun _ _ _ h => h) rfl (fun x hx => by go_simp; rfl) ?_
        go_simp
        refine sched_skip 26 rfl (by kernel_rfl) (by kernel_rfl) (by kernel_rfl) (fun _ _ _ h => h) rfl ?_
        go_simp
        refine sched_skip 27 rfl (by kernel_rfl) (by kernel_rfl) (by kernel_rfl) (fun _ _ _ h => h) rfl ?_
        go_simp
        refine sched_skip 28 rfl (by kernel_rfl) (by kernel_rfl) (by kernel_rfl) (fun _ _ _ h => h) rfl ?_
        go_simp
        refine sched_take 29 rfl (by kernel_rfl) (by kernel_rfl) (by kernel_rfl) (fun _ _ _ h => h) rfl (fun x hx => by go_simp; rfl) ?_
        go_simp
        refine sched_take 30 rfl (by kernel_rfl) (by kernel_rfl) (by kernel_rfl) (fun _ _ _ h => h) rfl (fun x hx => by go_simp; rfl) ?_
        go_simp
        refine sched_skip 31 rfl (by kernel_rfl) (by kernel_rfl) (by kernel_rfl) (fun _ _ _ h => h) rfl ?_
        go_simp
        refine sched_skip 32 rfl (by kernel_rfl) (by kernel_rfl) (by kernel_rfl) (fun _ _ _ h => h) rfl ?_
        go_simp
        refine sched_skip 33 rfl (by kernel_rfl) (by kernel_rfl) (by kernel_rfl) (fun _ _ _ h => h) rfl ?_
        go_simp
        refine sched_skip 34 rfl (by kernel_rfl) (by kernel_rfl) (by kernel_rfl) (fun _ _ _ h => h) rfl ?_
        go_simp
        refine sched_take 35 rfl (by kernel_rfl) (by kernel_rfl) (by kernel_rfl) (fun _ _ _ h => h) rfl (fun x hx => by go_simp; rfl) ?_
        go_simp
        refine sched_take 36 rfl (by kernel_rfl) (by kernel_rfl) (by kernel_rfl) (fun _ _ _ h => h) rfl (fun x hx => by go_simp; rfl) ?_
        go_simp
        refine sched_done (by kernel_rfl) ?_
        obtain ⟨y0, y1, y2, y3, y4, y5, y6, y7, y8, y9, y10, y11⟩ := hcz.out w5 HUw5.out
        have hmb := Lib.hid (most_box HUw5.out r0 n0)
        have t0 : w.heap.size < w5.heap.size := by have := HUw5.out.size; have := hwzs.out; omega
        have t1 : w.heap.size + 1 < w5.heap.size := by have := HUw5.out.size; have := hwzs.out; omega
        have t2 : w.heap.size + 1 + 1 < w5.heap.size := by have := HUw5.out.size; have := hwzs.out; omega
        go_wp2_with fail
        refine (hrl01.out _).mono ?_
        rintro e w8 ⟨rfl, hu⟩
        obtain ⟨a0, a1, a2, a3, a4⟩ := hmb.out w8 hu
        replace a4 := Lib.hid a4
        replace a3 := Lib.hid a3
        clear hu t0 t1 t2 y0 y1 y2 y3 y4 y5 y6 y7 y8 y9 y10 y11
        obtain ⟨y0, y1, y2, y3, y4, y5, y6, y7, y8, y9, y10, y11⟩ := hcz.out w8 a3.out
        have HUw9 := a3
        have hmost := Lib.hid (fun x (hx : Upd NoB w8 x) => two_cells (hx.heap a4.out (fun h => h)))
        clear a0 a1 a2 a3 a4 y0 y1 y2 y3 y4 y5 y6 y7 y8 y9 y10 y11
        go_wp2_with fail
        refine sched_begin NoB (by kernel_rfl) ?_
        have HUd := Lib.hid HUw9.out.drew
        have HMd := Lib.hid (Upd.refl NoB w8).drew
        refine sched_take 0 rfl (by kernel_rfl) (by kernel_rfl) (by kernel_rfl) (fun _ _ _ h => h) rfl (fun x hx => by obtain ⟨y0, y1, y2, y3, y4, y5, y6, y7, y8, y9, y10, y11⟩ := hcz.out x (HUd.out.trans hx); obtain ⟨m0, m1⟩ := hmost.out x (HMd.out.trans hx); go_simp; rfl) ?_
        go_simp
        refine sched_take 1 rfl (by kernel_rfl) (by kernel_rfl) (by kernel_rfl) (fun _ _ _ h => h) rfl (fun x hx => by obtain ⟨y0, y1, y2, y3, y4, y5, y6, y7, y8, y9, y10, y11⟩ := hcz.out x (HUd.out.trans hx); obtain ⟨m0, m1⟩ := hmost.out x (HMd.out.trans hx); go_simp; rfl) ?_
        go_simp
        refine sched_take 4 rfl (by kernel_rfl) (by kernel_rfl) (by kernel_rfl) (fun _ _ _ h => h) rfl (fun x hx => by obtain ⟨y0, y1, y2, y3, y4, y5, y6, y7, y8, y9, y10, y11⟩ := hcz.out x (HUd.out.trans hx); obtain ⟨m0, m1⟩ := hmost.out x (HMd.out.trans hx); go_simp; rfl) ?_
        go_simp
        refine sched_alone 2 (by kernel_rfl) rfl rfl ?_
        go_simp
        refine (hmax.out _).mono ?_
        rintro e w10 ⟨rfl, hu⟩
        refine ⟨hu, ?_⟩
        have HUw10 := Lib.hid (HUd.out.trans hu)
        clear hu
        go_simp
        refine sched_alone 3 (by kernel_rfl) rfl rfl ?_
        go_simp
        refine (hplain.out _ _ _).mono ?_
        rintro e w11 ⟨rfl, hu⟩
        refine ⟨hu, ?_⟩
        have HUw11 := Lib.hid (HUw10.out.trans hu)
        clear hu
        go_simp
        refine sched_take 5 rfl (by kernel_rfl) (by kernel_rfl) (by kernel_rfl) (fun _ _ _ h => h) rfl (fun x hx => by go_simp; rfl) ?_
        go_simp
        refine sched_take 6 rfl (by kernel_rfl) (by kernel_rfl) (by kernel_rfl) (fun _ _ _ h => h) rfl (fun x hx => by go_simp; rfl) ?_
        go_simp
        refine sched_alone 7 (by kernel_rfl) rfl rfl ?_
        go_simp
        refine (hawake.out _).mono ?_
        rintro e w12 ⟨rfl, hu⟩
        refine ⟨hu, ?_⟩
        have HUw12 := Lib.hid (HUw11.out.trans hu)
        clear hu
        go_simp
        refine sched_take 8 rfl (by kernel_rfl) (by kernel_rfl) (by kernel_rfl) (fun _ _ _ h => h) rfl (fun x hx => by go_simp; rfl) ?_
        go_simp
        refine sched_take 9 rfl (by kernel_rfl) (by kernel_rfl) (by kernel_rfl) (fun _ _ _ h => h) rfl (fun x hx => by go_simp; rfl) ?_
        go_simp
        refine sched_done (by kernel_rfl) ?_
        go_wp2_with fail
        go_ret
        exact ⟨rfl, HUz.out.trans HUw12.out⟩
      · simp only [if_true] at hmax
        cases q
        · go_wp2_with fail
          refine sched_begin NoB (by kernel_rfl) ?_
          have HUw0 := Lib.hid (Upd.refl NoB wz).drew
          refine sched_take 0 rfl (by kernel_rfl) (by kernel_rfl) (by kernel_rfl) (fun _ _ _ h => h) rfl (fun x hx => by obtain ⟨y0, y1, y2, y3, y4, y5, y6, y7, y8, y9, y10, y11⟩ := hcz.out x (HUw0.out.trans hx); go_simp; rfl) ?_
          go_simp
          refine sched_take 1 rfl (by kernel_rfl) (by kernel_rfl) (by kernel_rfl) (fun _ _ _ h => h) rfl (fun x hx => by obtain ⟨y0, y1, y2, y3, y4, y5, y6, y7, y8, y9, y10, y11⟩ := hcz.out x (HUw0.out.trans hx); go_simp; rfl) ?_
          go_simp
          refine sched_take 3 rfl (by kernel_rfl) (by kernel_rfl) (by kernel_rfl) (fun _ _ _ h => h) rfl (fun x hx => by obtain ⟨y0, y1, y2, y3, y4, y5, y6, y7, y8, y9, y10, y11⟩ := hcz.out x (HUw0.out.trans hx); go_simp; rfl) ?_
          go_simp
          refine sched_take 4 rfl (by kernel_rfl) (by kernel_rfl) (by kernel_rfl) (fun _ _ _ h => h) rfl (fun x hx => by obtain ⟨y0, y1, y2, y3, y4, y5, y6, y7, y8, y9, y10, y11⟩ := hcz.out x (HUw0.out.trans hx); go_simp; rfl) ?_
          go_simp
          refine sched_alone 2 (by kernel_rfl) rfl rfl ?_
          go_simp
          refine (hless01.out _).mono ?_
          rintro e w1 ⟨rfl, hu⟩
          refine ⟨hu, ?_⟩
          have HUw1 := Lib.hid (HUw0.out.trans hu)
          clear hu
          go_simp
          refine sched_alone 5 (by kernel_rfl) rfl rfl ?_
          go_simp
          refine (hrl01.out _).mono ?_
          rintro e w2 ⟨rfl, hu⟩
          refine ⟨hu, ?_⟩
          have HUw2 := Lib.hid (HUw1.out.trans hu)
          clear hu
          go_simp
          refine sched_take 6 rfl (by kernel_rfl) (by kernel_rfl) (by kernel_rfl) (fun _ _ _ h => h) rfl (fun x hx => by go_simp; rfl) ?_
          go_simp
          refine sched_take 7 rfl (by kernel_rfl) (by kernel_rfl) (by kernel_rfl) (fun _ _ _ h => h) rfl (fun x hx => by go_simp; rfl) ?_
          go_simp
          refine sched_take 8 rfl (by kernel_rfl) (by kernel_rfl) (by kernel_rfl) (fun _ _ _ h => h) rfl (fun x hx => by obtain ⟨y0, y1, y2, y3, y4, y5, y6, y7, y8, y9, y10, y11⟩ := hcz.out x (HUw2.out.trans hx); go_simp; rfl) ?_
          go_simp
          refine sched_take 9 rfl (by kernel_rfl) (by kernel_rfl) (by kernel_rfl) (fun _ _ _ h => h) rfl (fun x hx => by obtain ⟨y0, y1, y2, y3, y4, y5, y6, y7, y8, y9, y10, y11⟩ := hcz.out x (HUw2.out.trans hx); go_simp; rfl) ?_
          go_simp
          refine sched_take 16 rfl (by kernel_rfl) (by kernel_rfl) (by kernel_rfl) (fun _ _ _ h => h) rfl (fun x hx => by obtain ⟨y0, y1, y2, y3, y4, y5, y6, y7, y8, y9, y10, y11⟩ := hcz.out x (HUw2.out.trans hx); go_simp; rfl) ?_
          go_simp
          refine sched_take 17 rfl (by kernel_rfl) (by kernel_rfl) (by kernel_rfl) (fun _ _ _ h => h) rfl (fun x hx => by obtain ⟨y0, y1, y2, y3, y4, y5, y6, y7, y8, y9, y10, y11⟩ := hcz.out x (HUw2.out.trans hx); go_simp; rfl) ?_
          go_simp
          refine sched_take (v := .bool true) 18 rfl (by kernel_rfl) (by kernel_rfl) (by kernel_rfl) (fun _ _ _ h => h) rfl (fun x' hx => by go_simp; exact hne.out) ?_
          go_simp
          refine sched_alone 10 (by kernel_rfl) rfl rfl ?_
          go_simp
          refine (hless01.out _).mono ?_
          rintro e w3 ⟨rfl, hu⟩
          refine ⟨hu, ?_⟩
          have HUw3 := Lib.hid (HUw2.out.trans hu)
          clear hu
          go_simp
          refine sched_take 11 rfl (by kernel_rfl) (by kernel_rfl) (by kernel_rfl) (fun _ _ _ h => h) rfl (fun x hx => by go_simp; rfl) ?_
          go_simp
          refine sched_skip 12 rfl (by kernel_rfl) (by kernel_rfl) (by kernel_rfl) (fun _ _ _ h => h) rfl ?_
          go_simp
          refine sched_skip 13 rfl (by kernel_rfl) (by kernel_rfl) (by kernel_rfl) (fun _ _ _ h => h) rfl ?_
          go_simp
          refine sched_skip 14 rfl (by kernel_rfl) (by kernel_rfl) (by kernel_rfl) (fun _ _ _ h => h) rfl ?_
          go_simp
          refine sched_take 15 rfl (by kernel_rfl) (by kernel_rfl) (by kernel_rfl) (fun _ _ _ h => h) rfl (fun x hx => by go_simp; rfl) ?_
          go_simp
          refine sched_take 19 rfl (by kernel_rfl) (by kernel_rfl) (by kernel_rfl) (fun _ _ _ h => h) rfl (fun x hx => by go_simp; rfl) ?_
          go_simp
          refine sched_take 20 rfl (by kernel_rfl) (by kernel_rfl) (by kernel_rfl) (fun _ _ _ h => h) rfl (fun x hx => by go_simp; rfl) ?_
          go_simp
          refine sched_take 21 rfl (by kernel_rfl) (by kernel_rfl) (by kernel_rfl) (fun _ _ _ h => h) rfl (fun x hx => by go_simp; rfl) ?_
          go_simp
          refine sched_take 22 rfl (by kernel_rfl) (by kernel_rfl) (by kernel_rfl) (fun _ _ _ h => h) rfl (fun x hx => by obtain ⟨y0, y1, y2, y3, y4, y5, y6, y7, y8, y9, y10, y11⟩ := hcz.out x (HUw3.out.trans hx); go_simp; rfl) ?_
          go_simp
          refine sched_take 23 rfl (by kernel_rfl) (by kernel_rfl) (by kernel_rfl) (fun _ _ _ h => h) rfl (fun x hx => by obtain ⟨y0, y1, y2, y3, y4, y5, y6, y7, y8, y9, y10, y11⟩ := hcz.out x (HUw3.out.trans hx); go_simp; rfl) ?_
          go_simp
          refine sched_alone 24 (by kernel_rfl) rfl rfl ?_
          go_simp
          refine (hless01.out _).mono ?_
          rintro e w5 ⟨rfl, hu⟩
          refine ⟨hu, ?_⟩
          have HUw5 := Lib.hid (HUw3.out.trans hu)
          clear hu
          go_simp
          refine sched_take 25 rfl (by kernel_rfl) (by kernel_rfl) (by kernel_rfl) (fun _ _ _ h => h) rfl (fun x hx => by go_simp; rfl) ?_
          go_simp
          refine sched_take 26 rfl (by kernel_rfl) (by kernel_rfl) (by kernel_rfl) (fun _ _ _ h => h) rfl (fun x hx => by obtain ⟨y0, y1, y2, y3, y4, y5, y6, y7, y8, y9, y10, y11⟩ := hcz.out x (HUw5.out.trans hx); go_simp; rfl) ?_
          go_simp
          refine sched_take 27 rfl (by kernel_rfl) (by kernel_rfl) (by kernel_rfl) (fun _ _ _ h => h) rfl (fun x hx => by obtain ⟨y0, y1, y2, y3, y4, y5, y6, y7, y8, y9, y10, y11⟩ := hcz.out x (HUw5.out.trans hx); go_simp; rfl) ?_
          go_simp
          refine sched_alone 28 (by kernel_rfl) rfl rfl ?_
          go_simp
          refine (hless12.out _).mono ?_
          rintro e w6 ⟨rfl, hu⟩
          refine ⟨hu, ?_⟩
          have HUw6 := Lib.hid (HUw5.out.trans hu)
          clear hu
          go_simp
          refine sched_take 29 rfl (by kernel_rfl) (by kernel_rfl) (by kernel_rfl) (fun _ _ _ h => h) rfl (fun x hx => by go_simp; rfl) ?_
          go_simp
          refine sched_take 30 rfl (by kernel_rfl) (by kernel_rfl) (by kernel_rfl) (fun _ _ _ h => h) rfl (fun x hx => by go_simp; rfl) ?_
          go_simp
          refine sched_skip 31 rfl (by kernel_rfl) (by kernel_rfl) (by kernel_rfl) (fun _ _ _ h => h) rfl ?_
          go_simp
          refine sched_skip 32 rfl (by kernel_rfl) (by kernel_rfl) (by kernel_rfl) (fun _ _ _ h => h) rfl ?_
          go_simp
          refine sched_skip 33 rfl (by kernel_rfl) (by kernel_rfl) (by kernel_rfl) (fun _ _ _ h => h) rfl ?_
          go_simp
          refine sched_skip 34 rfl (by kernel_rfl) (by kernel_rfl) (by kernel_rfl) (fun _ _ _ h => h) rfl ?_
          go_simp
          refine sched_take 35 rfl (by kernel_rfl) (by kernel_rfl) (by kernel_rfl) (fun _ _ _ h => h) rfl (fun x hx => by go_simp; rfl) ?_
          go_simp
          refine sched_take 36 rfl (by kernel_rfl) (by kernel_rfl) (by kernel_rfl) (fun _ _ _ h => h) rfl (fun x hx => by go_simp; rfl) ?_
          go_simp
          refine sched_done (by kernel_rfl) ?_
          obtain ⟨y0, y1, y2, y3, y4, y5, y6, y7, y8, y9, y10, y11⟩ := hcz.out w6 HUw6.out
          have hmb := Lib.hid (most_box HUw6.out r0 n0)
          have t0 : w.heap.size < w6.heap.size := by have := HUw6.out.size; have := hwzs.out; omega
          have t1 : w.heap.size + 1 < w6.heap.size := by have := HUw6.out.size; have := hwzs.out; omega
          have t2 : w.heap.size + 1 + 1 < w6.heap.size := by have := HUw6.out.size; have := hwzs.out; omega
          go_wp2_with fail
          refine (hrl01.out _).mono ?_
          rintro e w8 ⟨rfl, hu⟩
          obtain ⟨a0, a1, a2, a3, a4⟩ := hmb.out w8 hu
          replace a4 := Lib.hid a4
          replace a3 := Lib.hid a3
          clear hu t0 t1 t2 y0 y1 y2 y3 y4 y5 y6 y7 y8 y9 y10 y11
          obtain ⟨y0, y1, y2, y3, y4, y5, y6, y7, y8, y9, y10, y11⟩ := hcz.out w8 a3.out
          have hb : wz.heap.size ≤ w6.heap.size := HUw6.out.size
          obtain ⟨w9, hw9, h9, hm9⟩ := most_set hb a3.out a4.out (.int .u64 r1) (.int .i64 n1)
          have HUw9 := Lib.hid h9
          have hmost := Lib.hid hm9
          clear h9 hm9 hb
          go_wp2_with fail
          clear a0 a1 a2 a3 a4 y0 y1 y2 y3 y4 y5 y6 y7 y8 y9 y10 y11 hw9
          refine sched_begin NoB (by kernel_rfl) ?_
          have HUd := Lib.hid HUw9.out.drew
          have HMd := Lib.hid (Upd.refl NoB w9).drew
          refine sched_take 0 rfl (by kernel_rfl) (by kernel_rfl) (by kernel_rfl) (fun _ _ _ h => h) rfl (fun x hx => by obtain ⟨y0, y1, y2, y3, y4, y5, y6, y7, y8, y9, y10, y11⟩ := hcz.out x (HUd.out.trans hx); obtain ⟨m0, m1⟩ := hmost.out x (HMd.out.trans hx); go_simp; rfl) ?_
          go_simp
          refine sched_take 1 rfl (by kernel_rfl) (by kernel_rfl) (by kernel_rfl) (fun _ _ _ h => h) rfl (fun x hx => by obtain ⟨y0, y1, y2, y3, y4, y5, y6, y7, y8, y9, y10, y11⟩ := hcz.out x (HUd.out.trans hx); obtain ⟨m0, m1⟩ := hmost.out x (HMd.out.trans hx); go_simp; rfl) ?_
          go_simp
          refine sched_take 4 rfl (by kernel_rfl) (by kernel_rfl) (by kernel_rfl) (fun _ _ _ h => h) rfl (fun x hx => by obtain ⟨y0, y1, y2, y3, y4, y5, y6, y7, y8, y9, y10, y11⟩ := hcz.out x (HUd.out.trans hx); obtain ⟨m0, m1⟩ := hmost.out x (HMd.out.trans hx); go_simp; rfl) ?_
          go_simp
          refine sched_alone 2 (by kernel_rfl) rfl rfl ?_
          go_simp
          refine (hmax.out _).mono ?_
          rintro e w10 ⟨rfl, hu⟩
          refine ⟨hu, ?_⟩
          have HUw10 := Lib.hid (HUd.out.trans hu)
          clear hu
          go_simp
          refine sched_alone 3 (by kernel_rfl) rfl rfl ?_
          go_simp
          refine (hplain.out _ _ _).mono ?_
          rintro e w11 ⟨rfl, hu⟩
          refine ⟨hu, ?_⟩
          have HUw11 := Lib.hid (HUw10.out.trans hu)
          clear hu
          go_simp
          refine sched_take 5 rfl (by kernel_rfl) (by kernel_rfl) (by kernel_rfl) (fun _ _ _ h => h) rfl (fun x hx => by go_simp; rfl) ?_
          go_simp
          refine sched_take 6 rfl (by kernel_rfl) (by kernel_rfl) (by kernel_rfl) (fun _ _ _ h => h) rfl (fun x hx => by go_simp; rfl) ?_
          go_simp
          refine sched_alone 7 (by kernel_rfl) rfl rfl ?_
          go_simp
          refine (hawake.out _).mono ?_
          rintro e w12 ⟨rfl, hu⟩
          refine ⟨hu, ?_⟩
          have HUw12 := Lib.hid (HUw11.out.trans hu)
          clear hu
          go_simp
          refine sched_take 8 rfl (by kernel_rfl) (by kernel_rfl) (by kernel_rfl) (fun _ _ _ h => h) rfl (fun x hx => by go_simp; rfl) ?_
          go_simp
          refine sched_take 9 rfl (by kernel_rfl) (by kernel_rfl) (by kernel_rfl) (fun _ _ _ h => h) rfl (fun x hx => by go_simp; rfl) ?_
          go_simp
          refine sched_done (by kernel_rfl) ?_
          go_wp2_with fail
          go_ret
          exact ⟨rfl, HUz.out.trans HUw12.out⟩
        · rw [htr.out rfl rfl] at hless02
          go_wp2_with fail
          refine sched_begin NoB (by kernel_rfl) ?_
          have HUw0 := Lib.hid (Upd.refl NoB wz).drew
          refine sched_take 0 rfl (by kernel_rfl) (by kernel_rfl) (by kernel_rfl) (fun _ _ _ h => h) rfl (fun x hx => by obtain ⟨y0, y1, y2, y3, y4, y5, y6, y7, y8, y9, y10, y11⟩ := hcz.out x (HUw0.out.trans hx); go_simp; rfl) ?_
          go_simp
          refine sched_take 1 rfl (by kernel_rfl) (by kernel_rfl) (by kernel_rfl) (fun _ _ _ h => h) rfl (fun x hx => by obtain ⟨y0, y1, y2, y3, y4, y5, y6, y7, y8, y9, y10, y11⟩ := hcz.out x (HUw0.out.trans hx); go_simp; rfl) ?_
          go_simp
          refine sched_take 3 rfl (by kernel_rfl) (by kernel_rfl) (by kernel_rfl) (fun _ _ _ h => h) rfl (fun x hx => by obtain ⟨y0, y1, y2, y3, y4, y5, y6, y7, y8, y9, y10, y11⟩ := hcz.out x (HUw0.out.trans hx); go_simp; rfl) ?_
          go_simp
          refine sched_take 4 rfl (by kernel_rfl) (by kernel_rfl) (by kernel_rfl) (fun _ _ _ h => h) rfl (fun x hx => by obtain ⟨y0, y1, y2, y3, y4, y5, y6, y7, y8, y9, y10, y11⟩ := hcz.out x (HUw0.out.trans hx); go_simp; rfl) ?_
          go_simp
          refine sched_alone 2 (by kernel_rfl) rfl rfl ?_
          go_simp
          refine (hless01.out _).mono ?_
          rintro e w1 ⟨rfl, hu⟩
          refine ⟨hu, ?_⟩
          have HUw1 := Lib.hid (HUw0.out.trans hu)
          clear hu
          go_simp
          refine sched_alone 5 (by kernel_rfl) rfl rfl ?_
          go_simp
          refine (hrl01.out _).mono ?_
          rintro e w2 ⟨rfl, hu⟩
          refine ⟨hu, ?_⟩
          have HUw2 := Lib.hid (HUw1.out.trans hu)
          clear hu
          go_simp
          refine sched_take 6 rfl (by kernel_rfl) (by kernel_rfl) (by kernel_rfl) (fun _ _ _ h => h) rfl (fun x hx => by go_simp; rfl) ?_
          go_simp
          refine sched_take 7 rfl (by kernel_rfl) (by kernel_rfl) (by kernel_rfl) (fun _ _ _ h => h) rfl (fun x hx => by go_simp; rfl) ?_
          go_simp
          refine sched_take 8 rfl (by kernel_rfl) (by kernel_rfl) (by kernel_rfl) (fun _ _ _ h => h) rfl (fun x hx => by obtain ⟨y0, y1, y2, y3, y4, y5, y6, y7, y8, y9, y10, y11⟩ := hcz.out x (HUw2.out.trans hx); go_simp; rfl) ?_
          go_simp
          refine sched_take 9 rfl (by kernel_rfl) (by kernel_rfl) (by kernel_rfl) (fun _ _ _ h => h) rfl (fun x hx => by obtain ⟨y0, y1, y2, y3, y4, y5, y6, y7, y8, y9, y10, y11⟩ := hcz.out x (HUw2.out.trans hx); go_simp; rfl) ?_
          go_simp
          refine sched_take 16 rfl (by kernel_rfl) (by kernel_rfl) (by kernel_rfl) (fun _ _ _ h => h) rfl (fun x hx => by obtain ⟨y0, y1, y2, y3, y4, y5, y6, y7, y8, y9, y10, y11⟩ := hcz.out x (HUw2.out.trans hx); go_simp; rfl) ?_
          go_simp
          refine sched_take 17 rfl (by kernel_rfl) (by kernel_rfl) (by kernel_rfl) (fun _ _ _ h => h) rfl (fun x hx => by obtain ⟨y0, y1, y2, y3, y4, y5, y6, y7, y8, y9, y10, y11⟩ := hcz.out x (HUw2.out.trans hx); go_simp; rfl) ?_
          go_simp
          refine sched_take (v := .bool true) 18 rfl (by kernel_rfl) (by kernel_rfl) (by kernel_rfl) (fun _ _ _ h => h) rfl (fun x' hx => by go_simp; exact hne.out) ?_
          go_simp
          refine sched_alone 10 (by kernel_rfl) rfl rfl ?_
          go_simp
          refine (hless01.out _).mono ?_
          rintro e w3 ⟨rfl, hu⟩
          refine ⟨hu, ?_⟩
          have HUw3 := Lib.hid (HUw2.out.trans hu)
          clear hu
          go_simp
          refine sched_take 11 rfl (by kernel_rfl) (by kernel_rfl) (by kernel_rfl) (fun _ _ _ h => h) rfl (fun x hx => by go_simp; rfl) ?_
          go_simp
          refine sched_skip 12 rfl (by kernel_rfl) (by kernel_rfl) (by kernel_rfl) (fun _ _ _ h => h) rfl ?_
          go_simp
          refine sched_skip 13 rfl (by kernel_rfl) (by kernel_rfl) (by kernel_rfl) (fun _ _ _ h => h) rfl ?_
          go_simp
          refine sched_skip 14 rfl (by kernel_rfl) (by kernel_rfl) (by kernel_rfl) (fun _ _ _ h => h) rfl ?_
          go_simp
          refine sched_take 15 rfl (by kernel_rfl) (by kernel_rfl) (by kernel_rfl) (fun _ _ _ h => h) rfl (fun x hx => by go_simp; rfl) ?_
          go_simp
          refine sched_take 19 rfl (by kernel_rfl) (by kernel_rfl) (by kernel_rfl) (fun _ _ _ h => h) rfl (fun x hx => by go_simp; rfl) ?_
          go_simp
          refine sched_take 20 rfl (by kernel_rfl) (by kernel_rfl) (by kernel_rfl) (fun _ _ _ h => h) rfl (fun x hx => by go_simp; rfl) ?_
          go_simp
          refine sched_take 21 rfl (by kernel_rfl) (by kernel_rfl) (by kernel_rfl) (fun _ _ _ h => h) rfl (fun x hx => by go_simp; rfl) ?_
          go_simp
          refine sched_take 22 rfl (by kernel_rfl) (by kernel_rfl) (by kernel_rfl) (fun _ _ _ h => h) rfl (fun x hx => by obtain ⟨y0, y1, y2, y3, y4, y5, y6, y7, y8, y9, y10, y11⟩ := hcz.out x (HUw3.out.trans hx); go_simp; rfl) ?_
          go_simp
          refine sched_take 23 rfl (by kernel_rfl) (by kernel_rfl) (by kernel_rfl) (fun _ _ _ h => h) rfl (fun x hx => by obtain ⟨y0, y1, y2, y3, y4, y5, y6, y7, y8, y9, y10, y11⟩ := hcz.out x (HUw3.out.trans hx); go_simp; rfl) ?_
          go_simp
          refine sched_alone 24 (by kernel_rfl) rfl rfl ?_
          go_simp
          refine (hless01.out _).mono ?_
          rintro e w5 ⟨rfl, hu⟩
          refine ⟨hu, ?_⟩
          have HUw5 := Lib.hid (HUw3.out.trans hu)
          clear hu
          go_simp
          refine sched_take 25 rfl (by kernel_rfl) (by kernel_rfl) (by kernel_rfl) (fun _ _ _ h => h) rfl (fun x hx => by go_simp; rfl) ?_
          go_simp
          refine sched_take 26 rfl (by kernel_rfl) (by kernel_rfl) (by kernel_rfl) (fun _ _ _ h => h) rfl (fun x hx => by obtain ⟨y0, y1, y2, y3, y4, y5, y6, y7, y8, y9, y10, y11⟩ := hcz.out x (HUw5.out.trans hx); go_simp; rfl) ?_
          go_simp
          refine sched_take 27 rfl (by kernel_rfl) (by kernel_rfl) (by kernel_rfl) (fun _ _ _ h => h) rfl (fun x hx => by obtain ⟨y0, y1, y2, y3, y4, y5, y6, y7, y8, y9, y10, y11⟩ := hcz.out x (HUw5.out.trans hx); go_simp; rfl) ?_
          go_simp
          refine sched_alone 28 (by kernel_rfl) rfl rfl ?_
          go_simp
          refine (hless12.out _).mono ?_
          rintro e w6 ⟨rfl, hu⟩
          refine ⟨hu, ?_⟩
          have HUw6 := Lib.hid (HUw5.out.trans hu)
          clear hu
          go_simp
          refine sched_take 29 rfl (by kernel_rfl) (by kernel_rfl) (by kernel_rfl) (fun _ _ _ h => h) rfl (fun x hx => by go_simp; rfl) ?_
          go_simp
          refine sched_take 30 rfl (by kernel_rfl) (by kernel_rfl) (by kernel_rfl) (fun _ _ _ h => h) rfl (fun x hx => by go_simp; rfl) ?_
          go_simp
          refine sched_take 31 rfl (by kernel_rfl) (by kernel_rfl) (by kernel_rfl) (fun _ _ _ h => h) rfl (fun x hx => by obtain ⟨y0, y1, y2, y3, y4, y5, y6, y7, y8, y9, y10, y11⟩ := hcz.out x (HUw6.out.trans hx); go_simp; rfl) ?_
          go_simp
          refine sched_take 32 rfl (by kernel_rfl) (by kernel_rfl) (by kernel_rfl) (fun _ _ _ h => h) rfl (fun x hx => by obtain ⟨y0, y1, y2, y3, y4, y5, y6, y7, y8, y9, y10, y11⟩ := hcz.out x (HUw6.out.trans hx); go_simp; rfl) ?_
          go_simp
          refine sched_alone 33 (by kernel_rfl) rfl rfl ?_
          go_simp
          refine (hless02.out _).mono ?_
          rintro e w7 ⟨rfl, hu⟩
          refine ⟨hu, ?_⟩
          have HUw7 := Lib.hid (HUw6.out.trans hu)
          clear hu
          go_simp
          refine sched_take 34 rfl (by kernel_rfl) (by kernel_rfl) (by kernel_rfl) (fun _ _ _ h => h) rfl (fun x hx => by go_simp; rfl) ?_
          go_simp
          refine sched_take 35 rfl (by kernel_rfl) (by kernel_rfl) (by kernel_rfl) (fun _ _ _ h => h) rfl (fun x hx => by go_simp; rfl) ?_
          go_simp
          refine sched_take 36 rfl (by kernel_rfl) (by kernel_rfl) (by kernel_rfl) (fun _ _ _ h => h) rfl (fun x hx => by go_simp; rfl) ?_
          go_simp
          refine sched_done (by kernel_rfl) ?_
          obtain ⟨y0, y1, y2, y3, y4, y5, y6, y7, y8, y9, y10, y11⟩ := hcz.out w7 HUw7.out
          have hmb := Lib.hid (most_box HUw7.out r0 n0)
          have t0 : w.heap.size < w7.heap.size := by have := HUw7.out.size; have := hwzs.out; omega
          have t1 : w.heap.size + 1 < w7.heap.size := by have := HUw7.out.size; have := hwzs.out; omega
          have t2 : w.heap.size + 1 + 1 < w7.heap.size := by have := HUw7.out.size; have := hwzs.out; omega
          go_wp2_with fail
          refine (hrl01.out _).mono ?_
          rintro e w8 ⟨rfl, hu⟩
          obtain ⟨a0, a1, a2, a3, a4⟩ := hmb.out w8 hu
          replace a4 := Lib.hid a4
          replace a3 := Lib.hid a3
          clear hu t0 t1 t2 y0 y1 y2 y3 y4 y5 y6 y7 y8 y9 y10 y11
          obtain ⟨y0, y1, y2, y3, y4, y5, y6, y7, y8, y9, y10, y11⟩ := hcz.out w8 a3.out
          have hb : wz.heap.size ≤ w7.heap.size := HUw7.out.size
          obtain ⟨w9, hw9, h9, hm9⟩ := most_set hb a3.out a4.out (.int .u64 r1) (.int .i64 n1)
          have HUw9 := Lib.hid h9
          have hmost := Lib.hid hm9
          clear h9 hm9 hb
          go_wp2_with fail
          clear a0 a1 a2 a3 a4 y0 y1 y2 y3 y4 y5 y6 y7 y8 y9 y10 y11 hw9
          refine sched_begin NoB (by kernel_rfl) ?_
          have HUd := Lib.hid HUw9.out.drew
          have HMd := Lib.hid (Upd.refl NoB w9).drew
          refine sched_take 0 rfl (by kernel_rfl) (by kernel_rfl) (by kernel_rfl) (fun _ _ _ h => h) rfl (fun x hx => by obtain ⟨y0, y1, y2, y3, y4, y5, y6, y7, y8, y9, y10, y11⟩ := hcz.out x (HUd.out.trans hx); obtain ⟨m0, m1⟩ := hmost.out x (HMd.out.trans hx); go_simp; rfl) ?_
          go_simp
          refine sched_take 1 rfl (by kernel_rfl) (by kernel_rfl) (by kernel_rfl) (fun _ _ _ h => h) rfl (fun x hx => by obtain ⟨y0, y1, y2, y3, y4, y5, y6, y7, y8, y9, y10, y11⟩ := hcz.out x (HUd.out.trans hx); obtain ⟨m0, m1⟩ := hmost.out x (HMd.out.trans hx); go_simp; rfl) ?_
          go_simp
          refine sched_take 4 rfl (by kernel_rfl) (by kernel_rfl) (by kernel_rfl) (fun _ _ _ h => h) rfl (fun x hx => by obtain ⟨y0, y1, y2, y3, y4, y5, y6, y7, y8, y9, y10, y11⟩ := hcz.out x (HUd.out.trans hx); obtain ⟨m0, m1⟩ := hmost.out x (HMd.out.trans hx); go_simp; rfl) ?_
          go_simp
          refine sched_alone 2 (by kernel_rfl) rfl rfl ?_
          go_simp
          refine (hmax.out _).mono ?_
          rintro e w10 ⟨rfl, hu⟩
          refine ⟨hu, ?_⟩
          have HUw10 := Lib.hid (HUd.out.trans hu)
          clear hu
          go_simp
          refine sched_alone 3 (by kernel_rfl) rfl rfl ?_
          go_simp
          refine (hplain.out _ _ _).mono ?_
          rintro e w11 ⟨rfl, hu⟩
          refine ⟨hu, ?_⟩
          have HUw11 := Lib.hid (HUw10.out.trans hu)
          clear hu
          go_simp
          refine sched_take 5 rfl (by kernel_rfl) (by kernel_rfl) (by kernel_rfl) (fun _ _ _ h => h) rfl (fun x hx => by go_simp; rfl) ?_
          go_simp
          refine sched_take 6 rfl (by kernel_rfl) (by kernel_rfl) (by kernel_rfl) (fun _ _ _ h => h) rfl (fun x hx => by go_simp; rfl) ?_
          go_simp
          refine sched_alone 7 (by kernel_rfl) rfl rfl ?_
          go_simp
          refine (hawake.out _).mono ?_
          rintro e w12 ⟨rfl, hu⟩
          refine ⟨hu, ?_⟩
          have HUw12 := Lib.hid (HUw11.out.trans hu)
          clear hu
          go_simp
          refine sched_take 8 rfl (by kernel_rfl) (by kernel_rfl) (by kernel_rfl) (fun _ _ _ h => h) rfl (fun x hx => by go_simp; rfl) ?_
          go_simp
          refine sched_take 9 rfl (by kernel_rfl) (by kernel_rfl) (by kernel_rfl) (fun _ _ _ h => h) rfl (fun x hx => by go_simp; rfl) ?_
          go_simp
          refine sched_done (by kernel_rfl) ?_
          go_wp2_with fail
          go_ret
          exact ⟨rfl, HUz.out.trans HUw12.out⟩
  have S2789 : ∀ (x : World) (b7 b8 b9 : Nat), Fr wa x (some b7) (some b8) (some b9) → S 4 #[true, true, true, true, true, false, true, true, true, false, false, false] ⟨#[.agg #[.int .u64 r0, .int .i64 n0], .agg #[.int .u64 r1, .int .i64 n1], .agg #[.int .u64 r2, .int .i64 n2], .pointer (some ⟨w.heap.size, 0, none⟩), .pointer (some ⟨w.heap.size + 1, 0, none⟩), .pointer (some ⟨w.heap.size + 1 + 1, 0, none⟩), .bool false, .pointer (some ⟨b7, 0, none⟩), .pointer (some ⟨b8, 0, none⟩), .pointer (some ⟨b9, 0, none⟩), undef, .agg #[.int .u64 r0, .int .i64 n0], .agg #[.int .u64 r0, .int .i64 n0], .agg #[.int .u64 r1, .int .i64 n1], .agg #[.int .u64 r1, .int .i64 n1], .agg #[.int .u64 r2, .int .i64 n2], undef, undef, undef, undef, undef, undef, undef, undef, undef, undef, undef, undef, undef, undef, undef, undef, undef, undef, undef, undef, undef, undef, undef, undef, undef, undef, undef, undef, undef, undef, undef, undef, undef, undef, undef, undef, undef, undef, undef, undef, undef, undef, undef, undef, undef, undef, undef, undef, undef, undef, undef, undef], []⟩ x := by
    intro x b7 b8 b9 hf0
    have hf := Lib.hid hf0
    clear hf0
    refine (hS.out _ _ _ _).2 ?_
    refine sched_some [5] (by kernel_rfl) (by simp) (List.forall_mem_cons.2 ⟨⟨_, rfl, rfl, ?_⟩, List.forall_mem_nil _⟩)
    · go_simp
      refine (hours.out _ _ _).mono ?_
      rintro e w1 ⟨rfl, hu⟩
      exact ⟨hu.mono (fun _ _ h => h.elim), sched_listed (by kernel_rfl) ((hS.out _ _ _ _).1 (S3789 _ _ _ _ (hf.out.upd hu)))⟩
  have S378 : ∀ (x : World) (b7 b8 : Nat), Fr wa x (some b7) (some b8) none → S 4 #[true, true, true, true, true, true, true, true, false, false, false, false] ⟨#[.agg #[.int .u64 r0, .int .i64 n0], .agg #[.int .u64 r1, .int .i64 n1], .agg #[.int .u64 r2, .int .i64 n2], .pointer (some ⟨w.heap.size, 0, none⟩), .pointer (some ⟨w.heap.size + 1, 0, none⟩), .pointer (some ⟨w.heap.size + 1 + 1, 0, none⟩), .bool false, .pointer (some ⟨b7, 0, none⟩), .pointer (some ⟨b8, 0, none⟩), undef, undef, .agg #[.int .u64 r0, .int .i64 n0], .agg #[.int .u64 r0, .int .i64 n0], .agg #[.int .u64 r1, .int .i64 n1], .agg #[.int .u64 r1, .int .i64 n1], .agg #[.int .u64 r2, .int .i64 n2], .agg #[.int .u64 r2, .int .i64 n2], undef, undef, undef, undef, undef, undef, undef, undef, undef, undef, undef, undef, undef, undef, undef, undef, undef, undef, undef, undef, undef, undef, undef, undef, undef, undef, undef, undef, undef, undef, undef, undef, undef, undef, undef, undef, undef, undef, undef, undef, undef, undef, undef, undef, undef, undef, undef, undef, undef, undef, undef], []⟩ x := by
    intro x b7 b8 hf0
    have hf := Lib.hid hf0
    clear hf0
    refine (hS.out _ _ _ _).2 ?_
    refine sched_some [8] (by kernel_rfl) (by simp) (List.forall_mem_cons.2 ⟨⟨_, rfl, rfl, ?_⟩, List.forall_mem_nil _⟩)
    · go_simp
      exact ⟨(Upd.refl _ _).alloc _, sched_listed (by kernel_rfl) ((hS.out _ _ _ _).1 (S3789 _ _ _ _ hf.out.a9))⟩
  have S379 : ∀ (x : World) (b7 b9 : Nat), Fr wa x (some b7) none (some b9) → S 4 #[true, true, true, true, true, true, true, false, true, false, false, false] ⟨#[.agg #[.int .u64 r0, .int .i64 n0], .agg #[.int .u64 r1, .int .i64 n1], .agg #[.int .u64 r2, .int .i64 n2], .pointer (some ⟨w.heap.size, 0, none⟩), .pointer (some ⟨w.heap.size + 1, 0, none⟩), .pointer (some ⟨w.heap.size + 1 + 1, 0, none⟩), .bool false, .pointer (some ⟨b7, 0, none⟩), undef, .pointer (some ⟨b9, 0, none⟩), undef, .agg #[.int .u64 r0, .int .i64 n0], .agg #[.int .u64 r0, .int .i64 n0], .agg #[.int .u64 r1, .int .i64 n1], .agg #[.int .u64 r1, .int .i64 n1], .agg #[.int .u64 r2, .int .i64 n2], .agg #[.int .u64 r2, .int .i64 n2], undef, undef, undef, undef, undef, undef, undef, undef, undef, undef, undef, undef, undef, undef, undef, undef, undef, undef, undef, undef, undef, undef, undef, undef, undef, undef, undef, undef, undef, undef, undef, undef, undef, undef, undef, undef, undef, undef, undef, undef, undef, undef, undef, undef, undef, undef, undef, undef, undef, undef, undef], []⟩ x := by
    intro x b7 b9 hf0
    have hf := Lib.hid hf0
    clear hf0
    refine (hS.out _ _ _ _).2 ?_
    refine sched_some [7] (by kernel_rfl) (by simp) (List.forall_mem_cons.2 ⟨⟨_, rfl, rfl, ?_⟩, List.forall_mem_nil _⟩)
    · go_simp
      exact ⟨(Upd.refl _ _).alloc _, sched_listed (by kernel_rfl) ((hS.out _ _ _ _).1 (S3789 _ _ _ _ hf.out.a8))⟩
  have S389 : ∀ (x : World) (b8 b9 : Nat), Fr wa x none (some b8) (some b9) → S 4 #[true, true, true, true, true, true, false, true, true, false, false, false] ⟨#[.agg #[.int .u64 r0, .int .i64 n0], .agg #[.int .u64 r1, .int .i64 n1], .agg #[.int .u64 r2, .int .i64 n2], .pointer (some ⟨w.heap.size, 0, none⟩), .pointer (some ⟨w.heap.size + 1, 0, none⟩), .pointer (some ⟨w.heap.size + 1 + 1, 0, none⟩), .bool false, undef, .pointer (some ⟨b8, 0, none⟩), .pointer (some ⟨b9, 0, none⟩), undef, .agg #[.int .u64 r0, .int .i64 n0], .agg #[.int .u64 r0, .int .i64 n0], .agg #[.int .u64 r1, .int .i64 n1], .agg #[.int .u64 r1, .int .i64 n1], .agg #[.int .u64 r2, .int .i64 n2], .agg #[.int .u64 r2, .int .i64 n2], undef, undef, undef, undef, undef, undef, undef, undef, undef, undef, undef, undef, undef, undef, undef, undef, undef, undef, undef, undef, undef, undef, undef, undef, undef, undef, undef, undef, undef, undef, undef, undef, undef, undef, undef, undef, undef, undef, undef, undef, undef, undef, undef, undef, undef, undef, undef, undef, undef, undef, undef], []⟩ x := by
    intro x b8 b9 hf0
    have hf := Lib.hid hf0
    clear hf0
    refine (hS.out _ _ _ _).2 ?_
    refine sched_some [6] (by kernel_rfl) (by simp) (List.forall_mem_cons.2 ⟨⟨_, rfl, rfl, ?_⟩, List.forall_mem_nil _⟩)
    · go_simp
      exact ⟨(Upd.refl _ _).alloc _, sched_listed (by kernel_rfl) ((hS.out _ _ _ _).1 (S3789 _ _ _ _ hf.out.a7))⟩
  have S1789 : ∀ (x : World) (b7 b8 b9 : Nat), Fr wa x (some b7) (some b8) (some b9) → S 5 #[true, true, true, false, true, false, true, true, true, false, false, false] ⟨#[.agg #[.int .u64 r0, .int .i64 n0], .agg #[.int .u64 r1, .int .i64 n1], .agg #[.int .u64 r2, .int .i64 n2], .pointer (some ⟨w.heap.size, 0, none⟩), .pointer (some ⟨w.heap.size + 1, 0, none⟩), .pointer (some ⟨w.heap.size + 1 + 1, 0, none⟩), .bool false, .pointer (some ⟨b7, 0, none⟩), .pointer (some ⟨b8, 0, none⟩), .pointer (some ⟨b9, 0, none⟩), undef, .agg #[.int .u64 r0, .int .i64 n0], .agg #[.int .u64 r0, .int .i64 n0], .agg #[.int .u64 r1, .int .i64 n1], undef, .agg #[.int .u64 r2, .int .i64 n2], undef, undef, undef, undef, undef, undef, undef, undef, undef, undef, undef, undef, undef, undef, undef, undef, undef, undef, undef, undef, undef, undef, undef, undef, undef, undef, undef, undef, undef, undef, undef, undef, undef, undef, undef, undef, undef, undef, undef, undef, undef, undef, undef, undef, undef, undef, undef, undef, undef, undef, undef, undef], []⟩ x := by
    intro x b7 b8 b9 hf0
    have hf := Lib.hid hf0
    clear hf0
    refine (hS.out _ _ _ _).2 ?_
    refine sched_some [3] (by kernel_rfl) (by simp) (List.forall_mem_cons.2 ⟨⟨_, rfl, rfl, ?_⟩, List.forall_mem_nil _⟩)
    · go_simp
      refine (hours.out _ _ _).mono ?_
      rintro e w1 ⟨rfl, hu⟩
      exact ⟨hu.mono (fun _ _ h => h.elim), sched_listed (by kernel_rfl) ((hS.out _ _ _ _).1 (S2789 _ _ _ _ (hf.out.upd hu)))⟩
  have S278 : ∀ (x : World) (b7 b8 : Nat), Fr wa x (some b7) (some b8) none → S 5 #[true, true, true, true, true, false, true, true, false, false, false, false] ⟨#[.agg #[.int .u64 r0, .int .i64 n0], .agg #[.int .u64 r1, .int .i64 n1], .agg #[.int .u64 r2, .int .i64 n2], .pointer (some ⟨w.heap.size, 0, none⟩), .pointer (some ⟨w.heap.size + 1, 0, none⟩), .pointer (some ⟨w.heap.size + 1 + 1, 0, none⟩), .bool false, .pointer (some ⟨b7, 0, none⟩), .pointer (some ⟨b8, 0, none⟩), undef, undef, .agg #[.int .u64 r0, .int .i64 n0], .agg #[.int .u64 r0, .int .i64 n0], .agg #[.int .u64 r1, .int .i64 n1], .agg #[.int .u64 r1, .int .i64 n1], .agg #[.int .u64 r2, .int .i64 n2], undef, undef, undef, undef, undef, undef, undef, undef, undef, undef, undef, undef, undef, undef, undef, undef, undef, undef, undef, undef, undef, undef, undef, undef, undef, undef, undef, undef, undef, undef, undef, undef, undef, undef, undef, undef, undef, undef, undef, undef, undef, undef, undef, undef, undef, undef, undef, undef, undef, undef, undef, undef], []⟩ x := by
    intro x b7 b8 hf0
    have hf := Lib.hid hf0
    clear hf0
    refine (hS.out _ _ _ _).2 ?_
    refine sched_some [5, 8] (by kernel_rfl) (by simp) (List.forall_mem_cons.2 ⟨⟨_, rfl, rfl, ?_⟩, List.forall_mem_cons.2 ⟨⟨_, rfl, rfl, ?_⟩, List.forall_mem_nil _⟩⟩)
    · go_simp
      refine (hours.out _ _ _).mono ?_
      rintro e w1 ⟨rfl, hu⟩
      exact ⟨hu.mono (fun _ _ h => h.elim), sched_listed (by kernel_rfl) ((hS.out _ _ _ _).1 (S378 _ _ _ (hf.out.upd hu)))⟩
    · go_simp
      exact ⟨(Upd.refl _ _).alloc _, sched_listed (by kernel_rfl) ((hS.out _ _ _ _).1 (S2789 _ _ _ _ hf.out.a9))⟩
  have S279 : ∀ (x : World) (b7 b9 : Nat), Fr wa x (some b7) none (some b9) → S 5 #[true, true, true, true, true, false, true, false, true, false, false, false] ⟨#[.agg #[.int .u64 r0, .int .i64 n0], .agg #[.int .u64 r1, .int .i64 n1], .agg #[.int .u64 r2, .int .i64 n2], .pointer (some ⟨w.heap.size, 0, none⟩), .pointer (some ⟨w.heap.size + 1, 0, none⟩), .pointer (some ⟨w.heap.size + 1 + 1, 0, none⟩), .bool false, .pointer (some ⟨b7, 0, none⟩), undef, .pointer (some ⟨b9, 0, none⟩), undef, .agg #[.int .u64 r0, .int .i64 n0], .agg #[.int .u64 r0, .int .i64 n0], .agg #[.int .u64 r1, .int .i64 n1], .agg #[.int .u64 r1, .int .i64 n1], .agg #[.int .u64 r2, .int .i64 n2], undef, undef, undef, undef, undef, undef, undef, undef, undef, undef, undef, undef, undef, undef, undef, undef, undef, undef, undef, undef, undef, undef, undef, undef, undef, undef, undef, undef, undef, undef, undef, undef, undef, undef, undef, undef, undef, undef, undef, undef, undef, undef, undef, undef, undef, undef, undef, undef, undef, undef, undef, undef], []⟩ x := by
    intro x b7 b9 hf0
    have hf := Lib.hid hf0
    clear hf0
    refine (hS.out _ _ _ _).2 ?_
    refine sched_some [5, 7] (by kernel_rfl) (by simp) (List.forall_mem_cons.2 ⟨⟨_, rfl, rfl, ?_⟩, List.forall_mem_cons.2 ⟨⟨_, rfl, rfl, ?_⟩, List.forall_mem_nil _⟩⟩)
    · go_simp
      refine (hours.out _ _ _).mono ?_
      rintro e w1 ⟨rfl, hu⟩
      exact ⟨hu.mono (fun _ _ h => h.elim), sched_listed (by kernel_rfl) ((hS.out _ _ _ _).1 (S379 _ _ _ (hf.out.upd hu)))⟩
    · go_simp
      exact ⟨(Upd.refl _ _).alloc _, sched_listed (by kernel_rfl) ((hS.out _ _ _ _).1 (S2789 _ _ _ _ hf.out.a8))⟩
  have S289 : ∀ (x : World) (b8 b9 : Nat), Fr wa x none (some b8) (some b9) → S 5 #[true, true, true, true, true, false, false, true, true, false, false, false] ⟨#[.agg #[.int .u64 r0, .int .i64 n0], .agg #[.int .u64 r1, .int .i64 n1], .agg #[.int .u64 r2, .int .i64 n2], .pointer (some ⟨w.heap.size, 0, none⟩), .pointer (some ⟨w.heap.size + 1, 0, none⟩), .pointer (some ⟨w.heap.size + 1 + 1, 0, none⟩), .bool false, undef, .pointer (some ⟨b8, 0, none⟩), .pointer (some ⟨b9, 0, none⟩), undef, .agg #[.int .u64 r0, .int .i64 n0], .agg #[.int .u64 r0, .int .i64 n0], .agg #[.int .u64 r1, .int .i64 n1], .agg #[.int .u64 r1, .int .i64 n1], .agg #[.int .u64 r2, .int .i64 n2], undef, undef, undef, undef, undef, undef, undef, undef, undef, undef, undef, undef, undef, undef, undef, undef, undef, undef, undef, undef, undef, undef, undef, undef, undef, undef, undef, undef, undef, undef, undef, undef, undef, undef, undef, undef, undef, undef, undef, undef, undef, undef, undef, undef, undef, undef, undef, undef, undef, undef, undef, undef], []⟩ x := by
    intro x b8 b9 hf0
    have hf := Lib.hid hf0
    clear hf0
    refine (hS.out _ _ _ _).2 ?_
    refine sched_some [5, 6] (by kernel_rfl) (by simp) (List.forall_mem_cons.2 ⟨⟨_, rfl, rfl, ?_⟩, List.forall_mem_cons.2 ⟨⟨_, rfl, rfl, ?_⟩, List.forall_mem_nil _⟩⟩)
    · go_simp
      refine (hours.out _ _ _).mono ?_
      rintro e w1 ⟨rfl, hu⟩
      exact ⟨hu.mono (fun _ _ h => h.elim), sched_listed (by kernel_rfl) ((hS.out _ _ _ _).1 (S389 _ _ _ (hf.out.upd hu)))⟩
    · go_simp
      exact ⟨(Upd.refl _ _).alloc _, sched_listed (by kernel_rfl) ((hS.out _ _ _ _).1 (S2789 _ _ _ _ hf.out.a7))⟩
  have S37 : ∀ (x : World) (b7 : Nat), Fr wa x (some b7) none none → S 5 #[true, true, true, true, true, true, true, false, false, false, false, false] ⟨#[.agg #[.int .u64 r0, .int .i64 n0], .agg #[.int .u64 r1, .int .i64 n1], .agg #[.int .u64 r2, .int .i64 n2], .pointer (some ⟨w.heap.size, 0, none⟩), .pointer (some ⟨w.heap.size + 1, 0, none⟩), .pointer (some ⟨w.heap.size + 1 + 1, 0, none⟩), .bool false, .pointer (some ⟨b7, 0, none⟩), undef, undef, undef, .agg #[.int .u64 r0, .int .i64 n0], .agg #[.int .u64 r0, .int .i64 n0], .agg #[.int .u64 r1, .int .i64 n1], .agg #[.int .u64 r1, .int .i64 n1], .agg #[.int .u64 r2, .int .i64 n2], .agg #[.int .u64 r2, .int .i64 n2], undef, undef, undef, undef, undef, undef, undef, undef, undef, undef, undef, undef, undef, undef, undef, undef, undef, undef, undef, undef, undef, undef, undef, undef, undef, undef, undef, undef, undef, undef, undef, undef, undef, undef, undef, undef, undef, undef, undef, undef, undef, undef, undef, undef, undef, undef, undef, undef, undef, undef, undef], []⟩ x := by
    intro x b7 hf0
    have hf := Lib.hid hf0
    clear hf0
    refine (hS.out _ _ _ _).2 ?_
    refine sched_some [7, 8] (by kernel_rfl) (by simp) (List.forall_mem_cons.2 ⟨⟨_, rfl, rfl, ?_⟩, List.forall_mem_cons.2 ⟨⟨_, rfl, rfl, ?_⟩, List.forall_mem_nil _⟩⟩)
    · go_simp
      exact ⟨(Upd.refl _ _).alloc _, sched_listed (by kernel_rfl) ((hS.out _ _ _ _).1 (S378 _ _ _ hf.out.a8))⟩
    · go_simp
      exact ⟨(Upd.refl _ _).alloc _, sched_listed (by kernel_rfl) ((hS.out _ _ _ _).1 (S379 _ _ _ hf.out.a9))⟩
  have S38 : ∀ (x : World) (b8 : Nat), Fr wa x none (some b8) none → S 5 #[true, true, true, true, true, true, false, true, false, false, false, false] ⟨#[.agg #[.int .u64 r0, .int .i64 n0], .agg #[.int .u64 r1, .int .i64 n1], .agg #[.int .u64 r2, .int .i64 n2], .pointer (some ⟨w.heap.size, 0, none⟩), .pointer (some ⟨w.heap.size + 1, 0, none⟩), .pointer (some ⟨w.heap.size + 1 + 1, 0, none⟩), .bool false, undef, .pointer (some ⟨b8, 0, none⟩), undef, undef, .agg #[.int .u64 r0, .int .i64 n0], .agg #[.int .u64 r0, .int .i64 n0], .agg #[.int .u64 r1, .int .i64 n1], .agg #[.int .u64 r1, .int .i64 n1], .agg #[.int .u64 r2, .int .i64 n2], .agg #[.int .u64 r2, .int .i64 n2], undef, undef, undef, undef, undef, undef, undef, undef, undef, undef, undef, undef, undef, undef, undef, undef, undef, undef, undef, undef, undef, undef, undef, undef, undef, undef, undef, undef, undef, undef, undef, undef, undef, undef, undef, undef, undef, undef, undef, undef, undef, undef, undef, undef, undef, undef, undef, undef, undef, undef, undef], []⟩ x := by
    intro x b8 hf0
    have hf := Lib.hid hf0
    clear hf0
    refine (hS.out _ _ _ _).2 ?_
    refine sched_some [6, 8] (by kernel_rfl) (by simp) (List.forall_mem_cons.2 ⟨⟨_, rfl, rfl, ?_⟩, List.forall_mem_cons.2 ⟨⟨_, rfl, rfl, ?_⟩, List.forall_mem_nil _⟩⟩)
    · go_simp
      exact ⟨(Upd.refl _ _).alloc _, sched_listed (by kernel_rfl) ((hS.out _ _ _ _).1 (S378 _ _ _ hf.out.a7))⟩
    · go_simp
      exact ⟨(Upd.refl _ _).alloc _, sched_listed (by kernel_rfl) ((hS.out _ _ _ _).1 (S389 _ _ _ hf.out.a9))⟩
  have S39 : ∀ (x : World) (b9 : Nat), Fr wa x none none (some b9) → S 5 #[true, true, true, true, true, true, false, false, true, false, false, false] ⟨#[.agg #[.int .u64 r0, .int .i64 n0], .agg #[.int .u64 r1, .int .i64 n1], .agg #[.int .u64 r2, .int .i64 n2], .pointer (some ⟨w.heap.size, 0, none⟩), .pointer (some ⟨w.heap.size + 1, 0, none⟩), .pointer (some ⟨w.heap.size + 1 + 1, 0, none⟩), .bool false, undef, undef, .pointer (some ⟨b9, 0, none⟩), undef, .agg #[.int .u64 r0, .int .i64 n0], .agg #[.int .u64 r0, .int .i64 n0], .agg #[.int .u64 r1, .int .i64 n1], .agg #[.int .u64 r1, .int .i64 n1], .agg #[.int .u64 r2, .int .i64 n2], .agg #[.int .u64 r2, .int .i64 n2], undef, undef, undef, undef, undef, undef, undef, undef, undef, undef, undef, undef, undef, undef, undef, undef, undef, undef, undef, undef, undef, undef, undef, undef, undef, undef, undef, undef, undef, undef, undef, undef, undef, undef, undef, undef, undef, undef, undef, undef, undef, undef, undef, undef, undef, undef, undef, undef, undef, undef, undef], []⟩ x := by
    intro x b9 hf0
    have hf := Lib.hid hf0
    clear hf0
    refine (hS.out _ _ _ _).2 ?_
    refine sched_some [6, 7] (by kernel_rfl) (by simp) (List.forall_mem_cons.2 ⟨⟨_, rfl, rfl, ?_⟩, List.forall_mem_cons.2 ⟨⟨_, rfl, rfl, ?_⟩, List.forall_mem_nil _⟩⟩)
    · go_simp
      exact ⟨(Upd.refl _ _).alloc _, sched_listed (by kernel_rfl) ((hS.out _ _ _ _).1 (S379 _ _ _ hf.out.a7))⟩
    · go_simp
      exact ⟨(Upd.refl _ _).alloc _, sched_listed (by kernel_rfl) ((hS.out _ _ _ _).1 (S389 _ _ _ hf.out.a8))⟩
  have S0789 : ∀ (x : World) (b7 b8 b9 : Nat), Fr wa x (some b7) (some b8) (some b9) → S 6 #[true, false, true, false, true, false, true, true, true, false, false, false] ⟨#[.agg #[.int .u64 r0, .int .i64 n0], .agg #[.int .u64 r1, .int .i64 n1], .agg #[.int .u64 r2, .int .i64 n2], .pointer (some ⟨w.heap.size, 0, none⟩), .pointer (some ⟨w.heap.size + 1, 0, none⟩), .pointer (some ⟨w.heap.size + 1 + 1, 0, none⟩), .bool false, .pointer (some ⟨b7, 0, none⟩), .pointer (some ⟨b8, 0, none⟩), .pointer (some ⟨b9, 0, none⟩), undef, .agg #[.int .u64 r0, .int .i64 n0], undef, .agg #[.int .u64 r1, .int .i64 n1], undef, .agg #[.int .u64 r2, .int .i64 n2], undef, undef, undef, undef, undef, undef, undef, undef, undef, undef, undef, undef, undef, undef, undef, undef, undef, undef, undef, undef, undef, undef, undef, undef, undef, undef, undef, undef, undef, undef, undef, undef, undef, undef, undef, undef, undef, undef, undef, undef, undef, undef, undef, undef, undef, undef, undef, undef, undef, undef, undef, undef], []⟩ x := by
    intro x b7 b8 b9 hf0
    have hf := Lib.hid hf0
    clear hf0
    refine (hS.out _ _ _ _).2 ?_
    refine sched_some [1] (by kernel_rfl) (by simp) (List.forall_mem_cons.2 ⟨⟨_, rfl, rfl, ?_⟩, List.forall_mem_nil _⟩)
    · go_simp
      refine (hours.out _ _ _).mono ?_
      rintro e w1 ⟨rfl, hu⟩
      exact ⟨hu.mono (fun _ _ h => h.elim), sched_listed (by kernel_rfl) ((hS.out _ _ _ _).1 (S1789 _ _ _ _ (hf.out.upd hu)))⟩
  have S178 : ∀ (x : World) (b7 b8 : Nat), Fr wa x (some b7) (some b8) none → S 6 #[true, true, true, false, true, false, true, true, false, false, false, false] ⟨#[.agg #[.int .u64 r0, .int .i64 n0], .agg #[.int .u64 r1, .int .i64 n1], .agg #[.int .u64 r2, .int .i64 n2], .pointer (some ⟨w.heap.size, 0, none⟩), .pointer (some ⟨w.heap.size + 1, 0, none⟩), .pointer (some ⟨w.heap.size + 1 + 1, 0, none⟩), .bool false, .pointer (some ⟨b7, 0, none⟩), .pointer (some ⟨b8, 0, none⟩), undef, undef, .agg #[.int .u64 r0, .int .i64 n0], .agg #[.int .u64 r0, .int .i64 n0], .agg #[.int .u64 r1, .int .i64 n1], undef, .agg #[.int .u64 r2, .int .i64 n2], undef, undef, undef, undef, undef, undef, undef, undef, undef, undef, undef, undef, undef, undef, undef, undef, undef, undef, undef, undef, undef, undef, undef, undef, undef, undef, undef, undef, undef, undef, undef, undef, undef, undef, undef, undef, undef, undef, undef, undef, undef, undef, undef, undef, undef, undef, undef, undef, undef, undef, undef, undef], []⟩ x := by
    intro x b7 b8 hf0
    have hf := Lib.hid hf0
    clear hf0
    refine (hS.out _ _ _ _).2 ?_
    refine sched_some [3, 8] (by kernel_rfl) (by simp) (List.forall_mem_cons.2 ⟨⟨_, rfl, rfl, ?_⟩, List.forall_mem_cons.2 ⟨⟨_, rfl, rfl, ?_⟩, List.forall_mem_nil _⟩⟩)
    · go_simp
      refine (hours.out _ _ _).mono ?_
      rintro e w1 ⟨rfl, hu⟩
      exact ⟨hu.mono (fun _ _ h => h.elim), sched_listed (by kernel_rfl) ((hS.out _ _ _ _).1 (S278 _ _ _ (hf.out.upd hu)))⟩
    · go_simp
      exact ⟨(Upd.refl _ _).alloc _, sched_listed (by kernel_rfl) ((hS.out _ _ _ _).1 (S1789 _ _ _ _ hf.out.a9))⟩
  have S179 : ∀ (x : World) (b7 b9 : Nat), Fr wa x (some b7) none (some b9) → S 6 #[true, true, true, false, true, false, true, false, true, false, false, false] ⟨#[.agg #[.int .u64 r0, .int .i64 n0], .agg #[.int .u64 r1, .int .i64 n1], .agg #[.int .u64 r2, .int .i64 n2], .pointer (some ⟨w.heap.size, 0, none⟩), .pointer (some ⟨w.heap.size + 1, 0, none⟩), .pointer (some ⟨w.heap.size + 1 + 1, 0, none⟩), .bool false, .pointer (some ⟨b7, 0, none⟩), undef, .pointer (some ⟨b9, 0, none⟩), undef, .agg #[.int .u64 r0, .int .i64 n0], .agg #[.int .u64 r0, .int .i64 n0], .agg #[.int .u64 r1, .int .i64 n1], undef, .agg #[.int .u64 r2, .int .i64 n2], undef, undef, undef, undef, undef, undef, undef, undef, undef, undef, undef, undef, undef, undef, undef, undef, undef, undef, undef, undef, undef, undef, undef, undef, undef, undef, undef, undef, undef, undef, undef, undef, undef, undef, undef, undef, undef, undef, undef, undef, undef, undef, undef, undef, undef, undef, undef, undef, undef, undef, undef, undef], []⟩ x := by
    intro x b7 b9 hf0
    have hf := Lib.hid hf0
    clear hf0
    refine (hS.out _ _ _ _).2 ?_
    refine sched_some [3, 7] (by kernel_rfl) (by simp) (List.forall_mem_cons.2 ⟨⟨_, rfl, rfl, ?_⟩, List.forall_mem_cons.2 ⟨⟨_, rfl, rfl, ?_⟩, List.forall_mem_nil _⟩⟩)
    · go_simp
      refine (hours.out _ _ _).mono ?_
      rintro e w1 ⟨rfl, hu⟩
      exact ⟨hu.mono (fun _ _ h => h.elim), sched_listed (by kernel_rfl) ((hS.out _ _ _ _).1 (S279 _ _ _ (hf.out.upd hu)))⟩
    · go_simp
      exact ⟨(Upd.refl _ _).alloc _, sched_listed (by kernel_rfl) ((hS.out _ _ _ _).1 (S1789 _ _ _ _ hf.out.a8))⟩
  have S189 : ∀ (x : World) (b8 b9 : Nat), Fr wa x none (some b8) (some b9) → S 6 #[true, true, true, false, true, false, false, true, true, false, false, false] ⟨#[.agg #[.int .u64 r0, .int .i64 n0], .agg #[.int .u64 r1, .int .i64 n1], .agg #[.int .u64 r2, .int .i64 n2], .pointer (some ⟨w.heap.size, 0, none⟩), .pointer (some ⟨w.heap.size + 1, 0, none⟩), .pointer (some ⟨w.heap.size + 1 + 1, 0, none⟩), .bool false, undef, .pointer (some ⟨b8, 0, none⟩), .pointer (some ⟨b9, 0, none⟩), undef, .agg #[.int .u64 r0, .int .i64 n0], .agg #[.int .u64 r0, .int .i64 n0], .agg #[.int .u64 r1, .int .i64 n1], undef, .agg #[.int .u64 r2, .int .i64 n2], undef, undef, undef, undef, undef, undef, undef, undef, undef, undef, undef, undef, undef, undef, undef, undef, undef, undef, undef, undef, undef, undef, undef, undef, undef, undef, undef, undef, undef, undef, undef, undef, undef, undef, undef, undef, undef, undef, undef, undef, undef, undef, undef, undef, undef, undef, undef, undef, undef, undef, undef, undef], []⟩ x := by
    intro x b8 b9 hf0
    have hf := Lib.hid hf0
    clear hf0
    refine (hS.out _ _ _ _).2 ?_
    refine sched_some [3, 6] (by kernel_rfl) (by simp) (List.forall_mem_cons.2 ⟨⟨_, rfl, rfl, ?_⟩, List.forall_mem_cons.2 ⟨⟨_, rfl, rfl, ?_⟩, List.forall_mem_nil _⟩⟩)
    · go_simp
      refine (hours.out _ _ _).mono ?_
      rintro e w1 ⟨rfl, hu⟩
      exact ⟨hu.mono (fun _ _ h => h.elim), sched_listed (by kernel_rfl) ((hS.out _ _ _ _).1 (S289 _ _ _ (hf.out.upd hu)))⟩
    · go_simp
      exact ⟨(Upd.refl _ _).alloc _, sched_listed (by kernel_rfl) ((hS.out _ _ _ _).1 (S1789 _ _ _ _ hf.out.a7))⟩
  have S27 : ∀ (x : World) (b7 : Nat), Fr wa x (some b7) none none → S 6 #[true, true, true, true, true, false, true, false, false, false, false, false] ⟨#[.agg #[.int .u64 r0, .int .i64 n0], .agg #[.int .u64 r1, .int .i64 n1], .agg #[.int .u64 r2, .int .i64 n2], .pointer (some ⟨w.heap.size, 0, none⟩), .pointer (some ⟨w.heap.size + 1, 0, none⟩), .pointer (some ⟨w.heap.size + 1 + 1, 0, none⟩), .bool false, .pointer (some ⟨b7, 0, none⟩), undef, undef, undef, .agg #[.int .u64 r0, .int .i64 n0], .agg #[.int .u64 r0, .int .i64 n0], .agg #[.int .u64 r1, .int .i64 n1], .agg #[.int .u64 r1, .int .i64 n1], .agg #[.int .u64 r2, .int .i64 n2], undef, undef, undef, undef, undef, undef, undef, undef, undef, undef, undef, undef, undef, undef, undef, undef, undef, undef, undef, undef, undef, undef, undef, undef, undef, undef, undef, undef, undef, undef, undef, undef, undef, undef, undef, undef, undef, undef, undef, undef, undef, undef, undef, undef, undef, undef, undef, undef, undef, undef, undef, undef], []⟩ x := by
    intro x b7 hf0
    have hf := Lib.hid hf0
    clear hf0
    refine (hS.out _ _ _ _).2 ?_
    refine sched_some [5, 7, 8] (by kernel_rfl) (by simp) (List.forall_mem_cons.2 ⟨⟨_, rfl, rfl, ?_⟩, List.forall_mem_cons.2 ⟨⟨_, rfl, rfl, ?_⟩, List.forall_mem_cons.2 ⟨⟨_, rfl, rfl, ?_⟩, List.forall_mem_nil _⟩⟩⟩)
    · go_simp
      refine (hours.out _ _ _).mono ?_
      rintro e w1 ⟨rfl, hu⟩
      exact ⟨hu.mono (fun _ _ h => h.elim), sched_listed (by kernel_rfl) ((hS.out _ _ _ _).1 (S37 _ _ (hf.out.upd hu)))⟩
    · go_simp
      exact ⟨(Upd.refl _ _).alloc _, sched_listed (by kernel_rfl) ((hS.out _ _ _ _).1 (S278 _ _ _ hf.out.a8))⟩
    · go_simp
      exact ⟨(Upd.refl _ _).alloc _, sched_listed (by kernel_rfl) ((hS.out _ _ _ _).1 (S279 _ _ _ hf.out.a9))⟩
  have S28 : ∀ (x : World) (b8 : Nat), Fr wa x none (some b8) none → S 6 #[true, true, true, true, true, false, false, true, false, false, false, false] ⟨#[.agg #[.int .u64 r0, .int .i64 n0], .agg #[.int .u64 r1, .int .i64 n1], .agg #[.int .u64 r2, .int .i64 n2], .pointer (some ⟨w.heap.size, 0, none⟩), .pointer (some ⟨w.heap.size + 1, 0, none⟩), .pointer (some ⟨w.heap.size + 1 + 1, 0, none⟩), .bool false, undef, .pointer (some ⟨b8, 0, none⟩), undef, undef, .agg #[.int .u64 r0, .int .i64 n0], .agg #[.int .u64 r0, .int .i64 n0], .agg #[.int .u64 r1, .int .i64 n1], .agg #[.int .u64 r1, .int .i64 n1], .agg #[.int .u64 r2, .int .i64 n2], undef, undef, undef, undef, undef, undef, undef, undef, undef, undef, undef, undef, undef, undef, undef, undef, undef, undef, undef, undef, undef, undef, undef, undef, undef, undef, undef, undef, undef, undef, undef, undef, undef, undef, undef, undef, undef, undef, undef, undef, undef, undef, undef, undef, undef, undef, undef, undef, undef, undef, undef, undef], []⟩ x := by
    intro x b8 hf0
    have hf := Lib.hid hf0
    clear hf0
    refine (hS.out _ _ _ _).2 ?_
    refine sched_some [5, 6, 8] (by kernel_rfl) (by simp) (List.forall_mem_cons.2 ⟨⟨_, rfl, rfl, ?_⟩, List.forall_mem_cons.2 ⟨⟨_, rfl, rfl, ?_⟩, List.forall_mem_cons.2 ⟨⟨_, rfl, rfl, ?_⟩, List.forall_mem_nil _⟩⟩⟩)
    · go_simp
      refine (hours.out _ _ _).mono ?_
      rintro e w1 ⟨rfl, hu⟩
      exact ⟨hu.mono (fun _ _ h => h.elim), sched_listed (by kernel_rfl) ((hS.out _ _ _ _).1 (S38 _ _ (hf.out.upd hu)))⟩
    · go_simp
      exact ⟨(Upd.refl _ _).alloc _, sched_listed (by kernel_rfl) ((hS.out _ _ _ _).1 (S278 _ _ _ hf.out.a7))⟩
    · go_simp
      exact ⟨(Upd.refl _ _).alloc _, sched_listed (by kernel_rfl) ((hS.out _ _ _ _).1 (S289 _ _ _ hf.out.a9))⟩
  have S29 : ∀ (x : World) (b9 : Nat), Fr wa x none none (some b9) → S 6 #[true, true, true, true, true, false, false, false, true, false, false, false] ⟨#[.agg #[.int .u64 r0, .int .i64 n0], .agg #[.int .u64 r1, .int .i64 n1], .agg #[.int .u64 r2, .int .i64 n2], .pointer (some ⟨w.heap.size, 0, none⟩), .pointer (some ⟨w.heap.size + 1, 0, none⟩), .pointer (some ⟨w.heap.size + 1 + 1, 0, none⟩), .bool false, undef, undef, .pointer (some ⟨b9, 0, none⟩), undef, .agg #[.int .u64 r0, .int .i64 n0], .agg #[.int .u64 r0, .int .i64 n0], .agg #[.int .u64 r1, .int .i64 n1], .agg #[.int .u64 r1, .int .i64 n1], .agg #[.int .u64 r2, .int .i64 n2], undef, undef, undef, undef, undef, undef, undef, undef, undef, undef, undef, undef, undef, undef, undef, undef, undef, undef, undef, undef, undef, undef, undef, undef, undef, undef, undef, undef, undef, undef, undef, undef, undef, undef, undef, undef, undef, undef, undef, undef, undef, undef, undef, undef, undef, undef, undef, undef, undef, undef, undef, undef], []⟩ x := by
    intro x b9 hf0
    have hf := Lib.hid hf0
    clear hf0
    refine (hS.out _ _ _ _).2 ?_
    refine sched_some [5, 6, 7] (by kernel_rfl) (by simp) (List.forall_mem_cons.2 ⟨⟨_, rfl, rfl, ?_⟩, List.forall_mem_cons.2 ⟨⟨_, rfl, rfl, ?_⟩, List.forall_mem_cons.2 ⟨⟨_, rfl, rfl, ?_⟩, List.forall_mem_nil _⟩⟩⟩)
    · go_simp
      refine (hours.out _ _ _).mono ?_
      rintro e w1 ⟨rfl, hu⟩
      exact ⟨hu.mono (fun _ _ h => h.elim), sched_listed (by kernel_rfl) ((hS.out _ _ _ _).1 (S39 _ _ (hf.out.upd hu)))⟩
    · go_simp
      exact ⟨(Upd.refl _ _).alloc _, sched_listed (by kernel_rfl) ((hS.out _ _ _ _).1 (S279 _ _ _ hf.out.a7))⟩
    · go_simp
      exact ⟨(Upd.refl _ _).alloc _, sched_listed (by kernel_rfl) ((hS.out _ _ _ _).1 (S289 _ _ _ hf.out.a8))⟩
  have S3n : ∀ (x : World), Fr wa x none none none → S 6 #[true, true, true, true, true, true, false, false, false, false, false, false] ⟨#[.agg #[.int .u64 r0, .int .i64 n0], .agg #[.int .u64 r1, .int .i64 n1], .agg #[.int .u64 r2, .int .i64 n2], .pointer (some ⟨w.heap.size, 0, none⟩), .pointer (some ⟨w.heap.size + 1, 0, none⟩), .pointer (some ⟨w.heap.size + 1 + 1, 0, none⟩), .bool false, undef, undef, undef, undef, .agg #[.int .u64 r0, .int .i64 n0], .agg #[.int .u64 r0, .int .i64 n0], .agg #[.int .u64 r1, .int .i64 n1], .agg #[.int .u64 r1, .int .i64 n1], .agg #[.int .u64 r2, .int .i64 n2], .agg #[.int .u64 r2, .int .i64 n2], undef, undef, undef, undef, undef, undef, undef, undef, undef, undef, undef, undef, undef, undef, undef, undef, undef, undef, undef, undef, undef, undef, undef, undef, undef, undef, undef, undef, undef, undef, undef, undef, undef, undef, undef, undef, undef, undef, undef, undef, undef, undef, undef, undef, undef, undef, undef, undef, undef, undef, undef], []⟩ x := by
    intro x  hf0
    have hf := Lib.hid hf0
    clear hf0
    refine (hS.out _ _ _ _).2 ?_
    refine sched_some [6, 7, 8] (by kernel_rfl) (by simp) (List.forall_mem_cons.2 ⟨⟨_, rfl, rfl, ?_⟩, List.forall_mem_cons.2 ⟨⟨_, rfl, rfl, ?_⟩, List.forall_mem_cons.2 ⟨⟨_, rfl, rfl, ?_⟩, List.forall_mem_nil _⟩⟩⟩)
    · go_simp
      exact ⟨(Upd.refl _ _).alloc _, sched_listed (by kernel_rfl) ((hS.out _ _ _ _).1 (S37 _ _ hf.out.a7))⟩
    · go_simp
      exact ⟨(Upd.refl _ _).alloc _, sched_listed (by kernel_rfl) ((hS.out _ _ _ _).1 (S38 _ _ hf.out.a8))⟩
    · go_simp
      exact ⟨(Upd.refl _ _).alloc _, sched_listed (by kernel_rfl) ((hS.out _ _ _ _).1 (S39 _ _ hf.out.a9))⟩
  have S078 : ∀ (x : World) (b7 b8 : Nat), Fr wa x (some b7) (some b8) none → S 7 #[true, false, true, false, true, false, true, true, false, false, false, false] ⟨#[.agg #[.int .u64 r0, .int .i64 n0], .agg #[.int .u64 r1, .int .i64 n1], .agg #[.int .u64 r2, .int .i64 n2], .pointer (some ⟨w.heap.size, 0, none⟩), .pointer (some ⟨w.heap.size + 1, 0, none⟩), .pointer (some ⟨w.heap.size + 1 + 1, 0, none⟩), .bool false, .pointer (some ⟨b7, 0, none⟩), .pointer (some ⟨b8, 0, none⟩), undef, undef, .agg #[.int .u64 r0, .int .i64 n0], undef, .agg #[.int .u64 r1, .int .i64 n1], undef, .agg #[.int .u64 r2, .int .i64 n2], undef, undef, undef, undef, undef, undef, undef, undef, undef, undef, undef, undef, undef, undef, undef, undef, undef, undef, undef, undef, undef, undef, undef, undef, undef, undef, undef, undef, undef, undef, undef, undef, undef, undef, undef, undef, undef, undef, undef, undef, undef, undef, undef, undef, undef, undef, undef, undef, undef, undef, undef, undef], []⟩ x := by
    intro x b7 b8 hf0
    have hf := Lib.hid hf0
    clear hf0
    refine (hS.out _ _ _ _).2 ?_
    refine sched_some [1, 8] (by kernel_rfl) (by simp) (List.forall_mem_cons.2 ⟨⟨_, rfl, rfl, ?_⟩, List.forall_mem_cons.2 ⟨⟨_, rfl, rfl, ?_⟩, List.forall_mem_nil _⟩⟩)
    · go_simp
      refine (hours.out _ _ _).mono ?_
      rintro e w1 ⟨rfl, hu⟩
      exact ⟨hu.mono (fun _ _ h => h.elim), sched_listed (by kernel_rfl) ((hS.out _ _ _ _).1 (S178 _ _ _ (hf.out.upd hu)))⟩
    · go_simp
      exact ⟨(Upd.refl _ _).alloc _, sched_listed (by kernel_rfl) ((hS.out _ _ _ _).1 (S0789 _ _ _ _ hf.out.a9))⟩
  have S079 : ∀ (x : World) (b7 b9 : Nat), Fr wa x (some b7) none (some b9) → S 7 #[true, false, true, false, true, false, true, false, true, false, false, false] ⟨#[.agg #[.int .u64 r0, .int .i64 n0], .agg #[.int .u64 r1, .int .i64 n1], .agg #[.int .u64 r2, .int .i64 n2], .pointer (some ⟨w.heap.size, 0, none⟩), .pointer (some ⟨w.heap.size + 1, 0, none⟩), .pointer (some ⟨w.heap.size + 1 + 1, 0, none⟩), .bool false, .pointer (some ⟨b7, 0, none⟩), undef, .pointer (some ⟨b9, 0, none⟩), undef, .agg #[.int .u64 r0, .int .i64 n0], undef, .agg #[.int .u64 r1, .int .i64 n1], undef, .agg #[.int .u64 r2, .int .i64 n2], undef, undef, undef, undef, undef, undef, undef, undef, undef, undef, undef, undef, undef, undef, undef, undef, undef, undef, undef, undef, undef, undef, undef, undef, undef, undef, undef, undef, undef, undef, undef, undef, undef, undef, undef, undef, undef, undef, undef, undef, undef, undef, undef, undef, undef, undef, undef, undef, undef, undef, undef, undef], []⟩ x := by
    intro x b7 b9 hf0
    have hf := Lib.hid hf0
    clear hf0
    refine (hS.out _ _ _ _).2 ?_
    refine sched_some [1, 7] (by kernel_rfl) (by simp) (List.forall_mem_cons.2 ⟨⟨_, rfl, rfl, ?_⟩, List.forall_mem_cons.2 ⟨⟨_, rfl, rfl, ?_⟩, List.forall_mem_nil _⟩⟩)
    · go_simp
      refine (hours.out _ _ _).mono ?_
      rintro e w1 ⟨rfl, hu⟩
      exact ⟨hu.mono (fun _ _ h => h.elim), sched_listed (by kernel_rfl) ((hS.out _ _ _ _).1 (S179 _ _ _ (hf.out.upd hu)))⟩
    · go_simp
      exact ⟨(Upd.refl _ _).alloc _, sched_listed (by kernel_rfl) ((hS.out _ _ _ _).1 (S0789 _ _ _ _ hf.out.a8))⟩
  have S089 : ∀ (x : World) (b8 b9 : Nat), Fr wa x none (some b8) (some b9) → S 7 #[true, false, true, false, true, false, false, true, true, false, false, false] ⟨#[.agg #[.int .u64 r0, .int .i64 n0], .agg #[.int .u64 r1, .int .i64 n1], .agg #[.int .u64 r2, .int .i64 n2], .pointer (some ⟨w.heap.size, 0, none⟩), .pointer (some ⟨w.heap.size + 1, 0, none⟩), .pointer (some ⟨w.heap.size + 1 + 1, 0, none⟩), .bool false, undef, .pointer (some ⟨b8, 0, none⟩), .pointer (some ⟨b9, 0, none⟩), undef, .agg #[.int .u64 r0, .int .i64 n0], undef, .agg #[.int .u64 r1, .int .i64 n1], undef, .agg #[.int .u64 r2, .int .i64 n2], undef, undef, undef, undef, undef, undef, undef, undef, undef, undef, undef, undef, undef, undef, undef, undef, undef, undef, undef, undef, undef, undef, undef, undef, undef, undef, undef, undef, undef, undef, undef, undef, undef, undef, undef, undef, undef, undef, undef, undef, undef, undef, undef, undef, undef, undef, undef, undef, undef, undef, undef, undef], []⟩ x := by
    intro x b8 b9 hf0
    have hf := Lib.hid hf0
    clear hf0
    refine (hS.out _ _ _ _).2 ?_
    refine sched_some [1, 6] (by kernel_rfl) (by simp) (List.forall_mem_cons.2 ⟨⟨_, rfl, rfl, ?_⟩, List.forall_mem_cons.2 ⟨⟨_, rfl, rfl, ?_⟩, List.forall_mem_nil _⟩⟩)
    · go_simp
      refine (hours.out _ _ _).mono ?_
      rintro e w1 ⟨rfl, hu⟩
      exact ⟨hu.mono (fun _ _ h => h.elim), sched_listed (by kernel_rfl) ((hS.out _ _ _ _).1 (S189 _ _ _ (hf.out.upd hu)))⟩
    · go_simp
      exact ⟨(Upd.refl _ _).alloc _, sched_listed (by kernel_rfl) ((hS.out _ _ _ _).1 (S0789 _ _ _ _ hf.out.a7))⟩
  have S17 : ∀ (x : World) (b7 : Nat), Fr wa x (some b7) none none → S 7 #[true, true, true, false, true, false, true, false, false, false, false, false] ⟨#[.agg #[.int .u64 r0, .int .i64 n0], .agg #[.int .u64 r1, .int .i64 n1], .agg #[.int .u64 r2, .int .i64 n2], .pointer (some ⟨w.heap.size, 0, none⟩), .pointer (some ⟨w.heap.size + 1, 0, none⟩), .pointer (some ⟨w.heap.size + 1 + 1, 0, none⟩), .bool false, .pointer (some ⟨b7, 0, none⟩), undef, undef, undef, .agg #[.int .u64 r0, .int .i64 n0], .agg #[.int .u64 r0, .int .i64 n0], .agg #[.int .u64 r1, .int .i64 n1], undef, .agg #[.int .u64 r2, .int .i64 n2], undef, undef, undef, undef, undef, undef, undef, undef, undef, undef, undef, undef, undef, undef, undef, undef, undef, undef, undef, undef, undef, undef, undef, undef, undef, undef, undef, undef, undef, undef, undef, undef, undef, undef, undef, undef, undef, undef, undef, undef, undef, undef, undef, undef, undef, undef, undef, undef, undef, undef, undef, undef], []⟩ x := by
    intro x b7 hf0
    have hf := Lib.hid hf0
    clear hf0
    refine (hS.out _ _ _ _).2 ?_
    refine sched_some [3, 7, 8] (by kernel_rfl) (by simp) (List.forall_mem_cons.2 ⟨⟨_, rfl, rfl, ?_⟩, List.forall_mem_cons.2 ⟨⟨_, rfl, rfl, ?_⟩, List.forall_mem_cons.2 ⟨⟨_, rfl, rfl, ?_⟩, List.forall_mem_nil _⟩⟩⟩)
    · go_simp
      refine (hours.out _ _ _).mono ?_
      rintro e w1 ⟨rfl, hu⟩
      exact ⟨hu.mono (fun _ _ h => h.elim), sched_listed (by kernel_rfl) ((hS.out _ _ _ _).1 (S27 _ _ (hf.out.upd hu)))⟩
    · go_simp
      exact ⟨(Upd.refl _ _).alloc _, sched_listed (by kernel_rfl) ((hS.out _ _ _ _).1 (S178 _ _ _ hf.out.a8))⟩
    · go_simp
      exact ⟨(Upd.refl _ _).alloc _, sched_listed (by kernel_rfl) ((hS.out _ _ _ _).1 (S179 _ _ _ hf.out.a9))⟩
  have S18 : ∀ (x : World) (b8 : Nat), Fr wa x none (some b8) none → S 7 #[true, true, true, false, true, false, false, true, false, false, false, false] ⟨#[.agg #[.int .u64 r0, .int .i64 n0], .agg #[.int .u64 r1, .int .i64 n1], .agg #[.int .u64 r2, .int .i64 n2], .pointer (some ⟨w.heap.size, 0, none⟩), .pointer (some ⟨w.heap.size + 1, 0, none⟩), .pointer (some ⟨w.heap.size + 1 + 1, 0, none⟩), .bool false, undef, .pointer (some ⟨b8, 0, none⟩), undef, undef, .agg #[.int .u64 r0, .int .i64 n0], .agg #[.int .u64 r0, .int .i64 n0], .agg #[.int .u64 r1, .int .i64 n1], undef, .agg #[.int .u64 r2, .int .i64 n2], undef, undef, undef, undef, undef, undef, undef, undef, undef, undef, undef, undef, undef, undef, undef, undef, undef, undef, undef, undef, undef, undef, undef, undef, undef, undef, undef, undef, undef, undef, undef, undef, undef, undef, undef, undef, undef, undef, undef, undef, undef, undef, undef, undef, undef, undef, undef, undef, undef, undef, undef, undef], []⟩ x := by
    intro x b8 hf0
    have hf := Lib.hid hf0
    clear hf0
    refine (hS.out _ _ _ _).2 ?_
    refine sched_some [3, 6, 8] (by kernel_rfl) (by simp) (List.forall_mem_cons.2 ⟨⟨_, rfl, rfl, ?_⟩, List.forall_mem_cons.2 ⟨⟨_, rfl, rfl, ?_⟩, List.forall_mem_cons.2 ⟨⟨_, rfl, rfl, ?_⟩, List.forall_mem_nil _⟩⟩⟩)
    · go_simp
      refine (hours.out _ _ _).mono ?_
      rintro e w1 ⟨rfl, hu⟩
      exact ⟨hu.mono (fun _ _ h => h.elim), sched_listed (by kernel_rfl) ((hS.out _ _ _ _).1 (S28 _ _ (hf.out.upd hu)))⟩
    · go_simp
      exact ⟨(Upd.refl _ _).alloc _, sched_listed (by kernel_rfl) ((hS.out _ _ _ _).1 (S178 _ _ _ hf.out.a7))⟩
    · go_simp
      exact ⟨(Upd.refl _ _).alloc _, sched_listed (by kernel_rfl) ((hS.out _ _ _ _).1 (S189 _ _ _ hf.out.a9))⟩
  have S19 : ∀ (x : World) (b9 : Nat), Fr wa x none none (some b9) → S 7 #[true, true, true, false, true, false, false, false, true, false, false, false] ⟨#[.agg #[.int .u64 r0, .int .i64 n0], .agg #[.int .u64 r1, .int .i64 n1], .agg #[.int .u64 r2, .int .i64 n2], .pointer (some ⟨w.heap.size, 0, none⟩), .pointer (some ⟨w.heap.size + 1, 0, none⟩), .pointer (some ⟨w.heap.size + 1 + 1, 0, none⟩), .bool false, undef, undef, .pointer (some ⟨b9, 0, none⟩), undef, .agg #[.int .u64 r0, .int .i64 n0], .agg #[.int .u64 r0, .int .i64 n0], .agg #[.int .u64 r1, .int .i64 n1], undef, .agg #[.int .u64 r2, .int .i64 n2], undef, undef, undef, undef, undef, undef, undef, undef, undef, undef, undef, undef, undef, undef, undef, undef, undef, undef, undef, undef, undef, undef, undef, undef, undef, undef, undef, undef, undef, undef, undef, undef, undef, undef, undef, undef, undef, undef, undef, undef, undef, undef, undef, undef, undef, undef, undef, undef, undef, undef, undef, undef], []⟩ x := by
    intro x b9 hf0
    have hf := Lib.hid hf0
    clear hf0
    refine (hS.out _ _ _ _).2 ?_
    refine sched_some [3, 6, 7] (by kernel_rfl) (by simp) (List.forall_mem_cons.2 ⟨⟨_, rfl, rfl, ?_⟩, List.forall_mem_cons.2 ⟨⟨_, rfl, rfl, ?_⟩, List.forall_mem_cons.2 ⟨⟨_, rfl, rfl, ?_⟩, List.forall_mem_nil _⟩⟩⟩)
    · go_simp
      refine (hours.out _ _ _).mono ?_
      rintro e w1 ⟨rfl, hu⟩
      exact ⟨hu.mono (fun _ _ h => h.elim), sched_listed (by kernel_rfl) ((hS.out _ _ _ _).1 (S29 _ _ (hf.out.upd hu)))⟩
    · go_simp
      exact ⟨(Upd.refl _ _).alloc _, sched_listed (by kernel_rfl) ((hS.out _ _ _ _).1 (S179 _ _ _ hf.out.a7))⟩
    · go_simp
      exact ⟨(Upd.refl _ _).alloc _, sched_listed (by kernel_rfl) ((hS.out _ _ _ _).1 (S189 _ _ _ hf.out.a8))⟩
  have S2n : ∀ (x : World), Fr wa x none none none → S 7 #[true, true, true, true, true, false, false, false, false, false, false, false] ⟨#[.agg #[.int .u64 r0, .int .i64 n0], .agg #[.int .u64 r1, .int .i64 n1], .agg #[.int .u64 r2, .int .i64 n2], .pointer (some ⟨w.heap.size, 0, none⟩), .pointer (some ⟨w.heap.size + 1, 0, none⟩), .pointer (some ⟨w.heap.size + 1 + 1, 0, none⟩), .bool false, undef, undef, undef, undef, .agg #[.int .u64 r0, .int .i64 n0], .agg #[.int .u64 r0, .int .i64 n0], .agg #[.int .u64 r1, .int .i64 n1], .agg #[.int .u64 r1, .int .i64 n1], .agg #[.int .u64 r2, .int .i64 n2], undef, undef, undef, undef, undef, undef, undef, undef, undef, undef, undef, undef, undef, undef, undef, undef, undef, undef, undef, undef, undef, undef, undef, undef, undef, undef, undef, undef, undef, undef, undef, undef, undef, undef, undef, undef, undef, undef, undef, undef, undef, undef, undef, undef, undef, undef, undef, undef, undef, undef, undef, undef], []⟩ x := by
    intro x  hf0
    have hf := Lib.hid hf0
    clear hf0
    refine (hS.out _ _ _ _).2 ?_
    refine sched_some [5, 6, 7, 8] (by kernel_rfl) (by simp) (List.forall_mem_cons.2 ⟨⟨_, rfl, rfl, ?_⟩, List.forall_mem_cons.2 ⟨⟨_, rfl, rfl, ?_⟩, List.forall_mem_cons.2 ⟨⟨_, rfl, rfl, ?_⟩, List.forall_mem_cons.2 ⟨⟨_, rfl, rfl, ?_⟩, List.forall_mem_nil _⟩⟩⟩⟩)
    · go_simp
      refine (hours.out _ _ _).mono ?_
      rintro e w1 ⟨rfl, hu⟩
      exact ⟨hu.mono (fun _ _ h => h.elim), sched_listed (by kernel_rfl) ((hS.out _ _ _ _).1 (S3n _  (hf.out.upd hu)))⟩
    · go_simp
      exact ⟨(Upd.refl _ _).alloc _, sched_listed (by kernel_rfl) ((hS.out _ _ _ _).1 (S27 _ _ hf.out.a7))⟩
    · go_simp
      exact ⟨(Upd.refl _ _).alloc _, sched_listed (by kernel_rfl) ((hS.out _ _ _ _).1 (S28 _ _ hf.out.a8))⟩
    · go_simp
      exact ⟨(Upd.refl _ _).alloc _, sched_listed (by kernel_rfl) ((hS.out _ _ _ _).1 (S29 _ _ hf.out.a9))⟩
  have S07 : ∀ (x : World) (b7 : Nat), Fr wa x (some b7) none none → S 8 #[true, false, true, false, true, false, true, false, false, false, false, false] ⟨#[.agg #[.int .u64 r0, .int .i64 n0], .agg #[.int .u64 r1, .int .i64 n1], .agg #[.int .u64 r2, .int .i64 n2], .pointer (some ⟨w.heap.size, 0, none⟩), .pointer (some ⟨w.heap.size + 1, 0, none⟩), .pointer (some ⟨w.heap.size + 1 + 1, 0, none⟩), .bool false, .pointer (some ⟨b7, 0, none⟩), undef, undef, undef, .agg #[.int .u64 r0, .int .i64 n0], undef, .agg #[.int .u64 r1, .int .i64 n1], undef, .agg #[.int .u64 r2, .int .i64 n2], undef, undef, undef, undef, undef, undef, undef, undef, undef, undef, undef, undef, undef, undef, undef, undef, undef, undef, undef, undef, undef, undef, undef, undef, undef, undef, undef, undef, undef, undef, undef, undef, undef, undef, undef, undef, undef, undef, undef, undef, undef, undef, undef, undef, undef, undef, undef, undef, undef, undef, undef, undef], []⟩ x := by
    intro x b7 hf0
    have hf := Lib.hid hf0
    clear hf0
    refine (hS.out _ _ _ _).2 ?_
    refine sched_some [1, 7, 8] (by kernel_rfl) (by simp) (List.forall_mem_cons.2 ⟨⟨_, rfl, rfl, ?_⟩, List.forall_mem_cons.2 ⟨⟨_, rfl, rfl, ?_⟩, List.forall_mem_cons.2 ⟨⟨_, rfl, rfl, ?_⟩, List.forall_mem_nil _⟩⟩⟩)
    · go_simp
      refine (hours.out _ _ _).mono ?_
      rintro e w1 ⟨rfl, hu⟩
      exact ⟨hu.mono (fun _ _ h => h.elim), sched_listed (by kernel_rfl) ((hS.out _ _ _ _).1 (S17 _ _ (hf.out.upd hu)))⟩
    · go_simp
      exact ⟨(Upd.refl _ _).alloc _, sched_listed (by kernel_rfl) ((hS.out _ _ _ _).1 (S078 _ _ _ hf.out.a8))⟩
    · go_simp
      exact ⟨(Upd.refl _ _).alloc _, sched_listed (by kernel_rfl) ((hS.out _ _ _ _).1 (S079 _ _ _ hf.out.a9))⟩
  have S08 : ∀ (x : World) (b8 : Nat), Fr wa x none (some b8) none → S 8 #[true, false, true, false, true, false, false, true, false, false, false, false] ⟨#[.agg #[.int .u64 r0, .int .i64 n0], .agg #[.int .u64 r1, .int .i64 n1], .agg #[.int .u64 r2, .int .i64 n2], .pointer (some ⟨w.heap.size, 0, none⟩), .pointer (some ⟨w.heap.size + 1, 0, none⟩), .pointer (some ⟨w.heap.size + 1 + 1, 0, none⟩), .bool false, undef, .pointer (some ⟨b8, 0, none⟩), undef, undef, .agg #[.int .u64 r0, .int .i64 n0], undef, .agg #[.int .u64 r1, .int .i64 n1], undef, .agg #[.int .u64 r2, .int .i64 n2], undef, undef, undef, undef, undef, undef, undef, undef, undef, undef, undef, undef, undef, undef, undef, undef, undef, undef, undef, undef, undef, undef, undef, undef, undef, undef, undef, undef, undef, undef, undef, undef, undef, undef, undef, undef, undef, undef, undef, undef, undef, undef, undef, undef, undef, undef, undef, undef, undef, undef, undef, undef], []⟩ x := by
    intro x b8 hf0
    have hf := Lib.hid hf0
    clear hf0
    refine (hS.out _ _ _ _).2 ?_
    refine sched_some [1, 6, 8] (by kernel_rfl) (by simp) (List.forall_mem_cons.2 ⟨⟨_, rfl, rfl, ?_⟩, List.forall_mem_cons.2 ⟨⟨_, rfl, rfl, ?_⟩, List.forall_mem_cons.2 ⟨⟨_, rfl, rfl, ?_⟩, List.forall_mem_nil _⟩⟩⟩)
    · go_simp
      refine (hours.out _ _ _).mono ?_
      rintro e w1 ⟨rfl, hu⟩
      exact ⟨hu.mono (fun _ _ h => h.elim), sched_listed (by kernel_rfl) ((hS.out _ _ _ _).1 (S18 _ _ (hf.out.upd hu)))⟩
    · go_simp
      exact ⟨(Upd.refl _ _).alloc _, sched_listed (by kernel_rfl) ((hS.out _ _ _ _).1 (S078 _ _ _ hf.out.a7))⟩
    · go_simp
      exact ⟨(Upd.refl _ _).alloc _, sched_listed (by kernel_rfl) ((hS.out _ _ _ _).1 (S089 _ _ _ hf.out.a9))⟩
  have S09 : ∀ (x : World) (b9 : Nat), Fr wa x none none (some b9) → S 8 #[true, false, true, false, true, false, false, false, true, false, false, false] ⟨#[.agg #[.int .u64 r0, .int .i64 n0], .agg #[.int .u64 r1, .int .i64 n1], .agg #[.int .u64 r2, .int .i64 n2], .pointer (some ⟨w.heap.size, 0, none⟩), .pointer (some ⟨w.heap.size + 1, 0, none⟩), .pointer (some ⟨w.heap.size + 1 + 1, 0, none⟩), .bool false, undef, undef, .pointer (some ⟨b9, 0, none⟩), undef, .agg #[.int .u64 r0, .int .i64 n0], undef, .agg #[.int .u64 r1, .int .i64 n1], undef, .agg #[.int .u64 r2, .int .i64 n2], undef, undef, undef, undef, undef, undef, undef, undef, undef, undef, undef, undef, undef, undef, undef, undef, undef, undef, undef, undef, undef, undef, undef, undef, undef, undef, undef, undef, undef, undef, undef, undef, undef, undef, undef, undef, undef, undef, undef, undef, undef, undef, undef, undef, undef, undef, undef, undef, undef, undef, undef, undef], []⟩ x := by
    intro x b9 hf0
    have hf := Lib.hid hf0
    clear hf0
    refine (hS.out _ _ _ _).2 ?_
    refine sched_some [1, 6, 7] (by kernel_rfl) (by simp) (List.forall_mem_cons.2 ⟨⟨_, rfl, rfl, ?_⟩, List.forall_mem_cons.2 ⟨⟨_, rfl, rfl, ?_⟩, List.forall_mem_cons.2 ⟨⟨_, rfl, rfl, ?_⟩, List.forall_mem_nil _⟩⟩⟩)
    · go_simp
      refine (hours.out _ _ _).mono ?_
      rintro e w1 ⟨rfl, hu⟩
      exact ⟨hu.mono (fun _ _ h => h.elim), sched_listed (by kernel_rfl) ((hS.out _ _ _ _).1 (S19 _ _ (hf.out.upd hu)))⟩
    · go_simp
      exact ⟨(Upd.refl _ _).alloc _, sched_listed (by kernel_rfl) ((hS.out _ _ _ _).1 (S079 _ _ _ hf.out.a7))⟩
    · go_simp
      exact ⟨(Upd.refl _ _).alloc _, sched_listed (by kernel_rfl) ((hS.out _ _ _ _).1 (S089 _ _ _ hf.out.a8))⟩
  have S1n : ∀ (x : World), Fr wa x none none none → S 8 #[true, true, true, false, true, false, false, false, false, false, false, false] ⟨#[.agg #[.int .u64 r0, .int .i64 n0], .agg #[.int .u64 r1, .int .i64 n1], .agg #[.int .u64 r2, .int .i64 n2], .pointer (some ⟨w.heap.size, 0, none⟩), .pointer (some ⟨w.heap.size + 1, 0, none⟩), .pointer (some ⟨w.heap.size + 1 + 1, 0, none⟩), .bool false, undef, undef, undef, undef, .agg #[.int .u64 r0, .int .i64 n0], .agg #[.int .u64 r0, .int .i64 n0], .agg #[.int .u64 r1, .int .i64 n1], undef, .agg #[.int .u64 r2, .int .i64 n2], undef, undef, undef, undef, undef, undef, undef, undef, undef, undef, undef, undef, undef, undef, undef, undef, undef, undef, undef, undef, undef, undef, undef, undef, undef, undef, undef, undef, undef, undef, undef, undef, undef, undef, undef, undef, undef, undef, undef, undef, undef, undef, undef, undef, undef, undef, undef, undef, undef, undef, undef, undef], []⟩ x := by
    intro x  hf0
    have hf := Lib.hid hf0
    clear hf0
    refine (hS.out _ _ _ _).2 ?_
    refine sched_some [3, 6, 7, 8] (by kernel_rfl) (by simp) (List.forall_mem_cons.2 ⟨⟨_, rfl, rfl, ?_⟩, List.forall_mem_cons.2 ⟨⟨_, rfl, rfl, ?_⟩, List.forall_mem_cons.2 ⟨⟨_, rfl, rfl, ?_⟩, List.forall_mem_cons.2 ⟨⟨_, rfl, rfl, ?_⟩, List.forall_mem_nil _⟩⟩⟩⟩)
    · go_simp
      refine (hours.out _ _ _).mono ?_
      rintro e w1 ⟨rfl, hu⟩
      exact ⟨hu.mono (fun _ _ h => h.elim), sched_listed (by kernel_rfl) ((hS.out _ _ _ _).1 (S2n _  (hf.out.upd hu)))⟩
    · go_simp
      exact ⟨(Upd.refl _ _).alloc _, sched_listed (by kernel_rfl) ((hS.out _ _ _ _).1 (S17 _ _ hf.out.a7))⟩
    · go_simp
      exact ⟨(Upd.refl _ _).alloc _, sched_listed (by kernel_rfl) ((hS.out _ _ _ _).1 (S18 _ _ hf.out.a8))⟩
    · go_simp
      exact ⟨(Upd.refl _ _).alloc _, sched_listed (by kernel_rfl) ((hS.out _ _ _ _).1 (S19 _ _ hf.out.a9))⟩
  have S0n : ∀ (x : World), Fr wa x none none none → S 9 #[true, false, true, false, true, false, false, false, false, false, false, false] ⟨#[.agg #[.int .u64 r0, .int .i64 n0], .agg #[.int .u64 r1, .int .i64 n1], .agg #[.int .u64 r2, .int .i64 n2], .pointer (some ⟨w.heap.size, 0, none⟩), .pointer (some ⟨w.heap.size + 1, 0, none⟩), .pointer (some ⟨w.heap.size + 1 + 1, 0, none⟩), .bool false, undef, undef, undef, undef, .agg #[.int .u64 r0, .int .i64 n0], undef, .agg #[.int .u64 r1, .int .i64 n1], undef, .agg #[.int .u64 r2, .int .i64 n2], undef, undef, undef, undef, undef, undef, undef, undef, undef, undef, undef, undef, undef, undef, undef, undef, undef, undef, undef, undef, undef, undef, undef, undef, undef, undef, undef, undef, undef, undef, undef, undef, undef, undef, undef, undef, undef, undef, undef, undef, undef, undef, undef, undef, undef, undef, undef, undef, undef, undef, undef, undef], []⟩ x := by
    intro x  hf0
    have hf := Lib.hid hf0
    clear hf0
    refine (hS.out _ _ _ _).2 ?_
    refine sched_some [1, 6, 7, 8] (by kernel_rfl) (by simp) (List.forall_mem_cons.2 ⟨⟨_, rfl, rfl, ?_⟩, List.forall_mem_cons.2 ⟨⟨_, rfl, rfl, ?_⟩, List.forall_mem_cons.2 ⟨⟨_, rfl, rfl, ?_⟩, List.forall_mem_cons.2 ⟨⟨_, rfl, rfl, ?_⟩, List.forall_mem_nil _⟩⟩⟩⟩)
    · go_simp
      refine (hours.out _ _ _).mono ?_
      rintro e w1 ⟨rfl, hu⟩
      exact ⟨hu.mono (fun _ _ h => h.elim), sched_listed (by kernel_rfl) ((hS.out _ _ _ _).1 (S1n _  (hf.out.upd hu)))⟩
    · go_simp
      exact ⟨(Upd.refl _ _).alloc _, sched_listed (by kernel_rfl) ((hS.out _ _ _ _).1 (S07 _ _ hf.out.a7))⟩
    · go_simp
      exact ⟨(Upd.refl _ _).alloc _, sched_listed (by kernel_rfl) ((hS.out _ _ _ _).1 (S08 _ _ hf.out.a8))⟩
    · go_simp
      exact ⟨(Upd.refl _ _).alloc _, sched_listed (by kernel_rfl) ((hS.out _ _ _ _).1 (S09 _ _ hf.out.a9))⟩
  refine (hS.out _ _ _ _).2 ?_
  refine sched_listed (by kernel_rfl) ((hS.out _ _ _ _).1 (S0n _ ((Fr.start wa).upd (Upd.refl NoB wa).drew)))
end Go.Proofs.Ytflifeelgamaaaa
