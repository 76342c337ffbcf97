/- Ballots as bytes, function by function. -/
import Derived.Test.YtflifeelgamaaaaOctRef3
import Derived.Test.YtflifeelgamaaaaOctet3
namespace Go.Proofs.Ytflifeelgamaaaa
open Go.RowKit Kit Oct
set_option linter.unusedVariables false

/-- A node as a number. -/
def ncode (d : Int) : Nat := if 0 ≤ d ∧ d ≤ 4 then d.toNat else 5
theorem ncode_le (d : Int) : ncode d ≤ 5 := by unfold ncode; split <;> omega

theorem master_any (d : Int) (w : World) : Calls Try.prog 61 #[.int .i64 d] w fun e w' => e = .returned (.bool (decide (0 ≤ d ∧ d ≤ 4))) ∧ w = w' := by
  by_cases a : 0 ≤ d
  · by_cases b : d < 5
    · have e : decide (0 ≤ d ∧ d ≤ 4) = true := by simp; omega
      rw [e]
      clear e
      go_enter Try.func61, Try.ntmps61
      go_wp2_with fail
      go_ret
      exact ⟨rfl, rfl⟩
    · have e : decide (0 ≤ d ∧ d ≤ 4) = false := by simp; omega
      rw [e]
      clear e
      go_enter Try.func61, Try.ntmps61
      go_wp2_with fail
      go_ret
      exact ⟨rfl, rfl⟩
  · have e : decide (0 ≤ d ∧ d ≤ 4) = false := by simp; omega
    rw [e]
    clear e
    go_enter Try.func61, Try.ntmps61
    go_wp2_with fail
    go_ret
    exact ⟨rfl, rfl⟩

set_option maxHeartbeats 1000000 in
theorem bput_any {S : Nat → Prop} (v : Value) (l : List UInt8) (r : Nat) (d : Int) (w : World) (h : RSl Rep.byte w S v l) (hl : l.length ≤ 1000) (hr : r < 2 ^ 64) :
    Calls Try.prog 57 #[v, .agg #[.int .u64 r, .int .i64 d]] w fun e w' => ∃ v', e = .returned v' ∧ OSl Rep.byte 5 w' (grow NoB w w') v' (l ++ enc r ++ enc (ncode d)) ∧ Upd NoB w w' := by
  have ua : Upd NoB w (w.alloc (.cells #[.int .u64 r, .int .i64 d] 42)) := (Upd.refl NoB w).alloc _
  have hm := Lib.hid (master_any d)
  have hp := Lib.hid (put_any v l r _ (h.upd ua (fun _ _ h => h)) (by omega) hr)
  have hen := enc_len10 hr
  have hp2 := Lib.hid (fun (v1 : Value) (w1 : World) (h1 : RSl Rep.byte w1 (grow NoB (w.alloc (.cells #[.int .u64 r, .int .i64 d] 42)) w1) v1 (l ++ enc r)) => put_any v1 (l ++ enc r) (ncode d) w1 h1 (by rw [List.length_append]; omega) (by have := ncode_le d; omega))
  have HA := Lib.hid ua
  clear h ua
  by_cases c : 0 ≤ d ∧ d ≤ 4
  · have e1 : decide (0 ≤ d ∧ d ≤ 4) = true := by simpa using c
    have e2 : IntKind.u64.wrap d = (ncode d : Int) := by unfold ncode; rw [if_pos c]; simp only [IntKind.wrap, IntKind.bits, IntKind.signed]; simp; omega
    rw [e1] at hm
    generalize enc (ncode d) = en2 at *
    generalize enc r = en at *
    clear c e1
    go_enter Try.func57, Try.ntmps57
    go_wp2_with fail
    refine (hm.out _).mono ?_
    rintro e w1 ⟨rfl, rfl⟩
    go_wp2_with fail
    refine hp.out.mono ?_
    rintro e w1 ⟨v1, rfl, ho, hu⟩
    have H2 := Lib.hid (hp2.out v1 w1 ho.read)
    have HU := Lib.hid (HA.out.trans hu)
    clear ho hu hp hp2
    go_wp2_with fail
    refine H2.out.mono ?_
    rintro e w2 ⟨v2, rfl, ho, hu⟩
    have HO := Lib.hid (show OSl Rep.byte 5 w2 (grow NoB w w2) v2 (l ++ en ++ en2) from ho.mono (fun b hb => ⟨.inr (Nat.le_trans HU.out.size (hb.1.resolve_left (fun h => h))), hb.2⟩))
    have HU2 := Lib.hid (HU.out.trans hu)
    clear ho hu
    go_wp2_with fail
    go_ret
    exact ⟨_, rfl, HO.out, HU2.out⟩
  · have e1 : decide (0 ≤ d ∧ d ≤ 4) = false := by simpa using c
    have e2 : ncode d = 5 := by unfold ncode; rw [if_neg c]
    rw [e1] at hm
    rw [e2] at hp2 ⊢
    generalize enc 5 = en2 at *
    generalize enc r = en at *
    clear c e1 e2
    go_enter Try.func57, Try.ntmps57
    go_wp2_with fail
    refine (hm.out _).mono ?_
    rintro e w1 ⟨rfl, rfl⟩
    go_wp2_with fail
    refine hp.out.mono ?_
    rintro e w1 ⟨v1, rfl, ho, hu⟩
    have H2 := Lib.hid (hp2.out v1 w1 ho.read)
    have HU := Lib.hid (HA.out.trans hu)
    clear ho hu hp hp2
    go_wp2_with fail
    refine H2.out.mono ?_
    rintro e w2 ⟨v2, rfl, ho, hu⟩
    have HO := Lib.hid (show OSl Rep.byte 5 w2 (grow NoB w w2) v2 (l ++ en ++ en2) from ho.mono (fun b hb => ⟨.inr (Nat.le_trans HU.out.size (hb.1.resolve_left (fun h => h))), hb.2⟩))
    have HU2 := Lib.hid (HU.out.trans hu)
    clear ho hu
    go_wp2_with fail
    go_ret
    exact ⟨_, rfl, HO.out, HU2.out⟩
theorem ours_any (r d : Int) (w : World) : Calls Try.prog 32 #[.agg #[.int .u64 r, .int .i64 d]] w fun e w' => e = .returned (.agg #[.int .u64 r, .int .i64 d]) ∧ Upd NoB w w' := by
  go_enter Try.func32, Try.ntmps32
  go_wp2_with fail
  refine bodyPost_ret (results_cell_row rfl _ _ (w.heap.size + 1) 42 #[.int .u64 r, .int .i64 d] (0, 0) _ rfl (by have := heap_alloc_new (w.alloc (.cells #[.int .u64 r, .int .i64 d] 41)) (.cells #[.int .u64 r, .int .i64 d] 42); simpa using this) Try.underlying42 rfl (by kernel_rfl)) rfl ?_
  exact ⟨rfl, ((Upd.refl NoB w).alloc _).alloc _⟩
theorem plain_any (r d : Int) (w : World) : Calls Try.prog 35 #[.agg #[.int .u64 r, .int .i64 d]] w fun e w' => e = .returned (.agg #[.int .u64 r, .int .i64 d]) ∧ Upd NoB w w' := by
  go_enter Try.func35, Try.ntmps35
  go_wp2_with fail
  refine bodyPost_ret (results_cell_row rfl _ _ (w.heap.size + 1) 41 #[.int .u64 r, .int .i64 d] (0, 0) _ rfl (by have := heap_alloc_new (w.alloc (.cells #[.int .u64 r, .int .i64 d] 42)) (.cells #[.int .u64 r, .int .i64 d] 41); simpa using this) Try.underlying41 rfl (by kernel_rfl)) rfl ?_
  exact ⟨rfl, ((Upd.refl NoB w).alloc _).alloc _⟩

/-- What is read as a ballot. -/
def Rd.ballot (r : Rd) : (Nat × Int) × Rd :=
  if ((r.most (2 ^ 64 - 1)).2.int 5).2.bad then ((0, 0), ((r.most (2 ^ 64 - 1)).2.int 5).2)
  else (((r.most (2 ^ 64 - 1)).1, if ((r.most (2 ^ 64 - 1)).2.int 5).1 = 5 then -1 else (((r.most (2 ^ 64 - 1)).2.int 5).1 : Int)), ((r.most (2 ^ 64 - 1)).2.int 5).2)

structure BCells (w : World) (g : Nat) (x y : Value) : Prop where
  c0 : w.cell? ⟨g, 0, none⟩ = some x
  c1 : w.cell? ⟨g, 1, none⟩ = some y
  f0 : w.frozen? ⟨g, 0, none⟩ = false
  f1 : w.frozen? ⟨g, 1, none⟩ = false
theorem BCells.of {w : World} {g : Nat} {x y : Value} {T : TypeId} (h : w.heap[g]? = some (.cells #[x, y] T (0, 0))) : BCells w g x y :=
  ⟨by simp [World.cell?, h], by simp [World.cell?, h], by simp [World.frozen?, h], by simp [World.frozen?, h]⟩

set_option maxHeartbeats 4000000 in
set_option maxRecDepth 100000 in
theorem bread_any {S : Nat → Prop} (p : Nat) (r : Rd) (w : World) (h : Rdr w S p r) (hS : Bd S w) :
    Calls Try.prog 58 #[.pointer (some ⟨p, 0, none⟩)] w fun e w' => e = .returned (.agg #[.int .u64 ((Rd.ballot r).1.1 : Int), .int .i64 (Rd.ballot r).1.2]) ∧ After S p w (Rd.ballot r).2 w' := by
  have hp : p < w.heap.size := by obtain ⟨_, hh, _⟩ := h; exact lt_of_heap hh
  have uz : Upd NoB w (w.alloc (.cells #[.int .u64 0, .int .i64 0] 42)) := (Upd.refl NoB w).alloc _
  have h1 := n_any p r _ (h.keep uz (fun _ _ h => h) (fun h => h))
  have hz := heap_alloc_new w (.cells #[.int .u64 0, .int .i64 0] 42)
  unfold Rd.ballot
  generalize r.most (2 ^ 64 - 1) = q1 at *
  obtain ⟨N, r1⟩ := q1
  simp only at h1 ⊢
  have H1 := Lib.hid h1
  have HZ := Lib.hid hz
  have UZ := Lib.hid uz
  have HD := Lib.hid (fun (x : World) => int_any (S := S) p 5 r1 x)
  generalize r1.int 5 = q2 at *
  obtain ⟨I, r2⟩ := q2
  simp only at HD ⊢
  generalize hres : (if r2.bad = true then (((0 : Nat), (0 : Int)), r2) else ((N, if I = 5 then -1 else (I : Int)), r2)) = res
  have HRes := Lib.hid hres
  clear h1 hz uz h hres
  go_enter Try.func58, Try.ntmps58
  go_wp2_with fail
  refine H1.out.mono ?_
  rintro e w1 ⟨rfl, ha⟩
  have u1 : Upd (fun b => b = p) w w1 := (UZ.out.mono (fun _ _ h => h.elim)).trans ha.2
  have hz1 := ha.2.heap HZ.out (fun e => by have : w.heap.size = p := e; omega)
  have uy : Upd NoB w1 (w1.alloc (.cells #[.int .u64 N, .int .i64 0] 42)) := (Upd.refl NoB w1).alloc _
  have hsz : w.heap.size < w1.heap.size := lt_of_heap hz1
  have h2 := HD.out _ (ha.1.keep uy (fun _ _ h => h) (fun h => h)) (by decide)
  have hy := heap_alloc_new w1 (.cells #[.int .u64 N, .int .i64 0] 42)
  have hz2 := uy.heap hz1 (fun h => h)
  have H2 := Lib.hid h2
  have HY := Lib.hid hy
  have HZ2 := Lib.hid hz2
  have U1 := Lib.hid (u1.trans (uy.mono (fun _ _ h => h.elim)))
  clear h2 hy hz2 uy hz1 u1 ha H1 HZ UZ HD
  go_wp2_with fail
  refine H2.out.mono ?_
  rintro e w2 ⟨rfl, ha⟩
  have hy2 := ha.2.heap HY.out (fun e => by have : w1.heap.size = p := e; omega)
  have hz3 := ha.2.heap HZ2.out (fun e => by have : w.heap.size = p := e; omega)
  have u2 : Upd (fun b => b = p) w w2 := U1.out.trans ha.2
  have r2' := ha.1
  obtain ⟨k0, k1, k2, k3⟩ := BCells.of hy2
  have q2 : w.heap.size ≤ w.heap.size := Nat.le_refl _
  have q3 : w.heap.size ≤ w1.heap.size := by omega
  have hSg : ∀ b, S b → b ≠ w1.heap.size := fun b hb e => by have := hS b hb; omega
  generalize hg2 : w.heap.size = g2 at *
  generalize w1.heap.size = g3 at *
  have hpg : p ≠ g3 := by omega
  -- what is known of a world behind the stores into the ballot
  have key : ∀ (J : Int) (x : World), x.heap[g3]? = some (.cells #[.int .u64 N, .int .i64 0] 42 (0, 0)) ∨ (∃ J0 : Int, x.heap[g3]? = some (.cells #[.int .u64 N, .int .i64 J0] 42 (0, 0))) → x.heap[g2]? = some (.cells #[.int .u64 0, .int .i64 0] 42 (0, 0)) → Upd (fun b => b = p) w x → Rdr x S p r2 →
      (x.setCell ⟨g3, 1, none⟩ (.int .i64 J)).heap[g3]? = some (.cells #[.int .u64 N, .int .i64 J] 42 (0, 0)) ∧ (x.setCell ⟨g3, 1, none⟩ (.int .i64 J)).heap[g2]? = some (.cells #[.int .u64 0, .int .i64 0] 42 (0, 0)) ∧ Upd (fun b => b = p) w (x.setCell ⟨g3, 1, none⟩ (.int .i64 J)) ∧ Rdr (x.setCell ⟨g3, 1, none⟩ (.int .i64 J)) S p r2 := by
    intro J x hx hx2 hu hr
    have us : Upd (fun b => b = g3) x (x.setCell ⟨g3, 1, none⟩ (.int .i64 J)) := Upd.setCell (F := fun b => b = g3) (Upd.refl _ x) (p := ⟨g3, 1, none⟩) (fun _ => rfl) _
    refine ⟨?_, us.heap hx2 (fun e => by have : g2 = g3 := e; omega), hu.then us (fun i hi e => by have : i = g3 := e; omega), hr.keep us (fun b hb e => hSg b hb e) hpg⟩
    rcases hx with hx | ⟨J0, hx⟩
    · simpa using heap_set hx 1 (.int .i64 J)
    · simpa using heap_set hx 1 (.int .i64 J)
  -- the end: the result is written
  have fin : ∀ (J : Int) (W : World), W.heap[g2]? = some (.cells #[.int .u64 0, .int .i64 0] 42 (0, 0)) → Upd (fun b => b = p) w W → Rdr W S p r2 → ∀ (a b : Value),
      BCells (W.setCell ⟨g2, 0, none⟩ a) g2 a (.int .i64 0) ∧ ((W.setCell ⟨g2, 0, none⟩ a).setCell ⟨g2, 1, none⟩ b).heap[g2]? = some (.cells #[a, b] 42 (0, 0)) ∧ After S p w r2 ((W.setCell ⟨g2, 0, none⟩ a).setCell ⟨g2, 1, none⟩ b) := by
    intro J W hW hu hr a b
    have e0 : (W.setCell ⟨g2, 0, none⟩ a).heap[g2]? = some (.cells #[a, .int .i64 0] 42 (0, 0)) := by simpa using heap_set hW 0 a
    have e1 : ((W.setCell ⟨g2, 0, none⟩ a).setCell ⟨g2, 1, none⟩ b).heap[g2]? = some (.cells #[a, b] 42 (0, 0)) := by simpa using heap_set e0 1 b
    have us : Upd (fun b => b = g2) W ((W.setCell ⟨g2, 0, none⟩ a).setCell ⟨g2, 1, none⟩ b) := Upd.setCell (F := fun b => b = g2) (Upd.setCell (F := fun b => b = g2) (Upd.refl _ W) (p := ⟨g2, 0, none⟩) (fun _ => rfl) _) (p := ⟨g2, 1, none⟩) (fun _ => rfl) _
    exact ⟨BCells.of e0, e1, hr.keep us (fun b hb e => by have := hS b hb; have : b = g2 := e; omega) (fun e => by have : p = g2 := e; omega), hu.then us (fun i hi e => by have : i = g2 := e; omega)⟩
  have Fin := Lib.hid fin
  clear fin
  by_cases c5 : I = 5
  · have A3 := key (I : Int) w2 (.inl hy2) hz3 u2 r2'
    have A4 := key (-1) _ (.inr ⟨_, A3.1⟩) A3.2.1 A3.2.2.1 A3.2.2.2
    subst c5
    obtain ⟨j0, j1, j2, j3⟩ := BCells.of A3.1
    have HB := Lib.hid (bad_any p r2 _ A4.2.2.2)
    have HA4 := Lib.hid A4
    clear A3 A4 key hy2 hz3 u2 r2' ha U1 HY HZ2 H2
    go_wp2_with fail
    refine HB.out.mono ?_
    rintro e w5 ⟨rfl, rfl⟩
    clear HB
    generalize ((w2.setCell ⟨g3, 1, none⟩ (.int .i64 5)).setCell ⟨g3, 1, none⟩ (.int .i64 (-1))) = W4 at *
    have A4 := HA4.out
    obtain ⟨i0, i1, i2, i3⟩ := BCells.of A4.1
    obtain ⟨m0, m1, m2, m3⟩ := BCells.of A4.2.1
    have fz := Fin.out (-1) W4 A4.2.1 A4.2.2.1 A4.2.2.2 (.int .u64 0) (.int .i64 0)
    have fj := Fin.out (-1) W4 A4.2.1 A4.2.2.1 A4.2.2.2 (.int .u64 N) (.int .i64 (-1))
    obtain ⟨z0, z1, z2, z3⟩ := fz.1
    obtain ⟨y0, y1, y2, y3⟩ := fj.1
    have FZ := Lib.hid fz.2
    have FJ := Lib.hid fj.2
    clear fz fj A4 HA4
    generalize hbad : r2.bad = bad at *
    cases bad with
    | true =>
      rw [if_pos rfl] at HRes
      go_wp2_with fail
      refine bodyPost_ret (results_cell_row rfl _ _ g2 42 #[.int .u64 0, .int .i64 0] (0, 0) _ rfl FZ.out.1 Try.underlying42 rfl (by kernel_rfl)) rfl ?_
      rw [← HRes.out]
      exact ⟨rfl, FZ.out.2⟩
    | false =>
      rw [if_neg (by decide)] at HRes
      go_wp2_with fail
      refine bodyPost_ret (results_cell_row rfl _ _ g2 42 #[.int .u64 N, .int .i64 (-1)] (0, 0) _ rfl FJ.out.1 Try.underlying42 rfl (by kernel_rfl)) rfl ?_
      rw [← HRes.out]
      exact ⟨rfl, FJ.out.2⟩
  · have A4 := key (I : Int) w2 (.inl hy2) hz3 u2 r2'
    have c5' : ((I : Int) == 5) = false := by simp; omega
    rw [if_neg c5] at HRes
    obtain ⟨j0, j1, j2, j3⟩ := BCells.of A4.1
    have HB := Lib.hid (bad_any p r2 _ A4.2.2.2)
    have HA4 := Lib.hid A4
    clear A4 key hy2 hz3 u2 r2' ha U1 HY HZ2 H2
    go_wp2_with fail
    refine HB.out.mono ?_
    rintro e w5 ⟨rfl, rfl⟩
    clear HB
    generalize (w2.setCell ⟨g3, 1, none⟩ (.int .i64 I)) = W4 at *
    have A4 := HA4.out
    obtain ⟨i0, i1, i2, i3⟩ := BCells.of A4.1
    obtain ⟨m0, m1, m2, m3⟩ := BCells.of A4.2.1
    have fz := Fin.out (I : Int) W4 A4.2.1 A4.2.2.1 A4.2.2.2 (.int .u64 0) (.int .i64 0)
    have fj := Fin.out (I : Int) W4 A4.2.1 A4.2.2.1 A4.2.2.2 (.int .u64 N) (.int .i64 (I : Int))
    obtain ⟨z0, z1, z2, z3⟩ := fz.1
    obtain ⟨y0, y1, y2, y3⟩ := fj.1
    have FZ := Lib.hid fz.2
    have FJ := Lib.hid fj.2
    clear fz fj A4 HA4
    generalize hbad : r2.bad = bad at *
    cases bad with
    | true =>
      rw [if_pos rfl] at HRes
      go_wp2_with fail
      refine bodyPost_ret (results_cell_row rfl _ _ g2 42 #[.int .u64 0, .int .i64 0] (0, 0) _ rfl FZ.out.1 Try.underlying42 rfl (by kernel_rfl)) rfl ?_
      rw [← HRes.out]
      exact ⟨rfl, FZ.out.2⟩
    | false =>
      rw [if_neg (by decide)] at HRes
      go_wp2_with fail
      refine bodyPost_ret (results_cell_row rfl _ _ g2 42 #[.int .u64 N, .int .i64 (I : Int)] (0, 0) _ rfl FJ.out.1 Try.underlying42 rfl (by kernel_rfl)) rfl ?_
      rw [← HRes.out]
      exact ⟨rfl, FJ.out.2⟩
end Go.Proofs.Ytflifeelgamaaaa
