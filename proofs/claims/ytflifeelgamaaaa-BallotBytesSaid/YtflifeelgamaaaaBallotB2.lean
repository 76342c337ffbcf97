/- Ballots as bytes, function by function (2): the reference's. -/
import Derived.Test.YtflifeelgamaaaaBallotB1
import Derived.Test.YtflifeelgamaaaaOctRef1
namespace Go.Proofs.Ytflifeelgamaaaa
open Go.RowKit Kit Oct
set_option linter.unusedVariables false

set_option maxHeartbeats 4000000 in
set_option maxRecDepth 100000 in
theorem rbread_any {S : Nat → Prop} (p : Nat) (r : Rd) (w : World) (h : RRdr w S p r) (hS : Bd S w) :
    Calls Try.prog 60 #[.pointer (some ⟨p, 0, none⟩)] w fun e w' => e = .returned (.agg #[.int .u64 ((Rd.ballot r).1.1 : Int), .int .i64 (Rd.ballot r).1.2]) ∧ RAfter S p w (Rd.ballot r).2 w' := by
  have hp : p < w.heap.size := by obtain ⟨_, _, _, hh, _⟩ := h; exact lt_of_heap hh
  have uz : Upd NoB w (w.alloc (.cells #[.int .u64 0, .int .i64 0] 41)) := (Upd.refl NoB w).alloc _
  have h1 := rn_any p r _ (h.keep uz (fun _ _ h => h) (fun h => h))
  have hz := heap_alloc_new w (.cells #[.int .u64 0, .int .i64 0] 41)
  unfold Rd.ballot
  generalize r.most (2 ^ 64 - 1) = q1 at *
  obtain ⟨N, r1⟩ := q1
  simp only at h1 ⊢
  have H1 := Lib.hid h1
  have HZ := Lib.hid hz
  have UZ := Lib.hid uz
  have HD := Lib.hid (fun (x : World) => rint_any (S := S) p 5 r1 x)
  generalize r1.int 5 = q2 at *
  obtain ⟨I, r2⟩ := q2
  simp only at HD ⊢
  generalize hres : (if r2.bad = true then (((0 : Nat), (0 : Int)), r2) else ((N, if I = 5 then -1 else (I : Int)), r2)) = res
  have HRes := Lib.hid hres
  clear h1 hz uz h hres
  go_enter Try.func60, Try.ntmps60
  go_wp2_with fail
  refine H1.out.mono ?_
  rintro e w1 ⟨rfl, ha⟩
  have u1 : Upd (fun b => b = p) w w1 := (UZ.out.mono (fun _ _ h => h.elim)).trans ha.2
  have hz1 := ha.2.heap HZ.out (fun e => by have : w.heap.size = p := e; omega)
  have uy : Upd NoB w1 (w1.alloc (.cells #[.int .u64 N, .int .i64 0] 41)) := (Upd.refl NoB w1).alloc _
  have hsz : w.heap.size < w1.heap.size := lt_of_heap hz1
  have h2 := HD.out _ (ha.1.keep uy (fun _ _ h => h) (fun h => h)) (by decide)
  have hy := heap_alloc_new w1 (.cells #[.int .u64 N, .int .i64 0] 41)
  have hz2 := uy.heap hz1 (fun h => h)
  have H2 := Lib.hid h2
  have HY := Lib.hid hy
  have HZ2 := Lib.hid hz2
  have U1 := Lib.hid (u1.trans (uy.mono (fun _ _ h => h.elim)))
  clear h2 hy hz2 uy hz1 u1 ha H1 HZ UZ HD
  go_wp2_with fail
  refine H2.out.mono ?_
  rintro e w2 ⟨rfl, ha⟩
  have hy2 := ha.2.heap HY.out (fun e => by have : w1.heap.size = p := e; omega)
  have hz3 := ha.2.heap HZ2.out (fun e => by have : w.heap.size = p := e; omega)
  have u2 : Upd (fun b => b = p) w w2 := U1.out.trans ha.2
  have r2' := ha.1
  obtain ⟨k0, k1, k2, k3⟩ := BCells.of hy2
  have q2 : w.heap.size ≤ w.heap.size := Nat.le_refl _
  have q3 : w.heap.size ≤ w1.heap.size := by omega
  have hSg : ∀ b, S b → b ≠ w1.heap.size := fun b hb e => by have := hS b hb; omega
  generalize hg2 : w.heap.size = g2 at *
  generalize w1.heap.size = g3 at *
  have hpg : p ≠ g3 := by omega
  -- what is known of a world behind the stores into the ballot
  have key : ∀ (J : Int) (x : World), x.heap[g3]? = some (.cells #[.int .u64 N, .int .i64 0] 41 (0, 0)) ∨ (∃ J0 : Int, x.heap[g3]? = some (.cells #[.int .u64 N, .int .i64 J0] 41 (0, 0))) → x.heap[g2]? = some (.cells #[.int .u64 0, .int .i64 0] 41 (0, 0)) → Upd (fun b => b = p) w x → RRdr x S p r2 →
      (x.setCell ⟨g3, 1, none⟩ (.int .i64 J)).heap[g3]? = some (.cells #[.int .u64 N, .int .i64 J] 41 (0, 0)) ∧ (x.setCell ⟨g3, 1, none⟩ (.int .i64 J)).heap[g2]? = some (.cells #[.int .u64 0, .int .i64 0] 41 (0, 0)) ∧ Upd (fun b => b = p) w (x.setCell ⟨g3, 1, none⟩ (.int .i64 J)) ∧ RRdr (x.setCell ⟨g3, 1, none⟩ (.int .i64 J)) S p r2 := by
    intro J x hx hx2 hu hr
    have us : Upd (fun b => b = g3) x (x.setCell ⟨g3, 1, none⟩ (.int .i64 J)) := Upd.setCell (F := fun b => b = g3) (Upd.refl _ x) (p := ⟨g3, 1, none⟩) (fun _ => rfl) _
    refine ⟨?_, us.heap hx2 (fun e => by have : g2 = g3 := e; omega), hu.then us (fun i hi e => by have : i = g3 := e; omega), hr.keep us (fun b hb e => hSg b hb e) hpg⟩
    rcases hx with hx | ⟨J0, hx⟩
    · simpa using heap_set hx 1 (.int .i64 J)
    · simpa using heap_set hx 1 (.int .i64 J)
  -- the end: the result is written
  have fin : ∀ (J : Int) (W : World), W.heap[g2]? = some (.cells #[.int .u64 0, .int .i64 0] 41 (0, 0)) → Upd (fun b => b = p) w W → RRdr W S p r2 → ∀ (a b : Value),
      BCells (W.setCell ⟨g2, 0, none⟩ a) g2 a (.int .i64 0) ∧ ((W.setCell ⟨g2, 0, none⟩ a).setCell ⟨g2, 1, none⟩ b).heap[g2]? = some (.cells #[a, b] 41 (0, 0)) ∧ RAfter S p w r2 ((W.setCell ⟨g2, 0, none⟩ a).setCell ⟨g2, 1, none⟩ b) := by
    intro J W hW hu hr a b
    have e0 : (W.setCell ⟨g2, 0, none⟩ a).heap[g2]? = some (.cells #[a, .int .i64 0] 41 (0, 0)) := by simpa using heap_set hW 0 a
    have e1 : ((W.setCell ⟨g2, 0, none⟩ a).setCell ⟨g2, 1, none⟩ b).heap[g2]? = some (.cells #[a, b] 41 (0, 0)) := by simpa using heap_set e0 1 b
    have us : Upd (fun b => b = g2) W ((W.setCell ⟨g2, 0, none⟩ a).setCell ⟨g2, 1, none⟩ b) := Upd.setCell (F := fun b => b = g2) (Upd.setCell (F := fun b => b = g2) (Upd.refl _ W) (p := ⟨g2, 0, none⟩) (fun _ => rfl) _) (p := ⟨g2, 1, none⟩) (fun _ => rfl) _
    exact ⟨BCells.of e0, e1, hr.keep us (fun b hb e => by have := hS b hb; have : b = g2 := e; omega) (fun e => by have : p = g2 := e; omega), hu.then us (fun i hi e => by have : i = g2 := e; omega)⟩
  have Fin := Lib.hid fin
  clear fin
  have A3 := key (I : Int) w2 (.inl hy2) hz3 u2 r2'
  have HA3 := Lib.hid A3
  obtain ⟨B, a, v, hh, _⟩ := id A3.2.2.2
  obtain ⟨y0, y1, y2, y3, y4⟩ := RCells.of hh
  obtain ⟨j0, j1, j2, j3⟩ := BCells.of A3.1
  obtain ⟨m0, m1, m2, m3⟩ := BCells.of A3.2.1
  have Key := Lib.hid key
  have fz := Fin.out 0 _ A3.2.1 A3.2.2.1 A3.2.2.2 (.int .u64 0) (.int .i64 0)
  obtain ⟨z0, z1, z2, z3⟩ := fz.1
  have FZ := Lib.hid fz.2
  clear fz A3 key hy2 hz3 u2 r2' ha U1 HY HZ2 H2 hh
  generalize hbad : r2.bad = bad at *
  cases bad with
  | true =>
      rw [if_pos rfl] at HRes
      go_wp2_with fail
      refine bodyPost_ret (results_cell_row rfl _ _ g2 41 #[.int .u64 0, .int .i64 0] (0, 0) _ rfl FZ.out.1 Try.underlying41 rfl (by kernel_rfl)) rfl ?_
      rw [← HRes.out]
      exact ⟨rfl, FZ.out.2⟩
  | false =>
    rw [if_neg (by decide)] at HRes
    by_cases c5 : I = 5
    · have A3 := HA3.out
      have e5 : (I : Int) = 5 := by omega
      rw [e5] at A3 j0 j1 j2 j3 m0 m1 m2 m3 y0 y1 y2 y3 y4 z0 z1 z2 z3 FZ
      clear e5
      have A4 := Key.out (-1) _ (.inr ⟨_, A3.1⟩) A3.2.1 A3.2.2.1 A3.2.2.2
      subst c5
      obtain ⟨i0, i1, i2, i3⟩ := BCells.of A4.1
      obtain ⟨n0, n1, n2, n3⟩ := BCells.of A4.2.1
      have fj := Fin.out (-1) _ A4.2.1 A4.2.2.1 A4.2.2.2 (.int .u64 N) (.int .i64 (-1))
      obtain ⟨x0, x1, x2, x3⟩ := fj.1
      have FJ := Lib.hid fj.2
      clear fj A3 A4
      go_wp2_with fail
      refine bodyPost_ret (results_cell_row rfl _ _ g2 41 #[.int .u64 N, .int .i64 (-1)] (0, 0) _ rfl FJ.out.1 Try.underlying41 rfl (by kernel_rfl)) rfl ?_
      rw [← HRes.out]
      exact ⟨rfl, FJ.out.2⟩
    · have A4 := HA3.out
      have c5' : ((I : Int) == 5) = false := by simp; omega
      rw [if_neg c5] at HRes
      have fj := Fin.out I _ A4.2.1 A4.2.2.1 A4.2.2.2 (.int .u64 N) (.int .i64 I)
      obtain ⟨x0, x1, x2, x3⟩ := fj.1
      have FJ := Lib.hid fj.2
      clear fj A4
      go_wp2_with fail
      refine bodyPost_ret (results_cell_row rfl _ _ g2 41 #[.int .u64 N, .int .i64 (I : Int)] (0, 0) _ rfl FJ.out.1 Try.underlying41 rfl (by kernel_rfl)) rfl ?_
      rw [← HRes.out]
      exact ⟨rfl, FJ.out.2⟩
theorem Bd.mono_alloc {S : Nat → Prop} {w : World} (h : Bd S w) (o : Obj) : Bd S (w.alloc o) := fun b hb => by have := h b hb; simp; omega

set_option maxHeartbeats 2000000 in
set_option maxRecDepth 100000 in
theorem rbput_any (r : Nat) (d : Int) (w : World) (hr : r < 2 ^ 64) :
    Calls Try.prog 59 #[.agg #[.int .u64 r, .int .i64 d]] w fun e w' => ∃ v', e = .returned v' ∧ NewSl Rep.byte 5 w w' v' (enc r ++ enc (ncode d)) := by
  have hp := Lib.hid (refput_any r (w.alloc (.cells #[.int .u64 r, .int .i64 d] 41)) hr)
  have hlen := enc_len10 hr
  have hn := ncode_le d
  rw [enc_small (n := ncode d) (by omega)]
  generalize enc r = enr at *
  have hbt0 : ((UInt8.ofNat (ncode d)).toNat : Int) = (ncode d : Int) := by rw [toNat_ofNat (by omega)]
  generalize UInt8.ofNat (ncode d) = bt at *
  have hc : d < 0 ∧ (bt.toNat : Int) = 5 ∨ 4 < d ∧ (bt.toNat : Int) = 5 ∨ 0 ≤ d ∧ d ≤ 4 ∧ (bt.toNat : Int) = d := by
    rw [hbt0]
    unfold ncode
    by_cases a : 0 ≤ d ∧ d ≤ 4
    · rw [if_pos a]; omega
    · rw [if_neg a]; omega
  clear hbt0 hn
  rcases hc with ⟨h1, hbt⟩ | ⟨h1, hbt⟩ | ⟨h1, h2, hbt⟩
  ·
    go_enter Try.func59, Try.ntmps59
    go_wp2_with fail
    refine hp.out.mono ?_
    rintro e w1 ⟨v1, rfl, ho, hu⟩
    have u0 : Upd NoB w w1 := ((Upd.refl NoB w).alloc (.cells #[.int .u64 r, .int .i64 d] 41)).trans hu
    have HO := Lib.hid ho
    have HU := Lib.hid u0
    have hsz : w.heap.size < w1.heap.size := by have := hu.size; simp at this; omega
    have HB := Lib.hid (Bd.mono_alloc (Bd.grow NoB (w.alloc (.cells #[.int .u64 r, .int .i64 d] 41)) w1) (.cells #[.int .u8 (5)] 5))
    have HOA := Lib.hid (ho.upd ((Upd.refl NoB w1).alloc (.cells #[.int .u8 (5)] 5)) (fun _ _ h => h))
    have HY := Lib.hid (OSl.lit (r := Rep.byte) (e := 5) (w := w1) (S := fun b => b = w1.heap.size) (T := NoB) (l := [bt]) #[.int .u8 (5)] 1 rfl (by decide) ⟨[.int .u8 (5)], [], by simp, by simp only [Rep.byte]; rw [hbt], rfl⟩ (fun _ h => h.elim) (fun _ h => h.elim) rfl).read
    clear ho hu u0
    go_wp2_with (at_builtin; go_must (refine app_all (r := Rep.byte) rfl _ _ 53 5 (.int .u8 0) 1 rfl Try.underlying53 i5 rfl (by decide) rfl rfl HOA.out HB.out HY.out (fun cs hc => ?_) ?_ ?_))
    · rw [rows_bytes_eq hc]; exact Rows_bytes _ _ _
    · simp; omega
    · intro v2 w2 ho2 hu2
      have Fin := Lib.hid (show NewSl Rep.byte 5 w w2 v2 (enr ++ [bt]) by
        refine ⟨?_, (HU.out.alloc (.cells #[.int .u8 (5)] 5)).then hu2 ?_⟩
        · refine ho2.mono (fun b hb => ⟨.inr ?_, hb.2⟩)
          rcases hb.1 with h1 | h1
          · have := h1.1.resolve_left (fun h => h); simp at this; omega
          · simp at h1; omega
        · intro i hi hown
          obtain ⟨_, _, hset, _⟩ := HO.out
          have := (hset i hown).1.resolve_left (fun h => h)
          simp at this
          omega)
      clear ho2 hu2
      go_wp2_with fail
      go_ret
      exact ⟨_, rfl, Fin.out⟩
  ·
    go_enter Try.func59, Try.ntmps59
    go_wp2_with fail
    refine hp.out.mono ?_
    rintro e w1 ⟨v1, rfl, ho, hu⟩
    have u0 : Upd NoB w w1 := ((Upd.refl NoB w).alloc (.cells #[.int .u64 r, .int .i64 d] 41)).trans hu
    have HO := Lib.hid ho
    have HU := Lib.hid u0
    have hsz : w.heap.size < w1.heap.size := by have := hu.size; simp at this; omega
    have HB := Lib.hid (Bd.mono_alloc (Bd.grow NoB (w.alloc (.cells #[.int .u64 r, .int .i64 d] 41)) w1) (.cells #[.int .u8 (5)] 5))
    have HOA := Lib.hid (ho.upd ((Upd.refl NoB w1).alloc (.cells #[.int .u8 (5)] 5)) (fun _ _ h => h))
    have HY := Lib.hid (OSl.lit (r := Rep.byte) (e := 5) (w := w1) (S := fun b => b = w1.heap.size) (T := NoB) (l := [bt]) #[.int .u8 (5)] 1 rfl (by decide) ⟨[.int .u8 (5)], [], by simp, by simp only [Rep.byte]; rw [hbt], rfl⟩ (fun _ h => h.elim) (fun _ h => h.elim) rfl).read
    clear ho hu u0
    go_wp2_with (at_builtin; go_must (refine app_all (r := Rep.byte) rfl _ _ 53 5 (.int .u8 0) 1 rfl Try.underlying53 i5 rfl (by decide) rfl rfl HOA.out HB.out HY.out (fun cs hc => ?_) ?_ ?_))
    · rw [rows_bytes_eq hc]; exact Rows_bytes _ _ _
    · simp; omega
    · intro v2 w2 ho2 hu2
      have Fin := Lib.hid (show NewSl Rep.byte 5 w w2 v2 (enr ++ [bt]) by
        refine ⟨?_, (HU.out.alloc (.cells #[.int .u8 (5)] 5)).then hu2 ?_⟩
        · refine ho2.mono (fun b hb => ⟨.inr ?_, hb.2⟩)
          rcases hb.1 with h1 | h1
          · have := h1.1.resolve_left (fun h => h); simp at this; omega
          · simp at h1; omega
        · intro i hi hown
          obtain ⟨_, _, hset, _⟩ := HO.out
          have := (hset i hown).1.resolve_left (fun h => h)
          simp at this
          omega)
      clear ho2 hu2
      go_wp2_with fail
      go_ret
      exact ⟨_, rfl, Fin.out⟩
  ·
    have e2 : IntKind.u8.wrap d = d := by simp only [IntKind.wrap, IntKind.bits, IntKind.signed]; simp; omega
    go_enter Try.func59, Try.ntmps59
    go_wp2_with fail
    refine hp.out.mono ?_
    rintro e w1 ⟨v1, rfl, ho, hu⟩
    have u0 : Upd NoB w w1 := ((Upd.refl NoB w).alloc (.cells #[.int .u64 r, .int .i64 d] 41)).trans hu
    have HO := Lib.hid ho
    have HU := Lib.hid u0
    have hsz : w.heap.size < w1.heap.size := by have := hu.size; simp at this; omega
    have HB := Lib.hid (Bd.mono_alloc (Bd.grow NoB (w.alloc (.cells #[.int .u64 r, .int .i64 d] 41)) w1) (.cells #[.int .u8 (d)] 5))
    have HOA := Lib.hid (ho.upd ((Upd.refl NoB w1).alloc (.cells #[.int .u8 (d)] 5)) (fun _ _ h => h))
    have HY := Lib.hid (OSl.lit (r := Rep.byte) (e := 5) (w := w1) (S := fun b => b = w1.heap.size) (T := NoB) (l := [bt]) #[.int .u8 (d)] 1 rfl (by decide) ⟨[.int .u8 (d)], [], by simp, by simp only [Rep.byte]; rw [hbt], rfl⟩ (fun _ h => h.elim) (fun _ h => h.elim) rfl).read
    clear ho hu u0
    go_wp2_with (at_builtin; go_must (refine app_all (r := Rep.byte) rfl _ _ 53 5 (.int .u8 0) 1 rfl Try.underlying53 i5 rfl (by decide) rfl rfl HOA.out HB.out HY.out (fun cs hc => ?_) ?_ ?_))
    · rw [rows_bytes_eq hc]; exact Rows_bytes _ _ _
    · simp; omega
    · intro v2 w2 ho2 hu2
      have Fin := Lib.hid (show NewSl Rep.byte 5 w w2 v2 (enr ++ [bt]) by
        refine ⟨?_, (HU.out.alloc (.cells #[.int .u8 (d)] 5)).then hu2 ?_⟩
        · refine ho2.mono (fun b hb => ⟨.inr ?_, hb.2⟩)
          rcases hb.1 with h1 | h1
          · have := h1.1.resolve_left (fun h => h); simp at this; omega
          · simp at h1; omega
        · intro i hi hown
          obtain ⟨_, _, hset, _⟩ := HO.out
          have := (hset i hown).1.resolve_left (fun h => h)
          simp at this
          omega)
      clear ho2 hu2
      go_wp2_with fail
      go_ret
      exact ⟨_, rfl, Fin.out⟩
end Go.Proofs.Ytflifeelgamaaaa
