/- The document's list of entries, any (1): an epoch, a piece; one more. -/
import Derived.Test.YtobfolkcpfaplaaEnt12
import Derived.Test.YtobfolkcpfaplaaEnt11
namespace Go.Proofs.Ytobfolkcpfaplaa
open Go.RowKit Kit
set_option linter.unusedVariables false
set_option maxHeartbeats 4000000 in
set_option maxRecDepth 100000 in
theorem refepoch_any {S : Nat → Prop} (v : Value) (l : List Ent) (i : Int) (w : World) (h : RSl Rep.ent w S v l) (hl : l.length ≤ 100000) :
    Calls Try.prog 31 #[v, .int .i64 i] w fun e w' => e = .returned (.int .u64 (epE l i)) ∧ Upd NoB w w' := by
  have HX := Lib.hid h
  have HU0 := Lib.hid (Upd.refl NoB w)
  obtain ⟨A, c, _, rfl, _⟩ := h
  go_enter Try.func31, Try.ntmps31
  go_wp2_with fail
  go_loopw [9] (fun x9 wr => ∃ k : Nat, k ≤ l.length ∧ x9 = .int .i64 k ∧ Hid (¬ (1 ≤ i ∧ i ≤ (k : Int))) ∧ Hid (Upd NoB w wr)) (fun x9 _ => l.length - (intOf x9).toNat)
  case atStart => exact ⟨0, by omega, rfl, Lib.hid (by omega), HU0⟩
  case round =>
    obtain ⟨k, hk, rfl, hN, hU⟩ := hrel
    by_cases hlt : k < l.length
    · obtain ⟨g, o, A1, B1, m1, m2, rfl, hr1, hr2, c0, c1, c2, c3, c4, c5, c6, c7, c8, c9⟩ := ten_at (v := .bool true) HX.out hU.out k hlt
      have hep := Lib.hid (epE_at hlt)
      have hw1 : IntKind.i64.wrap ((k : Int) + 1) = (k : Int) + 1 := by simp only [IntKind.wrap_i64]; omega
      generalize l[k] = x at *
      obtain ⟨wa, hwa⟩ : ∃ wa, wr.alloc (.cells #[.int .u64 x.ep, .int .i64 x.kd, .int .i64 x.tc, .int .u64 x.tq, .bool x.pl, .slice A1 x.rd.length m1, .slice B1 x.wr.length m2, .int .i64 x.ec, .int .u64 x.eq, .int .i64 x.cd] 72) = wa := ⟨_, rfl⟩
      have hua : Upd NoB wr wa := by rw [← hwa]; exact (Upd.refl _ _).alloc _
      have hBa : wa.heap[wr.heap.size]? = some (.cells #[.int .u64 x.ep, .int .i64 x.kd, .int .i64 x.tc, .int .u64 x.tq, .bool x.pl, .slice A1 x.rd.length m1, .slice B1 x.wr.length m2, .int .i64 x.ec, .int .u64 x.eq, .int .i64 x.cd] 72 (0, 0)) := by rw [← hwa]; exact heap_alloc_new _ _
      have y0 := (ten_cells hBa).1
      have HUa := Lib.hid (hU.out.trans hua)
      clear hua hBa hr1 hr2
      by_cases he : (k : Int) + 1 = i
      · have de : ((k : Int) + 1 == i) = true := beq_iff_eq.2 he
        have hres := Lib.hid (show epE l i = x.ep by rw [← he]; exact hep.out)
        clear he
        go_wp2_with fail
        go_ret
        exact ⟨by rw [hres.out]; rfl, HUa.out⟩
      · have de : ((k : Int) + 1 == i) = false := beq_eq_false_iff_ne.2 he
        have hN2 := Lib.hid (show ¬ (1 ≤ i ∧ i ≤ ((k + 1 : Nat) : Int)) by have := hN.out; omega)
        clear he
        go_wp2_with fail
        go_roundw
        case measure => simp [intOf]; omega
        case rel => exact ⟨k + 1, by omega, by go_num, hN2, HUa⟩
    · obtain rfl : k = l.length := by omega
      have hres := Lib.hid (show epE l i = 0 by unfold epE; rw [if_neg hN.out])
      go_wp2_with fail
      go_ret
      exact ⟨by rw [hres.out]; rfl, hU.out⟩
/-! ### one more -/
section
variable {α : Type} {r : Rep α} {P : Program} {ops : Array Oper} {rest : List Oper} {o : Oper} {a : Act} {Q : Exit → Act → World → Prop}
theorem app_all2 {W : World} (hgd : o.guard = none) (s x : Operand) (t e : TypeId) (z : Value) (bytes : Nat)
    (ho : o.op = .call { callee := .builtin .append, args := #[s, x], argTypes := #[t, t] })
    (ht : P.underlying t = some (.slice e)) (hinfo : (P.info? e).map (fun i => (i.zero, i.size, i.bytes)) = some (some z, r.sz, bytes)) (hz : z.cells.size = r.sz) (hb0 : 0 < bytes)
    {S T : Nat → Prop} {v vy : Value} {l l' : List α} (hs : a.eval s = v) (hx : a.eval x = vy)
    (HO : OSl r e W S v l) (HB : Bd S W) (Hy : RSl r W T vy l') (hT0 : ∀ cs, Kit.Rows r W T l' cs → Kit.Rows r W (fun b => S b ∧ v.ownBlock ≠ some b) l' cs)
    (hl : (l.length + l'.length) * bytes ≤ 140737488355328)
    (h : ∀ v1 w1, (v1.ownBlock = v.ownBlock ∨ v1.ownBlock = some W.heap.size) → OSl r e w1 (grow S W w1) v1 (l ++ l') → Upd (fun b => v.ownBlock = some b) W w1 → wpList P ops Q rest (a.put o.dst v1) w1) :
    wpList P ops Q (o :: rest) a W := by
  obtain ⟨i0, hi, hzz⟩ := Option.map_eq_some_iff.1 hinfo
  simp only [Prod.mk.injEq] at hzz
  obtain ⟨hz0, hz1, hz2⟩ := hzz
  have hlen : l.length + l'.length ≤ 140737488355328 := Nat.le_trans (Nat.le_mul_of_pos_right _ hb0) hl
  obtain ⟨A, c, cy, rfl, y1, y2, y3, y4, y5⟩ := Hy
  obtain ⟨c0, hown0, h00⟩ := id HO
  cases A with
  | none =>
    obtain rfl := y4 rfl
    obtain rfl : l' = [] := List.eq_nil_of_length_eq_zero (by omega)
    refine wpList_append_own_none hgd s x t ho 0 e i0 r.sz ht hi v l.length c0 hs hown0 hx ?_
    refine h v W (.inl rfl) ?_ (Upd.refl _ _)
    rw [List.append_nil]
    exact HO.mono (fun b hb => ⟨.inl hb, HB b hb⟩)
  | some ad =>
    obtain ⟨q1, q2, q3⟩ := y5 ad rfl
    obtain ⟨g, off, sp⟩ := ad
    simp only at q1
    subst q1
    refine wpList_append_own_at W hgd s x t ho 0 e i0 z r.sz bytes ht hi hz0 hz1 hz2 hz r.pos v l.length c0 hs hown0 ⟨g, off, none⟩ l'.length c cy hx (Kit.Rows.len y3)
      (fun j u hu => by rw [Addr.add_lit]; exact q3 j u hu) (Kit.Rows.one y3) (by simp only [maxLen]; omega) hl (Nat.zero_le _) ?_
    intro v1 w1 hown hg _ hat
    have key : ∀ cs', W.ownsRow 0 e r.sz v l.length cs' → w1.ownsRow 0 e r.sz v1 (l.length + l'.length) (cs' ++ cy) := by
      intro cs' hc'
      obtain rfl : cs' = c0 := by
        rcases hown0.2 with ⟨rfl, hn⟩ | ⟨g, cap, cur, rfl, _, hgg, _, _, _, htake⟩
        · have a1 := hown0.1
          have a2 := hc'.1
          rw [hn, Nat.zero_mul] at a1 a2
          rw [List.eq_nil_of_length_eq_zero a1, List.eq_nil_of_length_eq_zero a2]
        · rcases hc'.2 with ⟨e', _⟩ | ⟨g', cap', cur', e', _, hgg', _, _, _, htake'⟩
          · cases e'
          · cases e'
            rw [hgg] at hgg'
            cases hgg'
            rw [← htake, ← htake']
      exact hown
    have fin := OSl.appended (r := r) (l' := l') (by simp) HO HB (hT0 cy y3) (fun _ h => h) key hg hat
    exact h v1 w1 hat fin (Upd.of_grown hg (fun k hk => hk))
end
theorem sched_twoL {P : Program} {ops : Array Oper} {Q : Exit → Act → World → Prop} {F : Nat → Prop} {fuel : Nat} {listed : Array Bool} {a : Act} {w : World} (i j : Nat) {oi oj : Oper} (hr : Region.ready .any ops listed = [i, j]) (hi : ops[i]? = some oi) (hj : ops[j]? = some oj) (hgi : oi.guard = none) (hwj : Region.wanted oj (yielded ops a.tmps) = true)
    (h1 : wpList P ops (NormalIs (fun a' w' => Upd F w w' ∧ Sched P ops Q F fuel (listed.setIfInBounds i true) a' w') Q) [oi] a w) (h2 : oj.wp P a w (fun a' w' => Upd F w w' ∧ Sched P ops Q F fuel (listed.setIfInBounds j true) a' w') Q) : Sched P ops Q F (fuel + 1) listed a w := by
  refine wpAnyH_all hr (by simp) ?_
  intro k hk
  rcases (show k = i ∨ k = j by simpa using hk) with rfl | rfl
  · unfold wpOp
    simp only [hi]
    rw [if_pos (by simp [Region.wanted, hgi])]
    exact (wp_of_list hgi h1).imp (fun h => Oper.wp_mono (fun a' w' h' => ⟨h'.1, heldMono (fun x hx => h'.1.trans hx) _ _ _ _ h'.2⟩) h) id
  · unfold wpOp
    simp only [hj]
    rw [if_pos hwj]
    exact .inl (Oper.wp_mono (fun a' w' h' => ⟨h'.1, heldMono (fun x hx => h'.1.trans hx) _ _ _ _ h'.2⟩) h2)
theorem sched_two {P : Program} {ops : Array Oper} {Q : Exit → Act → World → Prop} {F : Nat → Prop} {fuel : Nat} {listed : Array Bool} {a : Act} {w : World} (i j : Nat) {oi oj : Oper} (hr : Region.ready .any ops listed = [i, j]) (hi : ops[i]? = some oi) (hj : ops[j]? = some oj) (hwi : Region.wanted oi (yielded ops a.tmps) = true) (hwj : Region.wanted oj (yielded ops a.tmps) = true)
    (h1 : oi.wp P a w (fun a' w' => Upd F w w' ∧ Sched P ops Q F fuel (listed.setIfInBounds i true) a' w') Q) (h2 : oj.wp P a w (fun a' w' => Upd F w w' ∧ Sched P ops Q F fuel (listed.setIfInBounds j true) a' w') Q) : Sched P ops Q F (fuel + 1) listed a w := by
  refine wpAnyH_all hr (by simp) ?_
  intro k hk
  rcases (show k = i ∨ k = j by simpa using hk) with rfl | rfl
  · unfold wpOp
    simp only [hi]
    rw [if_pos hwi]
    exact .inl (Oper.wp_mono (fun a' w' h' => ⟨h'.1, heldMono (fun x hx => h'.1.trans hx) _ _ _ _ h'.2⟩) h1)
  · unfold wpOp
    simp only [hj]
    rw [if_pos hwj]
    exact .inl (Oper.wp_mono (fun a' w' h' => ⟨h'.1, heldMono (fun x hx => h'.1.trans hx) _ _ _ _ h'.2⟩) h2)
/-- A list under way: its own block is new since wd; what its elements reach lies in Z, or is new. -/
structure AddA (wd x : World) (Z : Nat → Prop) (v : Value) (L : List Ent) : Prop where
  os : OSl Rep.ent 72 x (fun b => (Z b ∨ wd.heap.size ≤ b) ∧ b < x.heap.size) v L
  upd : Upd NoB wd x
  ge : ∀ b, v.ownBlock = some b → wd.heap.size ≤ b
section
variable {wd x : World} {Z : Nat → Prop} {v : Value} {L : List Ent}
theorem AddA.made (u : Upd NoB wd x) : AddA wd (x.alloc (.cells #[] 72)) Z (.slice (some ⟨x.heap.size, 0, none⟩) 0 0) [] :=
  ⟨OSl.made (r := Rep.ent) (e := 72) (w := x) (S := fun b => (Z b ∨ wd.heap.size ≤ b) ∧ b < (x.alloc (.cells #[] 72)).heap.size) #[] 0 (by simp) (by decide) ⟨.inr u.size, by simp⟩, u.trans ((Upd.refl _ _).alloc _), fun b hb => by have := Option.some.inj hb; have := u.size; simp only at *; omega⟩
theorem AddA.keep (h : AddA wd x Z v L) {y : World} (u : Upd NoB x y) : AddA wd y Z v L :=
  ⟨(h.os.upd u (fun _ _ h => h)).mono (fun b hb => ⟨hb.1, Nat.lt_of_lt_of_le hb.2 u.size⟩), h.upd.trans u, h.ge⟩
theorem AddA.bd (h : AddA wd x Z v L) : Bd (fun b => (Z b ∨ wd.heap.size ≤ b) ∧ b < x.heap.size) x := fun b hb => hb.2
theorem AddA.app (h : AddA wd x Z v L) {y : World} {v1 : Value} {L1 : List Ent} (hat : v1.ownBlock = v.ownBlock ∨ v1.ownBlock = some x.heap.size) (ho : OSl Rep.ent 72 y (grow (fun b => (Z b ∨ wd.heap.size ≤ b) ∧ b < x.heap.size) x y) v1 L1) (hu : Upd (fun b => v.ownBlock = some b) x y) : AddA wd y Z v1 L1 :=
  ⟨ho.mono (fun b hb => ⟨hb.1.elim (fun h => h.1) (fun h' => .inr (by have := h.upd.size; omega)), hb.2⟩), h.upd.then hu (fun i hi e => by have := h.ge i e; omega), fun b hb => by
    rcases hat with e | e
    · exact h.ge b (e ▸ hb)
    · rw [e] at hb; have := Option.some.inj hb; have := h.upd.size; omega⟩
/-- What is read may be appended. -/
theorem AddA.rows (h : AddA wd x Z v L) {T : Nat → Prop} (hT : ∀ b, T b → (Z b ∧ b < wd.heap.size)) (l : List Ent) (cs : List Value) (hc : Kit.Rows Rep.ent x T l cs) : Kit.Rows Rep.ent x (fun b => ((Z b ∨ wd.heap.size ≤ b) ∧ b < x.heap.size) ∧ v.ownBlock ≠ some b) l cs :=
  have key : ∀ b, T b → ((Z b ∨ wd.heap.size ≤ b) ∧ b < x.heap.size) ∧ v.ownBlock ≠ some b := fun b hb => ⟨⟨.inl (hT b hb).1, Nat.lt_of_lt_of_le (hT b hb).2 h.upd.size⟩, fun e => by have := h.ge b e; have := (hT b hb).2; omega⟩
  hc.keep (fun b hb _ => ⟨key b hb, rfl⟩) key
end
/-- .. a box beside it, too. -/
theorem AddA.rows2 {wd x : World} {Z : Nat → Prop} {v : Value} {L : List Ent} (h : AddA wd x Z v L) {T : Nat → Prop} {b4 : Nat} (hT : ∀ b, T b → (Z b ∧ b < wd.heap.size)) (hb : wd.heap.size ≤ b4 ∧ b4 < x.heap.size) (hne : v.ownBlock ≠ some b4) (l : List Ent) (cs : List Value) (hc : Kit.Rows Rep.ent x (fun k => T k ∨ k = b4) l cs) : Kit.Rows Rep.ent x (fun b => ((Z b ∨ wd.heap.size ≤ b) ∧ b < x.heap.size) ∧ v.ownBlock ≠ some b) l cs :=
  have key : ∀ b, (T b ∨ b = b4) → ((Z b ∨ wd.heap.size ≤ b) ∧ b < x.heap.size) ∧ v.ownBlock ≠ some b := fun b hb' => by
    rcases hb' with h' | rfl
    · exact ⟨⟨.inl (hT b h').1, Nat.lt_of_lt_of_le (hT b h').2 h.upd.size⟩, fun e => by have := h.ge b e; have := (hT b h').2; omega⟩
    · exact ⟨⟨.inr hb.1, hb.2⟩, hne⟩
  hc.keep (fun b hb _ => ⟨key b hb, rfl⟩) key
/-- A box of one entry, as a row. -/
theorem box_ent {T : Nat → Prop} {x : World} {b : Nat} {e : Ent} {cs : Array Value} {ty : TypeId} (hb : x.heap[b]? = some (.cells cs ty (0, 0))) (hr : Rep.ent.rep x T e cs.toList) : RSl Rep.ent x (fun k => T k ∨ k = b) (.slice (some ⟨b, 0, none⟩) 1 1) [e] := by
  refine ⟨some ⟨b, 0, none⟩, 1, cs.toList, rfl, Nat.le_refl _, by decide, Rows.single (Rep.ent_mono hr (fun _ h => .inl h)), (fun h => nomatch h), fun a ha => ?_⟩
  obtain rfl := Option.some.inj ha
  refine ⟨rfl, .inr rfl, fun j u hu => ?_⟩
  simp only [World.cell?, hb, Nat.zero_add]
  simpa using hu
end Go.Proofs.Ytobfolkcpfaplaa
