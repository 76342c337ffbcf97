/- Slots: one call of both tables: they answer alike; is a client's slot the document's? -/
import Derived.Test.YtmcpcladjfddmaaSessR3
namespace Go.Proofs.Ytmcpcladjfddmaa
open Go.RowKit Kit
set_option linter.unusedVariables false

/-- The table's slots are the rows'. -/
structure Alike (m : Tab) (L : List Srw) : Prop where
  f : ∀ c, m.f c = rof L c
  n : m.n = dc L L.length
theorem alike_new : Alike Tab.new [] := ⟨fun _ => rfl, rfl⟩
theorem alike_put {m : Tab} {L : List Srw} (h : Alike m L) (c : Int) (s : Slot) : Alike (m.put c s) (L ++ [(c, s)]) := by
  refine ⟨fun x => ?_, ?_⟩
  · rw [rof_snoc, ← h.f]
    show (if x = c then some s else m.f x) = if c = x then some s else m.f x
    by_cases e : x = c
    · rw [if_pos e, if_pos e.symm]
    · rw [if_neg e, if_neg (fun e' => e e'.symm)]
  · rw [dc_snoc, ← h.f, ← h.n]
    show (if (m.f c).isSome = true then m.n else m.n + 1) = m.n + if (m.f c).isSome = true then 0 else 1
    split <;> rfl
def stepT (kd c q a code num : Int) (m : Tab) : Tab := if kd = 0 ∨ kd = 1 then (m.openT c q a).2 else if kd = 2 ∨ kd = 3 then (m.doneT c q a code num).2 else m
def stepR (kd c q a code num : Int) (m : Tab) (L : List Srw) : List Srw :=
  if kd = 0 ∨ kd = 1 then (if m.may c q a false = 0 then L ++ [(c, ⟨q, true, a, 0, 0⟩)] else L)
  else if kd = 2 ∨ kd = 3 then (if m.may c q a true = 0 then L ++ [(c, ⟨q, false, a, code, num⟩)] else L) else L
theorem step_alike {m : Tab} {L : List Srw} (h : Alike m L) (kd c q a code num : Int) : Alike (stepT kd c q a code num m) (stepR kd c q a code num m L) := by
  unfold stepT stepR
  split
  · unfold Tab.openT
    simp only
    split
    · exact alike_put h _ _
    · exact h
  split
  · unfold Tab.doneT
    simp only
    split
    · exact alike_put h _ _
    · exact h
  · exact h
theorem stepT_n (kd c q a code num : Int) (m : Tab) : (stepT kd c q a code num m).n ≤ m.n + 1 := by
  unfold stepT
  split
  · exact openT_n _ _ _ _
  split
  · exact doneT_n _ _ _ _ _ _
  · omega
theorem stepR_len (kd c q a code num : Int) (m : Tab) (L : List Srw) : (stepR kd c q a code num m L).length ≤ L.length + 1 := by
  unfold stepR
  split
  · split <;> simp
  split
  · split <;> simp
  · omega
theorem RSt.out {w0 w : World} {xs : List Nat} {q : Nat} {l : List Srw} (h : RSt w0 w xs q l) (o : Obj) : RSt w0 (w.alloc o) (w.heap.size :: xs) q l := by
  obtain ⟨v, h1, h2⟩ := h
  have u := (Upd.refl NoB w).alloc o
  refine ⟨v, u.heap h1 (fun h => h), (h2.upd u (fun _ _ h => h)).mono (fun b hb => ⟨hb.1, Nat.lt_of_lt_of_le hb.2.1 u.size, fun hm => ?_⟩)⟩
  rcases List.mem_cons.1 hm with e | e
  · have := hb.2.1; omega
  · exact hb.2.2 e
theorem RSt.back {w0 w : World} {xs : List Nat} {x q : Nat} {l : List Srw} (h : RSt w0 w (x :: xs) q l) : RSt w0 w xs q l := by
  obtain ⟨v, h1, h2⟩ := h
  exact ⟨v, h1, h2.mono (fun b hb => ⟨hb.1, hb.2.1, fun hm => hb.2.2 (List.mem_cons_of_mem _ hm)⟩)⟩
set_option maxHeartbeats 16000000 in
set_option maxRecDepth 100000 in
theorem sstep_any (w0 : World) (xs : List Nat) (p b q : Nat) (m : Tab) (L : List Srw) (kd c sq a code num : Int) (w : World) (hT : Tbl w p b m) (hR : RSt w0 w xs q L) (hS : Alike m L)
    (hp : p ∈ xs) (hb : b ∈ xs) (hq : q ∈ xs) (hxs : ∀ x ∈ xs, x < w.heap.size) (h0 : w0.heap.size ≤ w.heap.size) (hn : m.n ≤ 1000) (hl : L.length ≤ 900) (hc : (Lit.int .i64 c).wf = true) (hsq : 0 ≤ sq) :
    Calls Try.prog 25 #[.pointer (some ⟨p, 0, none⟩), .pointer (some ⟨q, 0, none⟩), .agg #[.int .i64 kd, .int .i64 c, .int .u64 sq, .int .i64 a, .int .i64 code, .int .u64 num]] w fun e w' =>
      e = .returned (.bool true) ∧ Tbl w' p b (stepT kd c sq a code num m) ∧ RSt w0 w' xs q (stepR kd c sq a code num m L) ∧ Upd (fun x => x = b ∨ x = q ∨ New w0 w xs x) w w' := by
  have hqb : q ≠ b := by
    obtain ⟨v, g1, _⟩ := hR
    obtain ⟨D, _, ⟨es, clock, g2, _⟩, _⟩ := hT
    rintro rfl
    rw [g1] at g2
    cases g2
  have hqp : q ≠ p := by
    obtain ⟨v, g1, _⟩ := hR
    obtain ⟨D, g2, _⟩ := hT
    rintro rfl
    rw [g1] at g2
    cases g2
  have hpl := hxs p hp
  have hbl := hxs b hb
  have hql := hxs q hq
  obtain ⟨wa, hwa⟩ : ∃ wa, w.alloc (.cells #[.int .i64 kd, .int .i64 c, .int .u64 sq, .int .i64 a, .int .i64 code, .int .u64 num] 55) = wa := ⟨_, rfl⟩
  have hua : Upd NoB w wa := by rw [← hwa]; exact (Upd.refl _ _).alloc _
  have hB := Lib.hid (show wa.heap[w.heap.size]? = some (.cells #[.int .i64 kd, .int .i64 c, .int .u64 sq, .int .i64 a, .int .i64 code, .int .u64 num] 55 (0, 0)) by rw [← hwa]; exact heap_alloc_new _ _)
  have hszz : w.heap.size < wa.heap.size := lt_of_heap hB.out
  have HRa := Lib.hid (show RSt w0 wa (w.heap.size :: xs) q L by rw [← hwa]; exact hR.out _)
  have HTa := Lib.hid (hT.keep hua (fun h => h) (fun h => h))
  obtain ⟨k0, k1, k2, k3, k4, k5⟩ := six_cells hB.out
  clear hT hR
  unfold stepT stepR
  by_cases hk : kd = 0 ∨ kd = 1
  · rw [if_pos hk, if_pos hk]
    have hop := Lib.hid (fun x (h : Tbl x p b m) => show Calls Try.prog 32 #[.pointer (some ⟨p, 0, none⟩), .agg #[.int .i64 c, .int .u64 sq], .int .i64 a] x fun e w' => e = .returned (.int .i64 (m.may c sq a false)) ∧ Tbl w' p b (m.openT c sq a).2 ∧ Upd (fun y => y = b) x w' from open_any p b m c sq a x h hc (by omega))
    have hro := Lib.hid (fun x (h : RSt w0 x (w.heap.size :: xs) q L) (hx : ∀ y ∈ w.heap.size :: xs, y < x.heap.size) (h1 : w0.heap.size ≤ x.heap.size) => ropen_any w0 (w.heap.size :: xs) q L m c sq a x h hS.f (List.mem_cons_of_mem _ hq) hx h1 (by omega) hsq)
    generalize (m.openT c sq a).2 = m2 at *
    generalize (if m.may c sq a false = 0 then L ++ [(c, (⟨sq, true, a, 0, 0⟩ : Slot))] else L) = L2 at *
    generalize m.may c sq a false = E at *
    rcases hk with rfl | rfl
    · skip
      have HTd := Lib.hid (HTa.out.keep (Upd.refl NoB wa).drew (fun h => h) (fun h => h))
      have HRd := Lib.hid (HRa.out.keep (Upd.refl NoB wa).drew (fun h => h) (fun _ h => h.elim))
      have hbd := Lib.hid (fun x (hx : Upd (fun y => y ≠ w.heap.size) wa.drew x) => six_cells (hx.heap (show wa.drew.heap[w.heap.size]? = _ from hB.out) (fun h => h rfl)))
      have hdu : Upd NoB w wa.drew := hua.drew
      have hdz : wa.drew.heap.size = wa.heap.size := rfl
      go_enter Try.func25, Try.ntmps25
      go_wp2_with fail
      refine sched_begin (fun y => y ≠ w.heap.size) (by kernel_rfl) ?_
      generalize wa.drew = wd at *
      refine sched_take 0 rfl (by kernel_rfl) (by kernel_rfl) (by kernel_rfl) (fun _ _ _ h => h) rfl (fun x hx => by go_simp; rfl) ?_
      go_simp
      refine sched_take 1 rfl (by kernel_rfl) (by kernel_rfl) (by kernel_rfl) (fun _ _ _ h => h) rfl (fun x hx => by go_simp; rfl) ?_
      go_simp
      refine sched_take 2 rfl (by kernel_rfl) (by kernel_rfl) (by kernel_rfl) (fun _ _ _ h => h) rfl (fun x hx => by obtain ⟨x0, x1, x2, x3, x4, x5⟩ := hbd.out _ hx; go_simp; rfl) ?_
      go_simp
      refine sched_take 3 rfl (by kernel_rfl) (by kernel_rfl) (by kernel_rfl) (fun _ _ _ h => h) rfl (fun x hx => by go_simp; rfl) ?_
      go_simp
      refine sched_take 4 rfl (by kernel_rfl) (by kernel_rfl) (by kernel_rfl) (fun _ _ _ h => h) rfl (fun x hx => by obtain ⟨x0, x1, x2, x3, x4, x5⟩ := hbd.out _ hx; go_simp; rfl) ?_
      go_simp
      refine sched_take 6 rfl (by kernel_rfl) (by kernel_rfl) (by kernel_rfl) (fun _ _ _ h => h) rfl (fun x hx => by go_simp; rfl) ?_
      go_simp
      refine sched_take 7 rfl (by kernel_rfl) (by kernel_rfl) (by kernel_rfl) (fun _ _ _ h => h) rfl (fun x hx => by go_simp; rfl) ?_
      go_simp
      refine sched_take 8 rfl (by kernel_rfl) (by kernel_rfl) (by kernel_rfl) (fun _ _ _ h => h) rfl (fun x hx => by obtain ⟨x0, x1, x2, x3, x4, x5⟩ := hbd.out _ hx; go_simp; rfl) ?_
      go_simp
      refine sched_take 9 rfl (by kernel_rfl) (by kernel_rfl) (by kernel_rfl) (fun _ _ _ h => h) rfl (fun x hx => by go_simp; rfl) ?_
      go_simp
      refine sched_take 10 rfl (by kernel_rfl) (by kernel_rfl) (by kernel_rfl) (fun _ _ _ h => h) rfl (fun x hx => by obtain ⟨x0, x1, x2, x3, x4, x5⟩ := hbd.out _ hx; go_simp; rfl) ?_
      go_simp
      refine sched_alone 5 (by kernel_rfl) rfl rfl ?_
      go_simp
      refine (hop.out _ HTd.out).mono ?_
      rintro e w3 ⟨rfl, hT, hu⟩
      refine ⟨hu.mono (fun y _ hy e => by have h1 : y = b := hy; omega), ?_⟩
      have HT3 := Lib.hid hT
      have HR3 := Lib.hid (HRd.out.keep hu (by omega) (fun y hy => .inl (by rw [show y = b from hy]; exact List.mem_cons_of_mem _ hb)))
      have HU3 := Lib.hid (hdu.mono (G := fun x => x = b ∨ x = q ∨ New w0 w xs x) (fun _ _ h => h.elim) |>.trans (hu.mono (fun y _ hy => .inl hy)))
      have hz3 : wd.heap.size ≤ w3.heap.size := hu.size
      have hxs3 : ∀ x ∈ w.heap.size :: xs, x < w3.heap.size := fun x hx => by
        rcases List.mem_cons.1 hx with rfl | hx
        · omega
        · have := hxs x hx
          omega
      clear hT hu
      go_simp
      refine sched_alone 11 (by kernel_rfl) rfl rfl ?_
      go_simp
      refine (hro.out _ HR3.out hxs3 (by omega)).mono ?_
      rintro e w4 ⟨rfl, hR, hu⟩
      have hnF : ∀ y, (y = q ∨ New w0 w3 (w.heap.size :: xs) y) → y ≠ w.heap.size ∧ y ≠ p ∧ y ≠ b := by
        intro y e
        rcases e with e | e
        · omega
        · exact ⟨fun h => e.2.2 (by rw [h]; simp), fun h => e.2.2 (by rw [h]; exact List.mem_cons_of_mem _ hp), fun h => e.2.2 (by rw [h]; exact List.mem_cons_of_mem _ hb)⟩
      refine ⟨hu.mono (fun y _ hy => (hnF y hy).1), ?_⟩
      have HT4 := Lib.hid (HT3.out.keep hu (fun h => (hnF p h).2.1 rfl) (fun h => (hnF b h).2.2 rfl))
      have HR4 := Lib.hid hR.back
      have HU4 := Lib.hid (HU3.out.then hu (fun y hy e => by
        rcases e with e | e
        · exact .inr (.inl e)
        · exact .inr (.inr ⟨e.1, hy, fun hm => e.2.2 (List.mem_cons_of_mem _ hm)⟩)))
      clear hR hu hnF
      go_simp
      refine sched_take 12 rfl (by kernel_rfl) (by kernel_rfl) (by kernel_rfl) (fun _ _ _ h => h) rfl (fun x hx => by go_simp; rfl) ?_
      go_simp
      refine sched_take 13 rfl (by kernel_rfl) (by kernel_rfl) (by kernel_rfl) (fun _ _ _ h => h) rfl (fun x hx => by go_simp; rfl) ?_
      go_simp
      refine sched_done (by kernel_rfl) ?_
      go_wp2_with fail
      go_ret
      exact ⟨rfl, HT4.out, HR4.out, HU4.out⟩
    · skip
      have HTd := Lib.hid (HTa.out.keep (Upd.refl NoB wa).drew (fun h => h) (fun h => h))
      have HRd := Lib.hid (HRa.out.keep (Upd.refl NoB wa).drew (fun h => h) (fun _ h => h.elim))
      have hbd := Lib.hid (fun x (hx : Upd (fun y => y ≠ w.heap.size) wa.drew x) => six_cells (hx.heap (show wa.drew.heap[w.heap.size]? = _ from hB.out) (fun h => h rfl)))
      have hdu : Upd NoB w wa.drew := hua.drew
      have hdz : wa.drew.heap.size = wa.heap.size := rfl
      go_enter Try.func25, Try.ntmps25
      go_wp2_with fail
      refine sched_begin (fun y => y ≠ w.heap.size) (by kernel_rfl) ?_
      generalize wa.drew = wd at *
      refine sched_take 0 rfl (by kernel_rfl) (by kernel_rfl) (by kernel_rfl) (fun _ _ _ h => h) rfl (fun x hx => by go_simp; rfl) ?_
      go_simp
      refine sched_take 1 rfl (by kernel_rfl) (by kernel_rfl) (by kernel_rfl) (fun _ _ _ h => h) rfl (fun x hx => by go_simp; rfl) ?_
      go_simp
      refine sched_take 2 rfl (by kernel_rfl) (by kernel_rfl) (by kernel_rfl) (fun _ _ _ h => h) rfl (fun x hx => by obtain ⟨x0, x1, x2, x3, x4, x5⟩ := hbd.out _ hx; go_simp; rfl) ?_
      go_simp
      refine sched_take 3 rfl (by kernel_rfl) (by kernel_rfl) (by kernel_rfl) (fun _ _ _ h => h) rfl (fun x hx => by go_simp; rfl) ?_
      go_simp
      refine sched_take 4 rfl (by kernel_rfl) (by kernel_rfl) (by kernel_rfl) (fun _ _ _ h => h) rfl (fun x hx => by obtain ⟨x0, x1, x2, x3, x4, x5⟩ := hbd.out _ hx; go_simp; rfl) ?_
      go_simp
      refine sched_take 6 rfl (by kernel_rfl) (by kernel_rfl) (by kernel_rfl) (fun _ _ _ h => h) rfl (fun x hx => by go_simp; rfl) ?_
      go_simp
      refine sched_take 7 rfl (by kernel_rfl) (by kernel_rfl) (by kernel_rfl) (fun _ _ _ h => h) rfl (fun x hx => by go_simp; rfl) ?_
      go_simp
      refine sched_take 8 rfl (by kernel_rfl) (by kernel_rfl) (by kernel_rfl) (fun _ _ _ h => h) rfl (fun x hx => by obtain ⟨x0, x1, x2, x3, x4, x5⟩ := hbd.out _ hx; go_simp; rfl) ?_
      go_simp
      refine sched_take 9 rfl (by kernel_rfl) (by kernel_rfl) (by kernel_rfl) (fun _ _ _ h => h) rfl (fun x hx => by go_simp; rfl) ?_
      go_simp
      refine sched_take 10 rfl (by kernel_rfl) (by kernel_rfl) (by kernel_rfl) (fun _ _ _ h => h) rfl (fun x hx => by obtain ⟨x0, x1, x2, x3, x4, x5⟩ := hbd.out _ hx; go_simp; rfl) ?_
      go_simp
      refine sched_alone 5 (by kernel_rfl) rfl rfl ?_
      go_simp
      refine (hop.out _ HTd.out).mono ?_
      rintro e w3 ⟨rfl, hT, hu⟩
      refine ⟨hu.mono (fun y _ hy e => by have h1 : y = b := hy; omega), ?_⟩
      have HT3 := Lib.hid hT
      have HR3 := Lib.hid (HRd.out.keep hu (by omega) (fun y hy => .inl (by rw [show y = b from hy]; exact List.mem_cons_of_mem _ hb)))
      have HU3 := Lib.hid (hdu.mono (G := fun x => x = b ∨ x = q ∨ New w0 w xs x) (fun _ _ h => h.elim) |>.trans (hu.mono (fun y _ hy => .inl hy)))
      have hz3 : wd.heap.size ≤ w3.heap.size := hu.size
      have hxs3 : ∀ x ∈ w.heap.size :: xs, x < w3.heap.size := fun x hx => by
        rcases List.mem_cons.1 hx with rfl | hx
        · omega
        · have := hxs x hx
          omega
      clear hT hu
      go_simp
      refine sched_alone 11 (by kernel_rfl) rfl rfl ?_
      go_simp
      refine (hro.out _ HR3.out hxs3 (by omega)).mono ?_
      rintro e w4 ⟨rfl, hR, hu⟩
      have hnF : ∀ y, (y = q ∨ New w0 w3 (w.heap.size :: xs) y) → y ≠ w.heap.size ∧ y ≠ p ∧ y ≠ b := by
        intro y e
        rcases e with e | e
        · omega
        · exact ⟨fun h => e.2.2 (by rw [h]; simp), fun h => e.2.2 (by rw [h]; exact List.mem_cons_of_mem _ hp), fun h => e.2.2 (by rw [h]; exact List.mem_cons_of_mem _ hb)⟩
      refine ⟨hu.mono (fun y _ hy => (hnF y hy).1), ?_⟩
      have HT4 := Lib.hid (HT3.out.keep hu (fun h => (hnF p h).2.1 rfl) (fun h => (hnF b h).2.2 rfl))
      have HR4 := Lib.hid hR.back
      have HU4 := Lib.hid (HU3.out.then hu (fun y hy e => by
        rcases e with e | e
        · exact .inr (.inl e)
        · exact .inr (.inr ⟨e.1, hy, fun hm => e.2.2 (List.mem_cons_of_mem _ hm)⟩)))
      clear hR hu hnF
      go_simp
      refine sched_take 12 rfl (by kernel_rfl) (by kernel_rfl) (by kernel_rfl) (fun _ _ _ h => h) rfl (fun x hx => by go_simp; rfl) ?_
      go_simp
      refine sched_take 13 rfl (by kernel_rfl) (by kernel_rfl) (by kernel_rfl) (fun _ _ _ h => h) rfl (fun x hx => by go_simp; rfl) ?_
      go_simp
      refine sched_done (by kernel_rfl) ?_
      go_wp2_with fail
      go_ret
      exact ⟨rfl, HT4.out, HR4.out, HU4.out⟩
  · rw [if_neg hk, if_neg hk]
    have n0 : (kd == 0) = false := by simp; omega
    have n1 : (kd == 1) = false := by simp; omega
    clear hk
    by_cases hk : kd = 2 ∨ kd = 3
    · rw [if_pos hk, if_pos hk]
      have hop := Lib.hid (fun x (h : Tbl x p b m) => show Calls Try.prog 33 #[.pointer (some ⟨p, 0, none⟩), .agg #[.int .i64 c, .int .u64 sq], .int .i64 a, .int .i64 code, .int .u64 num] x fun e w' => e = .returned (.int .i64 (m.may c sq a true)) ∧ Tbl w' p b (m.doneT c sq a code num).2 ∧ Upd (fun y => y = b) x w' from done_any p b m c sq a code num x h hc (by omega))
      have hro := Lib.hid (fun x (h : RSt w0 x (w.heap.size :: xs) q L) (hx : ∀ y ∈ w.heap.size :: xs, y < x.heap.size) (h1 : w0.heap.size ≤ x.heap.size) => rdone_any w0 (w.heap.size :: xs) q L m c sq a code num x h hS.f (List.mem_cons_of_mem _ hq) hx h1 (by omega) hsq)
      generalize (m.doneT c sq a code num).2 = m2 at *
      generalize (if m.may c sq a true = 0 then L ++ [(c, (⟨sq, false, a, code, num⟩ : Slot))] else L) = L2 at *
      generalize m.may c sq a true = E at *
      rcases hk with rfl | rfl
      · clear n0 n1
        have HTd := Lib.hid (HTa.out.keep (Upd.refl NoB wa).drew (fun h => h) (fun h => h))
        have HRd := Lib.hid (HRa.out.keep (Upd.refl NoB wa).drew (fun h => h) (fun _ h => h.elim))
        have hbd := Lib.hid (fun x (hx : Upd (fun y => y ≠ w.heap.size) wa.drew x) => six_cells (hx.heap (show wa.drew.heap[w.heap.size]? = _ from hB.out) (fun h => h rfl)))
        have hdu : Upd NoB w wa.drew := hua.drew
        have hdz : wa.drew.heap.size = wa.heap.size := rfl
        go_enter Try.func25, Try.ntmps25
        go_wp2_with fail
        refine sched_begin (fun y => y ≠ w.heap.size) (by kernel_rfl) ?_
        generalize wa.drew = wd at *
        refine sched_take 0 rfl (by kernel_rfl) (by kernel_rfl) (by kernel_rfl) (fun _ _ _ h => h) rfl (fun x hx => by go_simp; rfl) ?_
        go_simp
        refine sched_take 1 rfl (by kernel_rfl) (by kernel_rfl) (by kernel_rfl) (fun _ _ _ h => h) rfl (fun x hx => by go_simp; rfl) ?_
        go_simp
        refine sched_take 2 rfl (by kernel_rfl) (by kernel_rfl) (by kernel_rfl) (fun _ _ _ h => h) rfl (fun x hx => by obtain ⟨x0, x1, x2, x3, x4, x5⟩ := hbd.out _ hx; go_simp; rfl) ?_
        go_simp
        refine sched_take 3 rfl (by kernel_rfl) (by kernel_rfl) (by kernel_rfl) (fun _ _ _ h => h) rfl (fun x hx => by go_simp; rfl) ?_
        go_simp
        refine sched_take 4 rfl (by kernel_rfl) (by kernel_rfl) (by kernel_rfl) (fun _ _ _ h => h) rfl (fun x hx => by obtain ⟨x0, x1, x2, x3, x4, x5⟩ := hbd.out _ hx; go_simp; rfl) ?_
        go_simp
        refine sched_take 5 rfl (by kernel_rfl) (by kernel_rfl) (by kernel_rfl) (fun _ _ _ h => h) rfl (fun x hx => by go_simp; rfl) ?_
        go_simp
        refine sched_take 6 rfl (by kernel_rfl) (by kernel_rfl) (by kernel_rfl) (fun _ _ _ h => h) rfl (fun x hx => by obtain ⟨x0, x1, x2, x3, x4, x5⟩ := hbd.out _ hx; go_simp; rfl) ?_
        go_simp
        refine sched_take 7 rfl (by kernel_rfl) (by kernel_rfl) (by kernel_rfl) (fun _ _ _ h => h) rfl (fun x hx => by go_simp; rfl) ?_
        go_simp
        refine sched_take 8 rfl (by kernel_rfl) (by kernel_rfl) (by kernel_rfl) (fun _ _ _ h => h) rfl (fun x hx => by obtain ⟨x0, x1, x2, x3, x4, x5⟩ := hbd.out _ hx; go_simp; rfl) ?_
        go_simp
        refine sched_take 10 rfl (by kernel_rfl) (by kernel_rfl) (by kernel_rfl) (fun _ _ _ h => h) rfl (fun x hx => by go_simp; rfl) ?_
        go_simp
        refine sched_take 11 rfl (by kernel_rfl) (by kernel_rfl) (by kernel_rfl) (fun _ _ _ h => h) rfl (fun x hx => by go_simp; rfl) ?_
        go_simp
        refine sched_take 12 rfl (by kernel_rfl) (by kernel_rfl) (by kernel_rfl) (fun _ _ _ h => h) rfl (fun x hx => by obtain ⟨x0, x1, x2, x3, x4, x5⟩ := hbd.out _ hx; go_simp; rfl) ?_
        go_simp
        refine sched_take 13 rfl (by kernel_rfl) (by kernel_rfl) (by kernel_rfl) (fun _ _ _ h => h) rfl (fun x hx => by go_simp; rfl) ?_
        go_simp
        refine sched_take 14 rfl (by kernel_rfl) (by kernel_rfl) (by kernel_rfl) (fun _ _ _ h => h) rfl (fun x hx => by obtain ⟨x0, x1, x2, x3, x4, x5⟩ := hbd.out _ hx; go_simp; rfl) ?_
        go_simp
        refine sched_take 15 rfl (by kernel_rfl) (by kernel_rfl) (by kernel_rfl) (fun _ _ _ h => h) rfl (fun x hx => by go_simp; rfl) ?_
        go_simp
        refine sched_take 16 rfl (by kernel_rfl) (by kernel_rfl) (by kernel_rfl) (fun _ _ _ h => h) rfl (fun x hx => by obtain ⟨x0, x1, x2, x3, x4, x5⟩ := hbd.out _ hx; go_simp; rfl) ?_
        go_simp
        refine sched_take 17 rfl (by kernel_rfl) (by kernel_rfl) (by kernel_rfl) (fun _ _ _ h => h) rfl (fun x hx => by go_simp; rfl) ?_
        go_simp
        refine sched_take 18 rfl (by kernel_rfl) (by kernel_rfl) (by kernel_rfl) (fun _ _ _ h => h) rfl (fun x hx => by obtain ⟨x0, x1, x2, x3, x4, x5⟩ := hbd.out _ hx; go_simp; rfl) ?_
        go_simp
        refine sched_alone 9 (by kernel_rfl) rfl rfl ?_
        go_simp
        refine (hop.out _ HTd.out).mono ?_
        rintro e w3 ⟨rfl, hT, hu⟩
        refine ⟨hu.mono (fun y _ hy e => by have h1 : y = b := hy; omega), ?_⟩
        have HT3 := Lib.hid hT
        have HR3 := Lib.hid (HRd.out.keep hu (by omega) (fun y hy => .inl (by rw [show y = b from hy]; exact List.mem_cons_of_mem _ hb)))
        have HU3 := Lib.hid (hdu.mono (G := fun x => x = b ∨ x = q ∨ New w0 w xs x) (fun _ _ h => h.elim) |>.trans (hu.mono (fun y _ hy => .inl hy)))
        have hz3 : wd.heap.size ≤ w3.heap.size := hu.size
        have hxs3 : ∀ x ∈ w.heap.size :: xs, x < w3.heap.size := fun x hx => by
          rcases List.mem_cons.1 hx with rfl | hx
          · omega
          · have := hxs x hx
            omega
        clear hT hu
        go_simp
        refine sched_alone 19 (by kernel_rfl) rfl rfl ?_
        go_simp
        refine (hro.out _ HR3.out hxs3 (by omega)).mono ?_
        rintro e w4 ⟨rfl, hR, hu⟩
        have hnF : ∀ y, (y = q ∨ New w0 w3 (w.heap.size :: xs) y) → y ≠ w.heap.size ∧ y ≠ p ∧ y ≠ b := by
          intro y e
          rcases e with e | e
          · omega
          · exact ⟨fun h => e.2.2 (by rw [h]; simp), fun h => e.2.2 (by rw [h]; exact List.mem_cons_of_mem _ hp), fun h => e.2.2 (by rw [h]; exact List.mem_cons_of_mem _ hb)⟩
        refine ⟨hu.mono (fun y _ hy => (hnF y hy).1), ?_⟩
        have HT4 := Lib.hid (HT3.out.keep hu (fun h => (hnF p h).2.1 rfl) (fun h => (hnF b h).2.2 rfl))
        have HR4 := Lib.hid hR.back
        have HU4 := Lib.hid (HU3.out.then hu (fun y hy e => by
          rcases e with e | e
          · exact .inr (.inl e)
          · exact .inr (.inr ⟨e.1, hy, fun hm => e.2.2 (List.mem_cons_of_mem _ hm)⟩)))
        clear hR hu hnF
        go_simp
        refine sched_take 20 rfl (by kernel_rfl) (by kernel_rfl) (by kernel_rfl) (fun _ _ _ h => h) rfl (fun x hx => by go_simp; rfl) ?_
        go_simp
        refine sched_take 21 rfl (by kernel_rfl) (by kernel_rfl) (by kernel_rfl) (fun _ _ _ h => h) rfl (fun x hx => by go_simp; rfl) ?_
        go_simp
        refine sched_done (by kernel_rfl) ?_
        go_wp2_with fail
        go_ret
        exact ⟨rfl, HT4.out, HR4.out, HU4.out⟩
      · clear n0 n1
        have HTd := Lib.hid (HTa.out.keep (Upd.refl NoB wa).drew (fun h => h) (fun h => h))
        have HRd := Lib.hid (HRa.out.keep (Upd.refl NoB wa).drew (fun h => h) (fun _ h => h.elim))
        have hbd := Lib.hid (fun x (hx : Upd (fun y => y ≠ w.heap.size) wa.drew x) => six_cells (hx.heap (show wa.drew.heap[w.heap.size]? = _ from hB.out) (fun h => h rfl)))
        have hdu : Upd NoB w wa.drew := hua.drew
        have hdz : wa.drew.heap.size = wa.heap.size := rfl
        go_enter Try.func25, Try.ntmps25
        go_wp2_with fail
        refine sched_begin (fun y => y ≠ w.heap.size) (by kernel_rfl) ?_
        generalize wa.drew = wd at *
        refine sched_take 0 rfl (by kernel_rfl) (by kernel_rfl) (by kernel_rfl) (fun _ _ _ h => h) rfl (fun x hx => by go_simp; rfl) ?_
        go_simp
        refine sched_take 1 rfl (by kernel_rfl) (by kernel_rfl) (by kernel_rfl) (fun _ _ _ h => h) rfl (fun x hx => by go_simp; rfl) ?_
        go_simp
        refine sched_take 2 rfl (by kernel_rfl) (by kernel_rfl) (by kernel_rfl) (fun _ _ _ h => h) rfl (fun x hx => by obtain ⟨x0, x1, x2, x3, x4, x5⟩ := hbd.out _ hx; go_simp; rfl) ?_
        go_simp
        refine sched_take 3 rfl (by kernel_rfl) (by kernel_rfl) (by kernel_rfl) (fun _ _ _ h => h) rfl (fun x hx => by go_simp; rfl) ?_
        go_simp
        refine sched_take 4 rfl (by kernel_rfl) (by kernel_rfl) (by kernel_rfl) (fun _ _ _ h => h) rfl (fun x hx => by obtain ⟨x0, x1, x2, x3, x4, x5⟩ := hbd.out _ hx; go_simp; rfl) ?_
        go_simp
        refine sched_take 5 rfl (by kernel_rfl) (by kernel_rfl) (by kernel_rfl) (fun _ _ _ h => h) rfl (fun x hx => by go_simp; rfl) ?_
        go_simp
        refine sched_take 6 rfl (by kernel_rfl) (by kernel_rfl) (by kernel_rfl) (fun _ _ _ h => h) rfl (fun x hx => by obtain ⟨x0, x1, x2, x3, x4, x5⟩ := hbd.out _ hx; go_simp; rfl) ?_
        go_simp
        refine sched_take 7 rfl (by kernel_rfl) (by kernel_rfl) (by kernel_rfl) (fun _ _ _ h => h) rfl (fun x hx => by go_simp; rfl) ?_
        go_simp
        refine sched_take 8 rfl (by kernel_rfl) (by kernel_rfl) (by kernel_rfl) (fun _ _ _ h => h) rfl (fun x hx => by obtain ⟨x0, x1, x2, x3, x4, x5⟩ := hbd.out _ hx; go_simp; rfl) ?_
        go_simp
        refine sched_take 10 rfl (by kernel_rfl) (by kernel_rfl) (by kernel_rfl) (fun _ _ _ h => h) rfl (fun x hx => by go_simp; rfl) ?_
        go_simp
        refine sched_take 11 rfl (by kernel_rfl) (by kernel_rfl) (by kernel_rfl) (fun _ _ _ h => h) rfl (fun x hx => by go_simp; rfl) ?_
        go_simp
        refine sched_take 12 rfl (by kernel_rfl) (by kernel_rfl) (by kernel_rfl) (fun _ _ _ h => h) rfl (fun x hx => by obtain ⟨x0, x1, x2, x3, x4, x5⟩ := hbd.out _ hx; go_simp; rfl) ?_
        go_simp
        refine sched_take 13 rfl (by kernel_rfl) (by kernel_rfl) (by kernel_rfl) (fun _ _ _ h => h) rfl (fun x hx => by go_simp; rfl) ?_
        go_simp
        refine sched_take 14 rfl (by kernel_rfl) (by kernel_rfl) (by kernel_rfl) (fun _ _ _ h => h) rfl (fun x hx => by obtain ⟨x0, x1, x2, x3, x4, x5⟩ := hbd.out _ hx; go_simp; rfl) ?_
        go_simp
        refine sched_take 15 rfl (by kernel_rfl) (by kernel_rfl) (by kernel_rfl) (fun _ _ _ h => h) rfl (fun x hx => by go_simp; rfl) ?_
        go_simp
        refine sched_take 16 rfl (by kernel_rfl) (by kernel_rfl) (by kernel_rfl) (fun _ _ _ h => h) rfl (fun x hx => by obtain ⟨x0, x1, x2, x3, x4, x5⟩ := hbd.out _ hx; go_simp; rfl) ?_
        go_simp
        refine sched_take 17 rfl (by kernel_rfl) (by kernel_rfl) (by kernel_rfl) (fun _ _ _ h => h) rfl (fun x hx => by go_simp; rfl) ?_
        go_simp
        refine sched_take 18 rfl (by kernel_rfl) (by kernel_rfl) (by kernel_rfl) (fun _ _ _ h => h) rfl (fun x hx => by obtain ⟨x0, x1, x2, x3, x4, x5⟩ := hbd.out _ hx; go_simp; rfl) ?_
        go_simp
        refine sched_alone 9 (by kernel_rfl) rfl rfl ?_
        go_simp
        refine (hop.out _ HTd.out).mono ?_
        rintro e w3 ⟨rfl, hT, hu⟩
        refine ⟨hu.mono (fun y _ hy e => by have h1 : y = b := hy; omega), ?_⟩
        have HT3 := Lib.hid hT
        have HR3 := Lib.hid (HRd.out.keep hu (by omega) (fun y hy => .inl (by rw [show y = b from hy]; exact List.mem_cons_of_mem _ hb)))
        have HU3 := Lib.hid (hdu.mono (G := fun x => x = b ∨ x = q ∨ New w0 w xs x) (fun _ _ h => h.elim) |>.trans (hu.mono (fun y _ hy => .inl hy)))
        have hz3 : wd.heap.size ≤ w3.heap.size := hu.size
        have hxs3 : ∀ x ∈ w.heap.size :: xs, x < w3.heap.size := fun x hx => by
          rcases List.mem_cons.1 hx with rfl | hx
          · omega
          · have := hxs x hx
            omega
        clear hT hu
        go_simp
        refine sched_alone 19 (by kernel_rfl) rfl rfl ?_
        go_simp
        refine (hro.out _ HR3.out hxs3 (by omega)).mono ?_
        rintro e w4 ⟨rfl, hR, hu⟩
        have hnF : ∀ y, (y = q ∨ New w0 w3 (w.heap.size :: xs) y) → y ≠ w.heap.size ∧ y ≠ p ∧ y ≠ b := by
          intro y e
          rcases e with e | e
          · omega
          · exact ⟨fun h => e.2.2 (by rw [h]; simp), fun h => e.2.2 (by rw [h]; exact List.mem_cons_of_mem _ hp), fun h => e.2.2 (by rw [h]; exact List.mem_cons_of_mem _ hb)⟩
        refine ⟨hu.mono (fun y _ hy => (hnF y hy).1), ?_⟩
        have HT4 := Lib.hid (HT3.out.keep hu (fun h => (hnF p h).2.1 rfl) (fun h => (hnF b h).2.2 rfl))
        have HR4 := Lib.hid hR.back
        have HU4 := Lib.hid (HU3.out.then hu (fun y hy e => by
          rcases e with e | e
          · exact .inr (.inl e)
          · exact .inr (.inr ⟨e.1, hy, fun hm => e.2.2 (List.mem_cons_of_mem _ hm)⟩)))
        clear hR hu hnF
        go_simp
        refine sched_take 20 rfl (by kernel_rfl) (by kernel_rfl) (by kernel_rfl) (fun _ _ _ h => h) rfl (fun x hx => by go_simp; rfl) ?_
        go_simp
        refine sched_take 21 rfl (by kernel_rfl) (by kernel_rfl) (by kernel_rfl) (fun _ _ _ h => h) rfl (fun x hx => by go_simp; rfl) ?_
        go_simp
        refine sched_done (by kernel_rfl) ?_
        go_wp2_with fail
        go_ret
        exact ⟨rfl, HT4.out, HR4.out, HU4.out⟩
    · rw [if_neg hk, if_neg hk]
      have n2 : (kd == 2) = false := by simp; omega
      have n3 : (kd == 3) = false := by simp; omega
      clear hk
      go_enter Try.func25, Try.ntmps25
      go_wp2_with fail
      go_ret
      exact ⟨rfl, HTa.out, HRa.out.back, hua.mono (fun _ _ h => h.elim)⟩
set_option maxHeartbeats 4000000 in
set_option maxRecDepth 100000 in
theorem like_any (w0 : World) (xs : List Nat) (p b q : Nat) (m : Tab) (L : List Srw) (c : Int) (w : World) (hT : Tbl w p b m) (hR : RSt w0 w xs q L) (hS : Alike m L) (hc : (Lit.int .i64 c).wf = true) :
    Calls Try.prog 26 #[.pointer (some ⟨p, 0, none⟩), .pointer (some ⟨q, 0, none⟩), .int .i64 c] w fun e w' => e = .returned (.bool true) ∧ Upd NoB w w' := by
  have h1 := Lib.hid (of_any p b m c w hT hc)
  have h2 := fun x (hx : Upd NoB w x) => rof_fn w0 xs q L c x (hR.keep hx (fun h => h) (fun _ h => h.elim))
  rw [← hS.f] at h2
  have h2 := Lib.hid h2
  have hge : (m.f c).getD Slot.zero = m.get c := rfl
  rw [hge] at h2
  clear hT hR hS hge
  generalize m.get c = s at *
  generalize (m.f c).isSome = B at *
  go_enter Try.func26, Try.ntmps26
  go_wp2_with fail
  refine h1.out.mono ?_
  rintro e w1 ⟨rfl, hu⟩
  obtain ⟨wb, hwb⟩ : ∃ wb, w1.alloc (.cells #[.int .u64 s.seq, .bool s.opn, .int .i64 s.at_, .int .i64 s.code, .int .u64 s.num] 61) = wb := ⟨_, rfl⟩
  have hub : Upd NoB w1 wb := by rw [← hwb]; exact (Upd.refl _ _).alloc _
  have hBs := Lib.hid (show wb.heap[w1.heap.size]? = some (.cells #[.int .u64 s.seq, .bool s.opn, .int .i64 s.at_, .int .i64 s.code, .int .u64 s.num] 61 (0, 0)) by rw [← hwb]; exact heap_alloc_new _ _)
  have HUb := Lib.hid (hu.trans hub)
  clear hu hub
  go_wp2_with fail
  refine (h2.out _ HUb.out).mono ?_
  rintro e w2 ⟨oc, rfl, hu⟩
  obtain ⟨z0, z1, z2, z3, z4⟩ := five_cells (hu.heap hBs.out (fun h => h))
  have hz2 : w1.heap.size < w2.heap.size := Nat.lt_of_lt_of_le (lt_of_heap hBs.out) hu.size
  have HU2 := Lib.hid (fun o => (HUb.out.trans hu).alloc o)
  clear hu
  go_wp2_with fail
  go_ret
  exact ⟨rfl, HU2.out _⟩
end Go.Proofs.Ytmcpcladjfddmaa
