/- A log of entries, any, function by function (4): one that is new; one more; a cut. -/
import Derived.Test.YtobfolkcpfaplaaEnt14
namespace Go.Proofs.Ytobfolkcpfaplaa
open Go.RowKit Kit
set_option linter.unusedVariables false
/-- At block p lies a log; what it owns and reaches lies in S. -/
def Lg (S : Nat → Prop) (w : World) (p : Nat) (l : List Ent) : Prop :=
  (∃ v, w.heap[p]? = some (.cells #[v] 114 (0, 0)) ∧ OSl Rep.ent 65 w S v l) ∧ ¬ S p ∧ Bd S w
theorem Lg.read {S : Nat → Prop} {w : World} {p : Nat} {l : List Ent} (h : Lg S w p l) : Rl S w p l := by
  obtain ⟨⟨v, h1, h2⟩, _⟩ := h
  exact ⟨v, h1, h2.read⟩
theorem Lg.keep {S F : Nat → Prop} {w w' : World} {p : Nat} {l : List Ent} (h : Lg S w p l) (u : Upd F w w') (hp : ¬ F p) (hs : Sep S F) : Lg S w' p l := by
  obtain ⟨⟨v, h1, h2⟩, h3, h4⟩ := h
  exact ⟨⟨v, u.heap h1 hp, h2.upd u hs⟩, h3, h4.upd u⟩
theorem Lg.lt {S : Nat → Prop} {w : World} {p : Nat} {l : List Ent} (h : Lg S w p l) : p < w.heap.size := by
  obtain ⟨⟨v, h1, h2⟩, _⟩ := h
  exact lt_of_heap h1
theorem Lg.new {w w' : World} {p : Nat} (h : ∀ w0 xs, Ll w0 w' xs p []) : Lg NoB w' p [] := by
  obtain ⟨v, h1, h2⟩ := h w' []
  have hv : ∀ k, v.ownBlock = some k → False := fun k hk => by have := h2.new_own k hk; omega
  refine ⟨⟨v, h1, ?_⟩, fun h => h, fun b hb => hb.elim⟩
  obtain ⟨cs, k1, k2, k3⟩ := h2
  have hc : cs = [] := k3
  subst hc
  exact ⟨[], k1, fun k hk => (hv k hk).elim, rfl⟩
set_option maxHeartbeats 8000000 in
set_option maxRecDepth 100000 in
theorem eadd_no {S T : Nat → Prop} (p : Nat) (l : List Ent) (x : Ent) (A B : Option Addr) (c d : Nat) (w : World) (h : Lg S w p l) (h1 : RSl Rep.rd w T (.slice A x.rd.length c) x.rd) (h2 : RSl Rep.wt w T (.slice B x.wr.length d) x.wr) (hsm : x.small) (hq : 0 ≤ x.tq) (hq2 : 0 ≤ x.eq) (hl : l.length < 400)
    (hr : ¬ (rightB x = true ∧ epE l l.length ≤ x.ep)) :
    Calls Try.prog 37 #[.pointer (some ⟨p, 0, none⟩), .agg #[.int .u64 x.ep, .int .i64 x.kd, .int .i64 x.tc, .int .u64 x.tq, .bool x.pl, .slice A x.rd.length c, .slice B x.wr.length d, .int .i64 x.ec, .int .u64 x.eq, .int .i64 x.cd]] w fun e w' => e = .returned (.int .i64 1) ∧ Upd NoB w w' := by
  skip
  have HK := Lib.hid (fun z (hz : Upd NoB w z) => h.read.keep hz)
  obtain ⟨⟨v, h3, h4⟩, hnp, hbd⟩ := id h
  obtain ⟨wa, hwa0⟩ : ∃ wa, w.alloc (.cells #[.int .u64 x.ep, .int .i64 x.kd, .int .i64 x.tc, .int .u64 x.tq, .bool x.pl, .slice A x.rd.length c, .slice B x.wr.length d, .int .i64 x.ec, .int .u64 x.eq, .int .i64 x.cd] 65) = wa := ⟨_, rfl⟩
  have hua : Upd NoB w wa := by rw [← hwa0]; exact (Upd.refl _ _).alloc _
  have hA : wa.heap[w.heap.size]? = some (.cells #[.int .u64 x.ep, .int .i64 x.kd, .int .i64 x.tc, .int .u64 x.tq, .bool x.pl, .slice A x.rd.length c, .slice B x.wr.length d, .int .i64 x.ec, .int .u64 x.eq, .int .i64 x.cd] 65 (0, 0)) := by rw [← hwa0]; exact heap_alloc_new _ _
  have hwa := Lib.hid hwa0
  have H1 := Lib.hid (hua.heap h3 (fun h => h))
  have hb := Lib.hid (fun z (hz : Upd NoB wa z) => ten_cells (hz.heap hA (fun h => h)))
  have hri := Lib.hid (fun z (hz : Upd NoB wa z) => eright_any x A B c d z (h1.upd (hua.trans hz) (fun _ _ h => h)) (h2.upd (hua.trans hz) (fun _ _ h => h)) hsm hq hq2)
  have hco := Lib.hid (fun z (hz : Upd NoB wa z) => ecopied_any x A B c d z (h1.upd (hua.trans hz) (fun _ _ h => h)) (h2.upd (hua.trans hz) (fun _ _ h => h)) hsm)
  have hln := Lib.hid (fun w1 (hu : Upd NoB wa w1) => elen_any p l w1 (HK.out _ (hua.trans hu)))
  have hep := Lib.hid (fun w1 (hu : Upd NoB wa w1) => eepoch_any p l l.length w1 (HK.out _ (hua.trans hu)) (by omega))
  have HO := Lib.hid (fun z (hz : Upd NoB w z) => h4.upd hz (fun _ _ h => h))
  have hown := Lib.hid (fun k (hk : v.ownBlock = some k) => show S k from by obtain ⟨_, _, hset, _⟩ := h4; exact hset k hk)
  have HUa := Lib.hid hua
  have hplt := lt_of_heap h3
  have hslt : w.heap.size < wa.heap.size := lt_of_heap hA
  have hNP := Lib.hid hnp
  have hBD := Lib.hid hbd
  obtain ⟨AA, cc, _, rfl, _⟩ := h4.read
  have d2 : decide ((400 : Int) ≤ l.length) = false := decide_eq_false (by omega)
  have hl2 := Lib.hid hl
  cases hrb : rightB x
  · rw [hrb] at hri
    clear hr hrb
    skip
    clear h h1 h2 h3 h4 hua hA hwa0 hsm hq hq2 hl hnp hbd
    go_enter Try.func37, Try.ntmps37
    go_wp2_with fail
    rw [hwa.out]
    clear hwa
    refine sched_begin NoB (by kernel_rfl) ?_
    have HU0 := Lib.hid (Upd.refl NoB wa).drew
    refine sched_take 0 rfl (by kernel_rfl) (by kernel_rfl) (by kernel_rfl) (fun _ _ _ h => h) rfl (fun x hx => by obtain ⟨y0, y1, y2, y3, y4, y5, y6, y7, y8, y9⟩ := hb.out x (HU0.out.trans hx); go_simp; rfl) ?_
    go_simp
    refine sched_alone 1 (by kernel_rfl) rfl rfl ?_
    go_simp
    refine (hri.out _ HU0.out).mono ?_
    rintro e w1 ⟨rfl, hu⟩
    refine ⟨hu, ?_⟩
    have HU1 := Lib.hid (HU0.out.trans hu)
    clear hu
    go_simp
    refine sched_take 2 rfl (by kernel_rfl) (by kernel_rfl) (by kernel_rfl) (fun _ _ _ h => h) rfl (fun x hx => by go_simp; rfl) ?_
    go_simp
    refine sched_take 3 rfl (by kernel_rfl) (by kernel_rfl) (by kernel_rfl) (fun _ _ _ h => h) rfl (fun x hx => by go_simp; rfl) ?_
    go_simp
    refine sched_skip 4 rfl (by kernel_rfl) (by kernel_rfl) (by kernel_rfl) (fun _ _ _ h => h) rfl ?_
    go_simp
    refine sched_skip 5 rfl (by kernel_rfl) (by kernel_rfl) (by kernel_rfl) (fun _ _ _ h => h) rfl ?_
    go_simp
    refine sched_skip 6 rfl (by kernel_rfl) (by kernel_rfl) (by kernel_rfl) (fun _ _ _ h => h) rfl ?_
    go_simp
    refine sched_skip 7 rfl (by kernel_rfl) (by kernel_rfl) (by kernel_rfl) (fun _ _ _ h => h) rfl ?_
    go_simp
    refine sched_skip 8 rfl (by kernel_rfl) (by kernel_rfl) (by kernel_rfl) (fun _ _ _ h => h) rfl ?_
    go_simp
    refine sched_skip 9 rfl (by kernel_rfl) (by kernel_rfl) (by kernel_rfl) (fun _ _ _ h => h) rfl ?_
    go_simp
    refine sched_skip 10 rfl (by kernel_rfl) (by kernel_rfl) (by kernel_rfl) (fun _ _ _ h => h) rfl ?_
    go_simp
    refine sched_take 11 rfl (by kernel_rfl) (by kernel_rfl) (by kernel_rfl) (fun _ _ _ h => h) rfl (fun x hx => by go_simp; rfl) ?_
    go_simp
    refine sched_take 12 rfl (by kernel_rfl) (by kernel_rfl) (by kernel_rfl) (fun _ _ _ h => h) rfl (fun x hx => by go_simp; rfl) ?_
    go_simp
    refine sched_done (by kernel_rfl) ?_
    go_wp2_with fail
    go_ret
    exact ⟨rfl, HUa.out.trans HU1.out⟩
  · rw [hrb] at hri
    have d1 : decide (x.ep < epE l l.length) = true := decide_eq_true (by
      by_cases hh : epE l l.length ≤ x.ep
      · exact absurd ⟨hrb, hh⟩ hr
      · omega)
    clear hr hrb
    generalize epE l l.length = E at *
    skip
    clear h h1 h2 h3 h4 hua hA hwa0 hsm hq hq2 hl hnp hbd
    go_enter Try.func37, Try.ntmps37
    go_wp2_with fail
    rw [hwa.out]
    clear hwa
    refine sched_begin NoB (by kernel_rfl) ?_
    have HU0 := Lib.hid (Upd.refl NoB wa).drew
    refine sched_take 0 rfl (by kernel_rfl) (by kernel_rfl) (by kernel_rfl) (fun _ _ _ h => h) rfl (fun x hx => by obtain ⟨y0, y1, y2, y3, y4, y5, y6, y7, y8, y9⟩ := hb.out x (HU0.out.trans hx); go_simp; rfl) ?_
    go_simp
    refine sched_alone 1 (by kernel_rfl) rfl rfl ?_
    go_simp
    refine (hri.out _ HU0.out).mono ?_
    rintro e w1 ⟨rfl, hu⟩
    refine ⟨hu, ?_⟩
    have HU1 := Lib.hid (HU0.out.trans hu)
    clear hu
    go_simp
    refine sched_take 2 rfl (by kernel_rfl) (by kernel_rfl) (by kernel_rfl) (fun _ _ _ h => h) rfl (fun x hx => by go_simp; rfl) ?_
    go_simp
    refine sched_take 3 rfl (by kernel_rfl) (by kernel_rfl) (by kernel_rfl) (fun _ _ _ h => h) rfl (fun x hx => by go_simp; rfl) ?_
    go_simp
    refine sched_take 4 rfl (by kernel_rfl) (by kernel_rfl) (by kernel_rfl) (fun _ _ _ h => h) rfl (fun x hx => by obtain ⟨y0, y1, y2, y3, y4, y5, y6, y7, y8, y9⟩ := hb.out x (HU1.out.trans hx); go_simp; rfl) ?_
    go_simp
    refine sched_take 5 rfl (by kernel_rfl) (by kernel_rfl) (by kernel_rfl) (fun _ _ _ h => h) rfl (fun x hx => by obtain ⟨y0, y1, y2, y3, y4, y5, y6, y7, y8, y9⟩ := hb.out x (HU1.out.trans hx); go_simp; rfl) ?_
    go_simp
    refine sched_take 6 rfl (by kernel_rfl) (by kernel_rfl) (by kernel_rfl) (fun _ _ _ h => h) rfl (fun x hx => by obtain ⟨y0, y1, y2, y3, y4, y5, y6, y7, y8, y9⟩ := hb.out x (HU1.out.trans hx); go_simp; rfl) ?_
    go_simp
    refine sched_take 7 rfl (by kernel_rfl) (by kernel_rfl) (by kernel_rfl) (fun _ _ _ h => h) rfl (fun x hx => by obtain ⟨y0, y1, y2, y3, y4, y5, y6, y7, y8, y9⟩ := hb.out x (HU1.out.trans hx); go_simp; rfl) ?_
    go_simp
    refine sched_alone 8 (by kernel_rfl) rfl rfl ?_
    go_simp
    refine (hln.out _ HU1.out).mono ?_
    rintro e w2 ⟨rfl, hu⟩
    refine ⟨hu, ?_⟩
    have HU2 := Lib.hid (HU1.out.trans hu)
    clear hu
    go_simp
    refine sched_alone 9 (by kernel_rfl) rfl rfl ?_
    go_simp
    refine (hep.out _ HU2.out).mono ?_
    rintro e w3 ⟨rfl, hu⟩
    refine ⟨hu, ?_⟩
    have HU3 := Lib.hid (HU2.out.trans hu)
    clear hu
    go_simp
    refine sched_take 10 rfl (by kernel_rfl) (by kernel_rfl) (by kernel_rfl) (fun _ _ _ h => h) rfl (fun x hx => by go_simp; rfl) ?_
    go_simp
    refine sched_take 11 rfl (by kernel_rfl) (by kernel_rfl) (by kernel_rfl) (fun _ _ _ h => h) rfl (fun x hx => by go_simp; rfl) ?_
    go_simp
    refine sched_take 12 rfl (by kernel_rfl) (by kernel_rfl) (by kernel_rfl) (fun _ _ _ h => h) rfl (fun x hx => by go_simp; rfl) ?_
    go_simp
    refine sched_done (by kernel_rfl) ?_
    go_wp2_with fail
    go_ret
    exact ⟨rfl, HUa.out.trans HU3.out⟩
theorem grow_in {S : Nat → Prop} {w w1 : World} (h : w.heap.size ≤ w1.heap.size) (hb : Bd S w) : ∀ b, S b → grow S w w1 b := fun b h' => ⟨.inl h', Nat.lt_of_lt_of_le (hb b h') h⟩
set_option maxHeartbeats 16000000 in
set_option maxRecDepth 100000 in
theorem eadd_ok {S T : Nat → Prop} (p : Nat) (l : List Ent) (x : Ent) (A B : Option Addr) (c d : Nat) (w : World) (h : Lg S w p l) (h1 : RSl Rep.rd w T (.slice A x.rd.length c) x.rd) (h2 : RSl Rep.wt w T (.slice B x.wr.length d) x.wr) (hsm : x.small) (hq : 0 ≤ x.tq) (hq2 : 0 ≤ x.eq) (hl : l.length < 400)
    (hr : rightB x = true) (hle : epE l l.length ≤ x.ep) :
    Calls Try.prog 37 #[.pointer (some ⟨p, 0, none⟩), .agg #[.int .u64 x.ep, .int .i64 x.kd, .int .i64 x.tc, .int .u64 x.tq, .bool x.pl, .slice A x.rd.length c, .slice B x.wr.length d, .int .i64 x.ec, .int .u64 x.eq, .int .i64 x.cd]] w fun e w' => e = .returned (.int .i64 0) ∧ Lg (grow S w w') w' p (l ++ [x]) ∧ Upd (fun b => b = p ∨ S b) w w' := by
  have d1 : decide (x.ep < epE l l.length) = false := decide_eq_false (by omega)
  have HK := Lib.hid (fun z (hz : Upd NoB w z) => h.read.keep hz)
  obtain ⟨⟨v, h3, h4⟩, hnp, hbd⟩ := id h
  obtain ⟨wa, hwa0⟩ : ∃ wa, w.alloc (.cells #[.int .u64 x.ep, .int .i64 x.kd, .int .i64 x.tc, .int .u64 x.tq, .bool x.pl, .slice A x.rd.length c, .slice B x.wr.length d, .int .i64 x.ec, .int .u64 x.eq, .int .i64 x.cd] 65) = wa := ⟨_, rfl⟩
  have hua : Upd NoB w wa := by rw [← hwa0]; exact (Upd.refl _ _).alloc _
  have hA : wa.heap[w.heap.size]? = some (.cells #[.int .u64 x.ep, .int .i64 x.kd, .int .i64 x.tc, .int .u64 x.tq, .bool x.pl, .slice A x.rd.length c, .slice B x.wr.length d, .int .i64 x.ec, .int .u64 x.eq, .int .i64 x.cd] 65 (0, 0)) := by rw [← hwa0]; exact heap_alloc_new _ _
  have hwa := Lib.hid hwa0
  have H1 := Lib.hid (hua.heap h3 (fun h => h))
  have hb := Lib.hid (fun z (hz : Upd NoB wa z) => ten_cells (hz.heap hA (fun h => h)))
  have hri := Lib.hid (fun z (hz : Upd NoB wa z) => eright_any x A B c d z (h1.upd (hua.trans hz) (fun _ _ h => h)) (h2.upd (hua.trans hz) (fun _ _ h => h)) hsm hq hq2)
  have hco := Lib.hid (fun z (hz : Upd NoB wa z) => ecopied_any x A B c d z (h1.upd (hua.trans hz) (fun _ _ h => h)) (h2.upd (hua.trans hz) (fun _ _ h => h)) hsm)
  have hln := Lib.hid (fun w1 (hu : Upd NoB wa w1) => elen_any p l w1 (HK.out _ (hua.trans hu)))
  have hep := Lib.hid (fun w1 (hu : Upd NoB wa w1) => eepoch_any p l l.length w1 (HK.out _ (hua.trans hu)) (by omega))
  have HO := Lib.hid (fun z (hz : Upd NoB w z) => h4.upd hz (fun _ _ h => h))
  have hown := Lib.hid (fun k (hk : v.ownBlock = some k) => show S k from by obtain ⟨_, _, hset, _⟩ := h4; exact hset k hk)
  have HUa := Lib.hid hua
  have hplt := lt_of_heap h3
  have hslt : w.heap.size < wa.heap.size := lt_of_heap hA
  have hNP := Lib.hid hnp
  have hBD := Lib.hid hbd
  obtain ⟨AA, cc, _, rfl, _⟩ := h4.read
  have d2 : decide ((400 : Int) ≤ l.length) = false := decide_eq_false (by omega)
  have hl2 := Lib.hid hl
  rw [hr] at hri
  clear hr hle
  generalize epE l l.length = E at *
  clear h h1 h2 h3 h4 hua hA hwa0 hsm hq hq2 hl hnp hbd
  go_enter Try.func37, Try.ntmps37
  go_wp2_with fail
  rw [hwa.out]
  clear hwa
  refine sched_begin NoB (by kernel_rfl) ?_
  have HU0 := Lib.hid (Upd.refl NoB wa).drew
  refine sched_take 0 rfl (by kernel_rfl) (by kernel_rfl) (by kernel_rfl) (fun _ _ _ h => h) rfl (fun x hx => by obtain ⟨y0, y1, y2, y3, y4, y5, y6, y7, y8, y9⟩ := hb.out x (HU0.out.trans hx); go_simp; rfl) ?_
  go_simp
  refine sched_alone 1 (by kernel_rfl) rfl rfl ?_
  go_simp
  refine (hri.out _ HU0.out).mono ?_
  rintro e w1 ⟨rfl, hu⟩
  refine ⟨hu, ?_⟩
  have HU1 := Lib.hid (HU0.out.trans hu)
  clear hu
  go_simp
  refine sched_take 2 rfl (by kernel_rfl) (by kernel_rfl) (by kernel_rfl) (fun _ _ _ h => h) rfl (fun x hx => by go_simp; rfl) ?_
  go_simp
  refine sched_take 3 rfl (by kernel_rfl) (by kernel_rfl) (by kernel_rfl) (fun _ _ _ h => h) rfl (fun x hx => by go_simp; rfl) ?_
  go_simp
  refine sched_take 4 rfl (by kernel_rfl) (by kernel_rfl) (by kernel_rfl) (fun _ _ _ h => h) rfl (fun x hx => by obtain ⟨y0, y1, y2, y3, y4, y5, y6, y7, y8, y9⟩ := hb.out x (HU1.out.trans hx); go_simp; rfl) ?_
  go_simp
  refine sched_take 5 rfl (by kernel_rfl) (by kernel_rfl) (by kernel_rfl) (fun _ _ _ h => h) rfl (fun x hx => by obtain ⟨y0, y1, y2, y3, y4, y5, y6, y7, y8, y9⟩ := hb.out x (HU1.out.trans hx); go_simp; rfl) ?_
  go_simp
  refine sched_take 6 rfl (by kernel_rfl) (by kernel_rfl) (by kernel_rfl) (fun _ _ _ h => h) rfl (fun x hx => by obtain ⟨y0, y1, y2, y3, y4, y5, y6, y7, y8, y9⟩ := hb.out x (HU1.out.trans hx); go_simp; rfl) ?_
  go_simp
  refine sched_take 7 rfl (by kernel_rfl) (by kernel_rfl) (by kernel_rfl) (fun _ _ _ h => h) rfl (fun x hx => by obtain ⟨y0, y1, y2, y3, y4, y5, y6, y7, y8, y9⟩ := hb.out x (HU1.out.trans hx); go_simp; rfl) ?_
  go_simp
  refine sched_alone 8 (by kernel_rfl) rfl rfl ?_
  go_simp
  refine (hln.out _ HU1.out).mono ?_
  rintro e w2 ⟨rfl, hu⟩
  refine ⟨hu, ?_⟩
  have HU2 := Lib.hid (HU1.out.trans hu)
  clear hu
  go_simp
  refine sched_alone 9 (by kernel_rfl) rfl rfl ?_
  go_simp
  refine (hep.out _ HU2.out).mono ?_
  rintro e w3 ⟨rfl, hu⟩
  refine ⟨hu, ?_⟩
  have HU3 := Lib.hid (HU2.out.trans hu)
  clear hu
  go_simp
  refine sched_take 10 rfl (by kernel_rfl) (by kernel_rfl) (by kernel_rfl) (fun _ _ _ h => h) rfl (fun x hx => by go_simp; rfl) ?_
  go_simp
  refine sched_take 11 rfl (by kernel_rfl) (by kernel_rfl) (by kernel_rfl) (fun _ _ _ h => h) rfl (fun x hx => by go_simp; rfl) ?_
  go_simp
  refine sched_take 12 rfl (by kernel_rfl) (by kernel_rfl) (by kernel_rfl) (fun _ _ _ h => h) rfl (fun x hx => by go_simp; rfl) ?_
  go_simp
  refine sched_done (by kernel_rfl) ?_
  go_wp2_with fail
  refine (hln.out _ HU3.out).mono ?_
  rintro e w4 ⟨rfl, hu⟩
  have HU4 := Lib.hid (HU3.out.trans hu)
  clear hu
  go_wp2_with fail
  refine sched2_begin (fun b => (Value.slice AA l.length cc).ownBlock = some b) (fun b => b = p ∨ (Value.slice AA l.length cc).ownBlock = some b) [11] (by kernel_rfl) ?_
  have HU4d := Lib.hid HU4.out.drew
  have hP0 := Lib.hid (one_cell (HU4d.out.heap H1.out (fun h => h)))
  have hB0 := Lib.hid (hb.out _ HU4d.out)
  have hnp : ¬ (Value.slice AA l.length cc).ownBlock = some p := fun e => hNP.out (hown.out p e)
  have hns : ¬ (Value.slice AA l.length cc).ownBlock = some w.heap.size := fun e => by have := hBD.out _ (hown.out _ e); omega
  generalize hwd : w4.drew = wd at *
  clear hwd
  refine sched2_take 0 rfl (by kernel_rfl) (by kernel_rfl) (by kernel_rfl) (by kernel_rfl) (by kernel_rfl) (fun _ _ _ h => h) (.inl ⟨rfl, fun x hx => by go_simp; rfl⟩) ?_
  go_simp
  refine sched2_take 1 rfl (by kernel_rfl) (by kernel_rfl) (by kernel_rfl) (by kernel_rfl) (by kernel_rfl) (fun _ _ _ h => h) (.inl ⟨rfl, fun x hx => by go_simp; rfl⟩) ?_
  go_simp
  refine sched2_take 2 rfl (by kernel_rfl) (by kernel_rfl) (by kernel_rfl) (by kernel_rfl) (by kernel_rfl) (fun _ _ _ h => h) (.inl ⟨rfl, fun x hx => by go_simp; rfl⟩) ?_
  go_simp
  refine sched2_take 3 rfl (by kernel_rfl) (by kernel_rfl) (by kernel_rfl) (by kernel_rfl) (by kernel_rfl) (fun _ _ _ h => h) (.inl ⟨rfl, fun x hx => by go_simp; rfl⟩) ?_
  go_simp
  refine sched2_take 4 rfl (by kernel_rfl) (by kernel_rfl) (by kernel_rfl) (by kernel_rfl) (by kernel_rfl) (fun _ _ _ h => h) (.inl ⟨rfl, fun x hx => by have hcx := hx.cell hP0.out hnp; go_simp; rfl⟩) ?_
  go_simp
  refine sched2_take 5 rfl (by kernel_rfl) (by kernel_rfl) (by kernel_rfl) (by kernel_rfl) (by kernel_rfl) (fun _ _ _ h => h) (.inl ⟨rfl, fun x hx => by obtain ⟨y0, y1, y2, y3, y4, y5, y6, y7, y8, y9⟩ := hB0.out; replace y0 := hx.cell y0 hns; replace y1 := hx.cell y1 hns; replace y2 := hx.cell y2 hns; replace y3 := hx.cell y3 hns; replace y4 := hx.cell y4 hns; replace y5 := hx.cell y5 hns; replace y6 := hx.cell y6 hns; replace y7 := hx.cell y7 hns; replace y8 := hx.cell y8 hns; replace y9 := hx.cell y9 hns; go_simp; rfl⟩) ?_
  go_simp
  refine sched2_alone 6 (by kernel_rfl) rfl rfl ?_
  go_simp
  refine (hco.out _ HU4d.out).mono ?_
  rintro e w6 ⟨cs, rfl, hre, hu⟩
  refine ⟨both (hu.mono (fun _ _ h => h.elim)) (fun _ h => .inr h), ?_⟩
  have HU6 := Lib.hid (HU4d.out.trans hu)
  have HWS := Lib.hid HUa.out.size
  have HZ4 := Lib.hid (show w.heap.size ≤ wd.heap.size from Nat.le_trans HUa.out.size HU4d.out.size)
  have HY := Lib.hid (show Rep.ent.rep w6 (grow NoB w w6) x cs.toList from Rep.ent_mono hre (fun b hb => grow_early HZ4.out b hb))
  obtain ⟨A2, B2, n1, n2, rfl, _⟩ := ent_agg hre
  clear hu hre
  go_simp
  refine sched2_alone 7 (by kernel_rfl) rfl rfl ?_
  go_simp
  refine ⟨both ((Upd.refl _ _).alloc _) (fun _ h => .inr h), ?_⟩
  go_simp
  have hz6 := HU6.out.size
  have HO7 := Lib.hid ((HO.out w6 (HUa.out.trans HU6.out)).mono (grow_in (HUa.out.trans HU6.out).size hBD.out))
  have HB7 := Lib.hid (Bd.grow S w w6)
  have HT7 := Lib.hid (fun b (hb : grow NoB w w6 b) => show grow S w w6 b ∧ (Value.slice AA l.length cc).ownBlock ≠ some b from ⟨⟨.inr (grow_old hb).1, hb.2⟩, fun e => by have := hBD.out _ (hown.out _ e); have := (grow_old hb).1; omega⟩)
  have hall : (l.length + 1) * 112 ≤ 140737488355328 := by have := hl2.out; omega
  refine sched2_law 8 (by kernel_rfl) rfl rfl ?_
  go_simp
  at_builtin
  refine app_one' (r := Rep.ent) (v := .slice AA l.length cc) (y := x) rfl _ _ 59 65 (.agg #[.int .u64 0, .int .i64 0, .int .i64 0, .int .u64 0, .bool false, .slice none 0 0, .slice none 0 0, .int .i64 0, .int .u64 0, .int .i64 0]) 112 rfl Try.underlying59 (iEnt _ (by decide)) rfl (by decide) rfl rfl HO7.out HB7.out HY.out HT7.out hall ?_
  intro v1 w9 ho2 hu2 hu3
  refine law_done ⟨both hu3 (fun _ h => .inr h), ?_⟩
  have HN := Lib.hid (ho2.mono (fun b hb => show grow S w w9 b from ⟨hb.1.elim (fun h => h.1) (fun h => .inr (by have := (HUa.out.trans HU6.out).size; omega)), hb.2⟩))
  have HU9 := Lib.hid hu2
  have g1 := hu2.heap (HU6.out.heap H1.out (fun h => h)) hnp
  have G1 := Lib.hid g1
  have f0 : w9.frozen? ⟨p, 0, none⟩ = false := by simp [World.frozen?, g1]
  have k0 : w9.cell? ⟨p, 0, none⟩ = some (.slice AA l.length cc) := one_cell g1
  obtain ⟨A1, c1, _, e1, _⟩ := HN.out.read
  rw [List.length_append, List.length_singleton] at e1
  subst e1
  clear ho2 hu2 hu3 g1
  go_simp
  refine sched2_take 9 rfl (by kernel_rfl) (by kernel_rfl) (by kernel_rfl) (by kernel_rfl) (by kernel_rfl) (fun _ _ _ h => h) (.inl ⟨rfl, fun x hx => by go_simp; rfl⟩) ?_
  go_simp
  refine sched2_take 10 rfl (by kernel_rfl) (by kernel_rfl) (by kernel_rfl) (by kernel_rfl) (by kernel_rfl) (fun _ _ _ h => h) (.inl ⟨rfl, fun x hx => by go_simp; rfl⟩) ?_
  go_simp
  refine sched2_alone 11 (by kernel_rfl) rfl rfl ?_
  go_simp
  refine ⟨⟨((Upd.refl _ w9).setCell (p := ⟨p, 0, none⟩) (fun _ => .inl rfl) _), fun hn => ?_⟩, ?_⟩
  · have := hn 11 (by simp)
    simp at this
  go_simp
  refine sched2_done (by kernel_rfl) ?_
  have G2 := Lib.hid (heap_put G1.out 0 (.slice A1 (l.length + 1) c1))
  have U10 := Lib.hid ((Upd.refl (fun b => b = p) w9).setCell (p := ⟨p, 0, none⟩) (fun _ => rfl) (.slice A1 (l.length + 1) c1))
  have hgp := Lib.hid (fun (y : World) (e : grow S w y p) => show False from e.1.elim hNP.out (fun h => by omega))
  go_wp2_with fail
  go_ret
  refine ⟨rfl, ⟨⟨_, by simpa using G2.out, (HN.out.upd U10.out (fun b hb e => by have e' : b = p := e; subst e'; exact hgp.out _ hb)).mono (fun b hb => ⟨hb.1, by simpa [World.setCell] using hb.2⟩)⟩, fun e => hgp.out _ e, Bd.grow _ _ _⟩, ?_⟩
  refine (((HUa.out.trans HU6.out).mono (fun _ _ h => h.elim)).then HU9.out (fun i hi e => ?_)).then U10.out (fun i hi e => .inl e)
  exact .inr (hown.out i e)
end Go.Proofs.Ytobfolkcpfaplaa
