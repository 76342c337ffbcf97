/- The document's list of entries, any (3): pieces of it; how much of a piece is there. -/
import Derived.Test.YtobfolkcpfaplaaEnt18
import Derived.Test.YtobfolkcpfaplaaEnt13
namespace Go.Proofs.Ytobfolkcpfaplaa
open Go.RowKit Kit
set_option linter.unusedVariables false
/-- What has been taken of the first k. -/
def refF (l : List Ent) (prev most : Int) (k : Nat) : List Ent := if prev < 0 then [] else ((l.take k).drop prev.toNat).take most.toNat
theorem refF_end (l : List Ent) (prev most : Int) : refF l prev most l.length = fromE l prev most := by
  unfold refF fromE
  rw [List.take_length]
  by_cases h1 : prev < 0
  · rw [if_pos h1, if_pos (.inl h1)]
  · rw [if_neg h1]
    by_cases h2 : (l.length : Int) ≤ prev
    · rw [if_pos (.inr (.inl h2)), List.drop_eq_nil_of_le (by omega)]
      simp
    · by_cases h3 : most < 1
      · rw [if_pos (.inr (.inr h3)), show most.toNat = 0 by omega, List.take_zero]
      · rw [if_neg (by omega)]
theorem refF_zero (l : List Ent) (prev most : Int) : refF l prev most 0 = [] := by
  unfold refF
  split
  · rfl
  · simp
theorem refF_neg {l : List Ent} {prev most : Int} {k : Nat} (h : prev < 0) : refF l prev most (k + 1) = refF l prev most k := by
  unfold refF
  rw [if_pos h, if_pos h]
theorem refF_nat (l : List Ent) (a : Nat) (most : Int) (j : Nat) : refF l a most j = ((l.take j).drop a).take most.toNat := by
  unfold refF
  rw [if_neg (by omega), show (a : Int).toNat = a by omega]
theorem refF_early {l : List Ent} {a k : Nat} {most : Int} (h : k < a) : refF l a most (k + 1) = refF l a most k := by
  rw [refF_nat, refF_nat]
  rw [List.drop_eq_nil_of_le (by rw [List.length_take]; omega), List.drop_eq_nil_of_le (by rw [List.length_take]; omega)]
theorem refF_step {l : List Ent} {a k : Nat} {most : Int} (ha : a ≤ k) (hk : k < l.length) : refF l a most (k + 1) = if ((refF l a most k).length : Int) < most then refF l a most k ++ [l[k]] else refF l a most k := by
  rw [refF_nat, refF_nat, List.take_succ_eq_append_getElem hk, List.drop_append_of_le_length (by rw [List.length_take]; omega)]
  generalize (l.take k).drop a = X
  by_cases h : X.length < most.toNat
  · rw [if_pos (by rw [List.length_take]; omega), List.take_of_length_le (by simp; omega), List.take_of_length_le (by omega)]
  · rw [if_neg (by rw [List.length_take]; omega), List.take_append_of_le_length (by omega)]
theorem refF_len (l : List Ent) (prev most : Int) (k : Nat) : (refF l prev most k).length ≤ l.length := by
  unfold refF
  split
  · simp
  · rw [List.length_take, List.length_drop, List.length_take]; omega
set_option maxHeartbeats 8000000 in
set_option maxRecDepth 100000 in
theorem reffrom_any {F : Nat → Prop} (v : Value) (l : List Ent) (prev most : Int) (w : World) (h : RSl Rep.ent w F v l) (hbF : Bd F w) (hl : l.length ≤ 100000) :
    Calls Try.prog 48 #[v, .int .i64 prev, .int .i64 most] w fun e w' => ∃ v', e = .returned v' ∧ RSl Rep.ent w' (fun b => F b ∨ w.heap.size ≤ b) v' (fromE l prev most) ∧ Upd NoB w w' := by
  have HX := Lib.hid h
  have HBF := Lib.hid hbF
  have HA0 := Lib.hid (show AddA w w F (.slice none 0 0) [] from ⟨OSl.nil _ _ _, Upd.refl _ _, fun b hb => by cases hb⟩)
  obtain ⟨A, c, _, rfl, _⟩ := h
  clear hbF
  go_enter Try.func48, Try.ntmps48
  go_wp2_with fail
  go_loopw [7, 12] (fun x7 x12 wr => ∃ k : Nat, k ≤ l.length ∧ x12 = .int .i64 k ∧ Hid (AddA w wr F x7 (refF l prev most k))) (fun _ x12 _ => l.length - (intOf x12).toNat)
  case atStart => exact ⟨0, by omega, rfl, Lib.hid (by rw [refF_zero]; exact HA0.out)⟩
  case round =>
    clear HA0
    obtain ⟨k, hk, rfl, hM⟩ := hrel
    by_cases hlt : k < l.length
    · obtain ⟨g, o, A1, B1, m1, m2, rfl, hr1, hr2, c0, c1, c2, c3, c4, c5, c6, c7, c8, c9⟩ := ten_at (v := .bool true) HX.out hM.out.upd k hlt
      have hstep := fun (a : Nat) (ha : a ≤ k) => refF_step (most := most) ha hlt
      have hrlen := refF_len l prev most k
      generalize l[k] = x at *
      obtain ⟨wa, hwa⟩ : ∃ wa, wr.alloc (.cells #[.int .u64 x.ep, .int .i64 x.kd, .int .i64 x.tc, .int .u64 x.tq, .bool x.pl, .slice A1 x.rd.length m1, .slice B1 x.wr.length m2, .int .i64 x.ec, .int .u64 x.eq, .int .i64 x.cd] 72) = wa := ⟨_, rfl⟩
      have hua : Upd NoB wr wa := by rw [← hwa]; exact (Upd.refl _ _).alloc _
      have hBa : wa.heap[wr.heap.size]? = some (.cells #[.int .u64 x.ep, .int .i64 x.kd, .int .i64 x.tc, .int .u64 x.tq, .bool x.pl, .slice A1 x.rd.length m1, .slice B1 x.wr.length m2, .int .i64 x.ec, .int .u64 x.eq, .int .i64 x.cd] 72 (0, 0)) := by rw [← hwa]; exact heap_alloc_new _ _
      have HAa := Lib.hid (hM.out.keep hua)
      obtain ⟨A7, n7, _, e7, _⟩ := HAa.out.os.read
      by_cases hp : prev < 0
      · have d1 : decide (0 ≤ prev) = false := decide_eq_false (by omega)
        have hq := Lib.hid (refF_neg (l := l) (most := most) (k := k) hp)
        clear hp hstep hrlen hr1 hr2 hua hBa
        generalize List.length _ = n8 at e7
        subst e7
        go_wp2_with fail
        go_roundw
        case measure => simp [intOf]; omega
        case rel => exact ⟨k + 1, by omega, by go_num, Lib.hid (by rw [hq.out]; exact HAa.out)⟩
      · have d1 : decide (0 ≤ prev) = true := decide_eq_true (by omega)
        obtain ⟨a, rfl⟩ : ∃ a : Nat, prev = a := Int.eq_ofNat_of_zero_le (by omega)
        by_cases ha : a ≤ k
        · have d2 : decide (a ≤ k) = true := decide_eq_true ha
          by_cases hm : ((refF l a most k).length : Int) < most
          · have d3 : decide (((refF l a most k).length : Int) < most) = true := decide_eq_true hm
            have hq := Lib.hid (show refF l a most (k + 1) = refF l a most k ++ [x] by rw [hstep a ha, if_pos hm])
            obtain ⟨y0, y1, y2, y3, y4, y5, y6, y7, y8, y9⟩ := ten_cells hBa
            have HU1 := Lib.hid ((Upd.refl NoB wa).alloc (.cells #[.int .u64 x.ep, .int .i64 x.kd, .int .i64 x.tc, .int .u64 x.tq, .bool x.pl, .slice A1 x.rd.length m1, .slice B1 x.wr.length m2, .int .i64 x.ec, .int .u64 x.eq, .int .i64 x.cd] 72))
            have HA1 := Lib.hid (HAa.out.keep HU1.out)
            have hX1 := Lib.hid (box_ent (heap_alloc_new wa _) (show Rep.ent.rep (wa.alloc (.cells #[.int .u64 x.ep, .int .i64 x.kd, .int .i64 x.tc, .int .u64 x.tq, .bool x.pl, .slice A1 x.rd.length m1, .slice B1 x.wr.length m2, .int .i64 x.ec, .int .u64 x.eq, .int .i64 x.cd] 72)) F x (#[.int .u64 x.ep, .int .i64 x.kd, .int .i64 x.tc, .int .u64 x.tq, .bool x.pl, .slice A1 x.rd.length m1, .slice B1 x.wr.length m2, .int .i64 x.ec, .int .u64 x.eq, .int .i64 x.cd] : Array Value).toList from ⟨_, _, rfl, hr1.upd (hua.trans HU1.out) (fun _ _ h => h), hr2.upd (hua.trans HU1.out) (fun _ _ h => h)⟩))
            have hne := Lib.hid (show u7.ownBlock ≠ some wa.heap.size from fun e => by
              obtain ⟨_, _, hset, _⟩ := HAa.out.os
              have := (hset _ e).2
              omega)
            have hb4 := Lib.hid (show w.heap.size ≤ wa.heap.size ∧ wa.heap.size < (wa.alloc (.cells #[.int .u64 x.ep, .int .i64 x.kd, .int .i64 x.tc, .int .u64 x.tq, .bool x.pl, .slice A1 x.rd.length m1, .slice B1 x.wr.length m2, .int .i64 x.ec, .int .u64 x.eq, .int .i64 x.cd] 72)).heap.size from ⟨HAa.out.upd.size, by simp⟩)
            have HO5 := Lib.hid HA1.out.os
            have HB5 := Lib.hid HA1.out.bd
            have HT5 := Lib.hid (fun cs hc => HA1.out.rows2 (T := F) (fun b hb => ⟨hb, HBF.out b hb⟩) hb4.out hne.out [x] cs hc)
            have hall : ((refF l a most k).length + [x].length) * 112 ≤ 140737488355328 := by simp; omega
            clear hm hstep hrlen hr1 hr2 hua hBa
            generalize refF l a most k = LL at *
            subst e7
            go_wp2_with (at_builtin; go_must (refine app_all2 (r := Rep.ent) (v := .slice A7 LL.length n7) (vy := .slice (some ⟨wa.heap.size, 0, none⟩) 1 1) (l := LL) (l' := [x]) rfl _ _ 56 72 (.agg #[.int .u64 0, .int .i64 0, .int .i64 0, .int .u64 0, .bool false, .slice none 0 0, .slice none 0 0, .int .i64 0, .int .u64 0, .int .i64 0]) 112 rfl Try.underlying56 (iEnt _ (by decide)) rfl (by decide) rfl rfl HO5.out HB5.out hX1.out HT5.out hall ?_))
            intro v2 w9 hat5 ho5 hu5
            have HF := Lib.hid (HA1.out.app (by simpa using hat5) (by simpa using ho5) hu5)
            clear hat5 ho5 hu5 y0 y1 y2 y3 y4 y5 y6 y7 y8 y9
            go_wp2_with fail
            go_roundw
            case measure => simp [intOf]; omega
            case rel => exact ⟨k + 1, by omega, by go_num, Lib.hid (by rw [hq.out]; exact HF.out)⟩
          · have d3 : decide (((refF l a most k).length : Int) < most) = false := decide_eq_false hm
            have hq := Lib.hid (show refF l a most (k + 1) = refF l a most k by rw [hstep a ha, if_neg hm])
            clear hm hstep hrlen hr1 hr2 hua hBa
            generalize hLL : refF l a most k = LL at *
            clear hLL
            subst e7
            go_wp2_with fail
            go_roundw
            case measure => simp [intOf]; omega
            case rel => exact ⟨k + 1, by omega, by go_num, Lib.hid (by rw [hq.out]; exact HAa.out)⟩
        · have d2 : decide (a ≤ k) = false := decide_eq_false ha
          have hq := Lib.hid (refF_early (l := l) (most := most) (show k < a by omega))
          clear ha hstep hrlen hr1 hr2 hua hBa
          generalize List.length _ = n8 at e7
          subst e7
          go_wp2_with fail
          go_roundw
          case measure => simp [intOf]; omega
          case rel => exact ⟨k + 1, by omega, by go_num, Lib.hid (by rw [hq.out]; exact HAa.out)⟩
    · obtain rfl : k = l.length := by omega
      have hF := Lib.hid (show RSl Rep.ent wr (fun b => F b ∨ w.heap.size ≤ b) u7 (fromE l prev most) from by
        have := hM.out.os.read
        rw [refF_end] at this
        exact this.mono (fun b hb => hb.1))
      have HUf := Lib.hid hM.out.upd
      clear hM
      go_wp2_with fail
      go_ret
      exact ⟨_, rfl, hF.out, HUf.out⟩
set_option maxHeartbeats 8000000 in
set_option maxRecDepth 100000 in
theorem refsame_any {F T : Nat → Prop} (v u : Value) (l q : List Ent) (prev : Int) (w : World) (h : RSl Rep.ent w F v l) (hq : RSl Rep.ent w T u q) (hl : l.length ≤ 100000) (hql : q.length ≤ 100000) :
    Calls Try.prog 34 #[v, .int .i64 prev, u] w fun e w' => e = .returned (.int .i64 (sameE l prev q)) ∧ Upd NoB w w' := by
  have hep0 := Lib.hid (fun z i (hz : Upd NoB w z) => refepoch_any v l i z (h.upd hz (fun _ _ h => h)) hl)
  have HQ := Lib.hid hq
  have HU := Lib.hid (Upd.refl NoB w)
  obtain ⟨A, c, _, rfl, _⟩ := h
  obtain ⟨B, d, _, rfl, _⟩ := hq
  unfold sameE
  by_cases h1 : prev < 0
  · rw [if_pos (Or.inl h1)]
    have e1 : decide (prev < 0) = true := decide_eq_true h1
    clear h1
    skip
    go_enter Try.func34, Try.ntmps34
    go_wp2_with fail
    go_ret
    exact ⟨rfl, HU.out⟩
  · have e1 : decide (prev < 0) = false := decide_eq_false h1
    obtain ⟨a, rfl⟩ : ∃ a : Nat, prev = a := Int.eq_ofNat_of_zero_le (by omega)
    clear h1
    by_cases h2 : (l.length : Int) < a
    · rw [if_pos (Or.inr h2)]
      have e2 : decide (l.length < a) = true := decide_eq_true (by omega)
      clear h2
      skip
      go_enter Try.func34, Try.ntmps34
      go_wp2_with fail
      go_ret
      exact ⟨rfl, HU.out⟩
    · rw [if_neg (fun h => h.elim (fun h => by omega) h2)]
      have e2 : decide (l.length < a) = false := decide_eq_false (by omega)
      have ha := Lib.hid (show a ≤ l.length by omega)
      have htn : (a : Int).toNat = a := by omega
      obtain ⟨N, hN0⟩ : ∃ N, sameD (l.drop a) q = N := ⟨_, rfl⟩
      have hN := Lib.hid hN0
      rw [htn, hN0]
      clear h2 htn hN0
      skip
      go_enter Try.func34, Try.ntmps34
      go_wp2_with fail
      go_loopw [19] (fun x19 wr => ∃ k : Nat, k ≤ q.length ∧ a + k ≤ l.length ∧ x19 = .int .i64 k ∧ Hid (k + sameD (l.drop (a + k)) (q.drop k) = N) ∧ Hid (Upd NoB w wr)) (fun x19 _ => q.length - (intOf x19).toNat)
      case atStart => exact ⟨0, by omega, by have := ha.out; omega, rfl, Lib.hid (by have := hN.out; simpa using this), HU⟩
      case round =>
        clear HU
        obtain ⟨k, hk, hak, rfl, hR, hU⟩ := hrel
        have hw0 : IntKind.i64.wrap ((a : Int) + k) = (a : Int) + k := by simp only [IntKind.wrap_i64]; have := ha.out; omega
        have hw1 : IntKind.i64.wrap ((a : Int) + k + 1) = (a : Int) + k + 1 := by simp only [IntKind.wrap_i64]; have := ha.out; omega
        by_cases hlt : k < q.length
        · obtain ⟨g, o, A1, B1, m1, m2, rfl, hr1, hr2, c0, c1, c2, c3, c4, c5, c6, c7, c8, c9⟩ := ten_at (v := .bool true) HQ.out hU.out k hlt
          have hep := Lib.hid (fun z (hz : Upd NoB w z) => hep0.out z ((a : Int) + k + 1) hz)
          by_cases hin : a + k < l.length
          · have dI : decide (l.length ≤ a + k) = false := decide_eq_false (by omega)
            have dJ : decide ((l.length : Int) ≤ (a : Int) + k) = false := decide_eq_false (by omega)
            have hE0 : epE l ((a : Int) + k + 1) = (l[a + k]'hin).ep := by rw [← epE_at hin]; simp
            have hE := Lib.hid hE0
            have hst := sameD_step (List.getElem?_eq_getElem hin) (List.getElem?_eq_getElem hlt)
            generalize l[a + k] = x at *
            generalize q[k] = y at *
            clear hr1 hr2 hE0
            by_cases he : x.ep = y.ep
            · have he1 : (x.ep == y.ep) = true := beq_iff_eq.2 he
              have he2 : (x.ep != y.ep) = false := by rw [bne, he1]; rfl
              have hR2 := Lib.hid (show k + 1 + sameD (l.drop (a + (k + 1))) (q.drop (k + 1)) = N by rw [if_pos he] at hst; have h2 := hR.out; omega)
              clear he hst
              skip
              obtain ⟨wa, hwa⟩ : ∃ wa, wr.alloc (.cells #[.int .u64 y.ep, .int .i64 y.kd, .int .i64 y.tc, .int .u64 y.tq, .bool y.pl, .slice A1 y.rd.length m1, .slice B1 y.wr.length m2, .int .i64 y.ec, .int .u64 y.eq, .int .i64 y.cd] 72) = wa := ⟨_, rfl⟩
              have hua : Upd NoB wr wa := by rw [← hwa]; exact (Upd.refl _ _).alloc _
              have hBa := Lib.hid (show wa.heap[wr.heap.size]? = some (.cells #[.int .u64 y.ep, .int .i64 y.kd, .int .i64 y.tc, .int .u64 y.tq, .bool y.pl, .slice A1 y.rd.length m1, .slice B1 y.wr.length m2, .int .i64 y.ec, .int .u64 y.eq, .int .i64 y.cd] 72 (0, 0)) by rw [← hwa]; exact heap_alloc_new _ _)
              have HUa := Lib.hid (hU.out.trans hua)
              clear hua
              go_wp2_with fail
              clear hwa c0 c1 c2 c3 c4 c5 c6 c7 c8 c9
              generalize wr.heap.size = pb at *
              refine sched_begin NoB (by kernel_rfl) ?_
              have HUd := Lib.hid (Upd.refl NoB wa).drew
              refine sched_take 0 rfl (by kernel_rfl) (by kernel_rfl) (by kernel_rfl) (fun _ _ _ h => h) rfl (fun x hx => by go_simp; rfl) ?_
              go_simp
              refine sched_take 1 rfl (by kernel_rfl) (by kernel_rfl) (by kernel_rfl) (fun _ _ _ h => h) rfl (fun x hx => by go_simp; rfl) ?_
              go_simp
              refine sched_take 2 rfl (by kernel_rfl) (by kernel_rfl) (by kernel_rfl) (fun _ _ _ h => h) rfl (fun x hx => by go_simp; rfl) ?_
              go_simp
              refine sched_take 3 rfl (by kernel_rfl) (by kernel_rfl) (by kernel_rfl) (fun _ _ _ h => h) rfl (fun x hx => by go_simp; rfl) ?_
              go_simp
              refine sched_take 4 rfl (by kernel_rfl) (by kernel_rfl) (by kernel_rfl) (fun _ _ _ h => h) rfl (fun x hx => by go_simp; rfl) ?_
              go_simp
              refine sched_take 6 rfl (by kernel_rfl) (by kernel_rfl) (by kernel_rfl) (fun _ _ _ h => h) rfl (fun x hx => by go_simp; rfl) ?_
              go_simp
              refine sched_take 7 rfl (by kernel_rfl) (by kernel_rfl) (by kernel_rfl) (fun _ _ _ h => h) rfl (fun x hx => by have y0 := (ten_cells (hx.heap (HUd.out.heap hBa.out (fun h => h)) (fun h => h))).1; go_simp; rfl) ?_
              go_simp
              refine sched_alone 5 (by kernel_rfl) rfl rfl ?_
              go_simp
              refine (hep.out _ (HUa.out.trans HUd.out)).mono ?_
              rintro e w2 ⟨rfl, hu⟩
              refine ⟨hu, ?_⟩
              have HU2 := Lib.hid (HUa.out.trans (HUd.out.trans hu))
              clear hu
              rw [hE.out]
              go_simp
              refine sched_take 8 rfl (by kernel_rfl) (by kernel_rfl) (by kernel_rfl) (fun _ _ _ h => h) rfl (fun x hx => by go_simp; rfl) ?_
              go_simp
              refine sched_take 9 rfl (by kernel_rfl) (by kernel_rfl) (by kernel_rfl) (fun _ _ _ h => h) rfl (fun x hx => by go_simp; rfl) ?_
              go_simp
              refine sched_take 10 rfl (by kernel_rfl) (by kernel_rfl) (by kernel_rfl) (fun _ _ _ h => h) rfl (fun x hx => by go_simp; rfl) ?_
              go_simp
              refine sched_take 11 rfl (by kernel_rfl) (by kernel_rfl) (by kernel_rfl) (fun _ _ _ h => h) rfl (fun x hx => by go_simp; rfl) ?_
              go_simp
              refine sched_take 12 rfl (by kernel_rfl) (by kernel_rfl) (by kernel_rfl) (fun _ _ _ h => h) rfl (fun x hx => by go_simp; rfl) ?_
              go_simp
              refine sched_take 13 rfl (by kernel_rfl) (by kernel_rfl) (by kernel_rfl) (fun _ _ _ h => h) rfl (fun x hx => by go_simp; rfl) ?_
              go_simp
              refine sched_take 14 rfl (by kernel_rfl) (by kernel_rfl) (by kernel_rfl) (fun _ _ _ h => h) rfl (fun x hx => by go_simp; rfl) ?_
              go_simp
              refine sched_take 15 rfl (by kernel_rfl) (by kernel_rfl) (by kernel_rfl) (fun _ _ _ h => h) rfl (fun x hx => by go_simp; rfl) ?_
              go_simp
              refine sched_take 16 rfl (by kernel_rfl) (by kernel_rfl) (by kernel_rfl) (fun _ _ _ h => h) rfl (fun x hx => by go_simp; rfl) ?_
              go_simp
              refine sched_done (by kernel_rfl) ?_
              go_wp2_with fail
              go_roundw
              case measure => simp [intOf]; omega
              case rel => exact ⟨k + 1, by omega, by omega, by go_num, hR2, HU2⟩
            · have he1 : (x.ep == y.ep) = false := beq_eq_false_iff_ne.2 he
              have he2 : (x.ep != y.ep) = true := bne_iff_ne.2 he
              have hN2 := Lib.hid (show N = k by rw [if_neg he] at hst; have h2 := hR.out; omega)
              clear he hst
              skip
              obtain ⟨wa, hwa⟩ : ∃ wa, wr.alloc (.cells #[.int .u64 y.ep, .int .i64 y.kd, .int .i64 y.tc, .int .u64 y.tq, .bool y.pl, .slice A1 y.rd.length m1, .slice B1 y.wr.length m2, .int .i64 y.ec, .int .u64 y.eq, .int .i64 y.cd] 72) = wa := ⟨_, rfl⟩
              have hua : Upd NoB wr wa := by rw [← hwa]; exact (Upd.refl _ _).alloc _
              have hBa := Lib.hid (show wa.heap[wr.heap.size]? = some (.cells #[.int .u64 y.ep, .int .i64 y.kd, .int .i64 y.tc, .int .u64 y.tq, .bool y.pl, .slice A1 y.rd.length m1, .slice B1 y.wr.length m2, .int .i64 y.ec, .int .u64 y.eq, .int .i64 y.cd] 72 (0, 0)) by rw [← hwa]; exact heap_alloc_new _ _)
              have HUa := Lib.hid (hU.out.trans hua)
              clear hua
              go_wp2_with fail
              clear hwa c0 c1 c2 c3 c4 c5 c6 c7 c8 c9
              generalize wr.heap.size = pb at *
              refine sched_begin NoB (by kernel_rfl) ?_
              have HUd := Lib.hid (Upd.refl NoB wa).drew
              refine sched_take 0 rfl (by kernel_rfl) (by kernel_rfl) (by kernel_rfl) (fun _ _ _ h => h) rfl (fun x hx => by go_simp; rfl) ?_
              go_simp
              refine sched_take 1 rfl (by kernel_rfl) (by kernel_rfl) (by kernel_rfl) (fun _ _ _ h => h) rfl (fun x hx => by go_simp; rfl) ?_
              go_simp
              refine sched_take 2 rfl (by kernel_rfl) (by kernel_rfl) (by kernel_rfl) (fun _ _ _ h => h) rfl (fun x hx => by go_simp; rfl) ?_
              go_simp
              refine sched_take 3 rfl (by kernel_rfl) (by kernel_rfl) (by kernel_rfl) (fun _ _ _ h => h) rfl (fun x hx => by go_simp; rfl) ?_
              go_simp
              refine sched_take 4 rfl (by kernel_rfl) (by kernel_rfl) (by kernel_rfl) (fun _ _ _ h => h) rfl (fun x hx => by go_simp; rfl) ?_
              go_simp
              refine sched_take 6 rfl (by kernel_rfl) (by kernel_rfl) (by kernel_rfl) (fun _ _ _ h => h) rfl (fun x hx => by go_simp; rfl) ?_
              go_simp
              refine sched_take 7 rfl (by kernel_rfl) (by kernel_rfl) (by kernel_rfl) (fun _ _ _ h => h) rfl (fun x hx => by have y0 := (ten_cells (hx.heap (HUd.out.heap hBa.out (fun h => h)) (fun h => h))).1; go_simp; rfl) ?_
              go_simp
              refine sched_alone 5 (by kernel_rfl) rfl rfl ?_
              go_simp
              refine (hep.out _ (HUa.out.trans HUd.out)).mono ?_
              rintro e w2 ⟨rfl, hu⟩
              refine ⟨hu, ?_⟩
              have HU2 := Lib.hid (HUa.out.trans (HUd.out.trans hu))
              clear hu
              rw [hE.out]
              go_simp
              refine sched_take 8 rfl (by kernel_rfl) (by kernel_rfl) (by kernel_rfl) (fun _ _ _ h => h) rfl (fun x hx => by go_simp; rfl) ?_
              go_simp
              refine sched_take 9 rfl (by kernel_rfl) (by kernel_rfl) (by kernel_rfl) (fun _ _ _ h => h) rfl (fun x hx => by go_simp; rfl) ?_
              go_simp
              refine sched_skip 10 rfl (by kernel_rfl) (by kernel_rfl) (by kernel_rfl) (fun _ _ _ h => h) rfl ?_
              go_simp
              refine sched_skip 11 rfl (by kernel_rfl) (by kernel_rfl) (by kernel_rfl) (fun _ _ _ h => h) rfl ?_
              go_simp
              refine sched_skip 12 rfl (by kernel_rfl) (by kernel_rfl) (by kernel_rfl) (fun _ _ _ h => h) rfl ?_
              go_simp
              refine sched_skip 13 rfl (by kernel_rfl) (by kernel_rfl) (by kernel_rfl) (fun _ _ _ h => h) rfl ?_
              go_simp
              refine sched_skip 14 rfl (by kernel_rfl) (by kernel_rfl) (by kernel_rfl) (fun _ _ _ h => h) rfl ?_
              go_simp
              refine sched_skip 15 rfl (by kernel_rfl) (by kernel_rfl) (by kernel_rfl) (fun _ _ _ h => h) rfl ?_
              go_simp
              refine sched_take 16 rfl (by kernel_rfl) (by kernel_rfl) (by kernel_rfl) (fun _ _ _ h => h) rfl (fun x hx => by go_simp; rfl) ?_
              go_simp
              refine sched_done (by kernel_rfl) ?_
              go_wp2_with fail
              go_ret
              exact ⟨by rw [hN2.out]; rfl, HU2.out⟩
          · have dI : decide (l.length ≤ a + k) = true := decide_eq_true (by omega)
            have dJ : decide ((l.length : Int) ≤ (a : Int) + k) = true := decide_eq_true (by omega)
            have hE := Lib.hid (show epE l ((a : Int) + k + 1) = 0 by unfold epE; rw [if_neg (by omega)])
            have hN2 := Lib.hid (show N = k by have h1 := sameD_end1 (l := l) (q := q) (a := a) (k := k) (by omega); have h2 := hR.out; omega)
            generalize q[k] = y at *
            clear hr1 hr2 hin
            by_cases he : (0 : Int) = y.ep
            · have he1 : ((0 : Int) == y.ep) = true := beq_iff_eq.2 he
              have he2 : ((0 : Int) != y.ep) = false := by rw [bne, he1]; rfl
              clear he
              skip
              obtain ⟨wa, hwa⟩ : ∃ wa, wr.alloc (.cells #[.int .u64 y.ep, .int .i64 y.kd, .int .i64 y.tc, .int .u64 y.tq, .bool y.pl, .slice A1 y.rd.length m1, .slice B1 y.wr.length m2, .int .i64 y.ec, .int .u64 y.eq, .int .i64 y.cd] 72) = wa := ⟨_, rfl⟩
              have hua : Upd NoB wr wa := by rw [← hwa]; exact (Upd.refl _ _).alloc _
              have hBa := Lib.hid (show wa.heap[wr.heap.size]? = some (.cells #[.int .u64 y.ep, .int .i64 y.kd, .int .i64 y.tc, .int .u64 y.tq, .bool y.pl, .slice A1 y.rd.length m1, .slice B1 y.wr.length m2, .int .i64 y.ec, .int .u64 y.eq, .int .i64 y.cd] 72 (0, 0)) by rw [← hwa]; exact heap_alloc_new _ _)
              have HUa := Lib.hid (hU.out.trans hua)
              clear hua
              go_wp2_with fail
              clear hwa c0 c1 c2 c3 c4 c5 c6 c7 c8 c9
              generalize wr.heap.size = pb at *
              refine sched_begin NoB (by kernel_rfl) ?_
              have HUd := Lib.hid (Upd.refl NoB wa).drew
              refine sched_take 0 rfl (by kernel_rfl) (by kernel_rfl) (by kernel_rfl) (fun _ _ _ h => h) rfl (fun x hx => by go_simp; rfl) ?_
              go_simp
              refine sched_take 1 rfl (by kernel_rfl) (by kernel_rfl) (by kernel_rfl) (fun _ _ _ h => h) rfl (fun x hx => by go_simp; rfl) ?_
              go_simp
              refine sched_take 2 rfl (by kernel_rfl) (by kernel_rfl) (by kernel_rfl) (fun _ _ _ h => h) rfl (fun x hx => by go_simp; rfl) ?_
              go_simp
              refine sched_take 3 rfl (by kernel_rfl) (by kernel_rfl) (by kernel_rfl) (fun _ _ _ h => h) rfl (fun x hx => by go_simp; rfl) ?_
              go_simp
              refine sched_take 4 rfl (by kernel_rfl) (by kernel_rfl) (by kernel_rfl) (fun _ _ _ h => h) rfl (fun x hx => by go_simp; rfl) ?_
              go_simp
              refine sched_take 6 rfl (by kernel_rfl) (by kernel_rfl) (by kernel_rfl) (fun _ _ _ h => h) rfl (fun x hx => by go_simp; rfl) ?_
              go_simp
              refine sched_take 7 rfl (by kernel_rfl) (by kernel_rfl) (by kernel_rfl) (fun _ _ _ h => h) rfl (fun x hx => by have y0 := (ten_cells (hx.heap (HUd.out.heap hBa.out (fun h => h)) (fun h => h))).1; go_simp; rfl) ?_
              go_simp
              refine sched_alone 5 (by kernel_rfl) rfl rfl ?_
              go_simp
              refine (hep.out _ (HUa.out.trans HUd.out)).mono ?_
              rintro e w2 ⟨rfl, hu⟩
              refine ⟨hu, ?_⟩
              have HU2 := Lib.hid (HUa.out.trans (HUd.out.trans hu))
              clear hu
              rw [hE.out]
              go_simp
              refine sched_take 8 rfl (by kernel_rfl) (by kernel_rfl) (by kernel_rfl) (fun _ _ _ h => h) rfl (fun x hx => by go_simp; rfl) ?_
              go_simp
              refine sched_take 9 rfl (by kernel_rfl) (by kernel_rfl) (by kernel_rfl) (fun _ _ _ h => h) rfl (fun x hx => by go_simp; rfl) ?_
              go_simp
              refine sched_take 10 rfl (by kernel_rfl) (by kernel_rfl) (by kernel_rfl) (fun _ _ _ h => h) rfl (fun x hx => by go_simp; rfl) ?_
              go_simp
              refine sched_take 11 rfl (by kernel_rfl) (by kernel_rfl) (by kernel_rfl) (fun _ _ _ h => h) rfl (fun x hx => by go_simp; rfl) ?_
              go_simp
              refine sched_take 12 rfl (by kernel_rfl) (by kernel_rfl) (by kernel_rfl) (fun _ _ _ h => h) rfl (fun x hx => by go_simp; rfl) ?_
              go_simp
              refine sched_take 13 rfl (by kernel_rfl) (by kernel_rfl) (by kernel_rfl) (fun _ _ _ h => h) rfl (fun x hx => by go_simp; rfl) ?_
              go_simp
              refine sched_take 14 rfl (by kernel_rfl) (by kernel_rfl) (by kernel_rfl) (fun _ _ _ h => h) rfl (fun x hx => by go_simp; rfl) ?_
              go_simp
              refine sched_take 15 rfl (by kernel_rfl) (by kernel_rfl) (by kernel_rfl) (fun _ _ _ h => h) rfl (fun x hx => by go_simp; rfl) ?_
              go_simp
              refine sched_take 16 rfl (by kernel_rfl) (by kernel_rfl) (by kernel_rfl) (fun _ _ _ h => h) rfl (fun x hx => by go_simp; rfl) ?_
              go_simp
              refine sched_done (by kernel_rfl) ?_
              go_wp2_with fail
              go_ret
              exact ⟨by rw [hN2.out]; rfl, HU2.out⟩
            · have he1 : ((0 : Int) == y.ep) = false := beq_eq_false_iff_ne.2 he
              have he2 : ((0 : Int) != y.ep) = true := bne_iff_ne.2 he
              clear he
              skip
              obtain ⟨wa, hwa⟩ : ∃ wa, wr.alloc (.cells #[.int .u64 y.ep, .int .i64 y.kd, .int .i64 y.tc, .int .u64 y.tq, .bool y.pl, .slice A1 y.rd.length m1, .slice B1 y.wr.length m2, .int .i64 y.ec, .int .u64 y.eq, .int .i64 y.cd] 72) = wa := ⟨_, rfl⟩
              have hua : Upd NoB wr wa := by rw [← hwa]; exact (Upd.refl _ _).alloc _
              have hBa := Lib.hid (show wa.heap[wr.heap.size]? = some (.cells #[.int .u64 y.ep, .int .i64 y.kd, .int .i64 y.tc, .int .u64 y.tq, .bool y.pl, .slice A1 y.rd.length m1, .slice B1 y.wr.length m2, .int .i64 y.ec, .int .u64 y.eq, .int .i64 y.cd] 72 (0, 0)) by rw [← hwa]; exact heap_alloc_new _ _)
              have HUa := Lib.hid (hU.out.trans hua)
              clear hua
              go_wp2_with fail
              clear hwa c0 c1 c2 c3 c4 c5 c6 c7 c8 c9
              generalize wr.heap.size = pb at *
              refine sched_begin NoB (by kernel_rfl) ?_
              have HUd := Lib.hid (Upd.refl NoB wa).drew
              refine sched_take 0 rfl (by kernel_rfl) (by kernel_rfl) (by kernel_rfl) (fun _ _ _ h => h) rfl (fun x hx => by go_simp; rfl) ?_
              go_simp
              refine sched_take 1 rfl (by kernel_rfl) (by kernel_rfl) (by kernel_rfl) (fun _ _ _ h => h) rfl (fun x hx => by go_simp; rfl) ?_
              go_simp
              refine sched_take 2 rfl (by kernel_rfl) (by kernel_rfl) (by kernel_rfl) (fun _ _ _ h => h) rfl (fun x hx => by go_simp; rfl) ?_
              go_simp
              refine sched_take 3 rfl (by kernel_rfl) (by kernel_rfl) (by kernel_rfl) (fun _ _ _ h => h) rfl (fun x hx => by go_simp; rfl) ?_
              go_simp
              refine sched_take 4 rfl (by kernel_rfl) (by kernel_rfl) (by kernel_rfl) (fun _ _ _ h => h) rfl (fun x hx => by go_simp; rfl) ?_
              go_simp
              refine sched_take 6 rfl (by kernel_rfl) (by kernel_rfl) (by kernel_rfl) (fun _ _ _ h => h) rfl (fun x hx => by go_simp; rfl) ?_
              go_simp
              refine sched_take 7 rfl (by kernel_rfl) (by kernel_rfl) (by kernel_rfl) (fun _ _ _ h => h) rfl (fun x hx => by have y0 := (ten_cells (hx.heap (HUd.out.heap hBa.out (fun h => h)) (fun h => h))).1; go_simp; rfl) ?_
              go_simp
              refine sched_alone 5 (by kernel_rfl) rfl rfl ?_
              go_simp
              refine (hep.out _ (HUa.out.trans HUd.out)).mono ?_
              rintro e w2 ⟨rfl, hu⟩
              refine ⟨hu, ?_⟩
              have HU2 := Lib.hid (HUa.out.trans (HUd.out.trans hu))
              clear hu
              rw [hE.out]
              go_simp
              refine sched_take 8 rfl (by kernel_rfl) (by kernel_rfl) (by kernel_rfl) (fun _ _ _ h => h) rfl (fun x hx => by go_simp; rfl) ?_
              go_simp
              refine sched_take 9 rfl (by kernel_rfl) (by kernel_rfl) (by kernel_rfl) (fun _ _ _ h => h) rfl (fun x hx => by go_simp; rfl) ?_
              go_simp
              refine sched_skip 10 rfl (by kernel_rfl) (by kernel_rfl) (by kernel_rfl) (fun _ _ _ h => h) rfl ?_
              go_simp
              refine sched_skip 11 rfl (by kernel_rfl) (by kernel_rfl) (by kernel_rfl) (fun _ _ _ h => h) rfl ?_
              go_simp
              refine sched_skip 12 rfl (by kernel_rfl) (by kernel_rfl) (by kernel_rfl) (fun _ _ _ h => h) rfl ?_
              go_simp
              refine sched_skip 13 rfl (by kernel_rfl) (by kernel_rfl) (by kernel_rfl) (fun _ _ _ h => h) rfl ?_
              go_simp
              refine sched_skip 14 rfl (by kernel_rfl) (by kernel_rfl) (by kernel_rfl) (fun _ _ _ h => h) rfl ?_
              go_simp
              refine sched_skip 15 rfl (by kernel_rfl) (by kernel_rfl) (by kernel_rfl) (fun _ _ _ h => h) rfl ?_
              go_simp
              refine sched_take 16 rfl (by kernel_rfl) (by kernel_rfl) (by kernel_rfl) (fun _ _ _ h => h) rfl (fun x hx => by go_simp; rfl) ?_
              go_simp
              refine sched_done (by kernel_rfl) ?_
              go_wp2_with fail
              go_ret
              exact ⟨by rw [hN2.out]; rfl, HU2.out⟩
        · have hN2 := Lib.hid (show N = q.length by have h1 := sameD_end2 (l := l) (q := q) (a := a) (k := k) (by omega); have h2 := hR.out; omega)
          obtain rfl : k = q.length := by omega
          go_wp2_with fail
          go_ret
          exact ⟨by rw [hN2.out]; rfl, hU.out⟩
end Go.Proofs.Ytobfolkcpfaplaa
