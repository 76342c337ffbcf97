/- A log of entries that end something, function by function (4): does a piece fit; how much of it is there. -/
import Derived.Test.YtobfolkcpfaplaaLink3
import Derived.Deep.Cut
namespace Go.Proofs.Ytobfolkcpfaplaa
open Go.RowKit Kit
set_option linter.unusedVariables false
/-- Does a piece behind prev fit? -/
def fitB (l : List Fin) (prev ep : Int) : Bool := decide (0 ≤ prev) && (decide (prev ≤ (l.length : Int)) && (epL l prev == ep))
set_option maxHeartbeats 1000000 in
theorem fits_any (w0 : World) (xs : List Nat) (p : Nat) (l : List Fin) (prev ep : Int) (w : World) (h : Ll w0 w xs p l) (hl : l.length ≤ 100000) :
    Calls Try.prog 32 #[.pointer (some ⟨p, 0, none⟩), .int .i64 prev, .int .u64 ep] w fun e w' => e = .returned (.bool (fitB l prev ep)) ∧ Upd NoB w w' := by
  have hln := Lib.hid (len_any w0 xs p l w h)
  have hep := Lib.hid (fun w1 (hu : Upd NoB w w1) => epoch_any w0 xs p l prev w1 (h.keep hu (fun h => h) (fun _ h => h.elim)) hl)
  have HU := Lib.hid (Upd.refl NoB w)
  unfold fitB
  generalize epL l prev = E at *
  clear h
  by_cases h1 : 0 ≤ prev
  · have e1 : decide (0 ≤ prev) = true := decide_eq_true h1
    rw [e1, Bool.true_and]
    clear h1
    by_cases h2 : prev ≤ (l.length : Int)
    · have e2 : decide (prev ≤ (l.length : Int)) = true := decide_eq_true h2
      rw [e2, Bool.true_and]
      clear h2
      skip
      go_enter Try.func32, Try.ntmps32
      go_wp2_with fail
      refine hln.out.mono ?_
      rintro e w1 ⟨rfl, hu⟩
      have HU1 := Lib.hid hu
      clear hu
      go_wp2_with fail
      refine (hep.out _ HU1.out).mono ?_
      rintro e w2 ⟨rfl, hu⟩
      have HU2 := Lib.hid (HU1.out.trans hu)
      clear hu
      go_wp2_with fail
      go_ret
      exact ⟨rfl, HU2.out⟩
    · have e2 : decide (prev ≤ (l.length : Int)) = false := decide_eq_false h2
      rw [e2, Bool.false_and]
      clear h2
      skip
      go_enter Try.func32, Try.ntmps32
      go_wp2_with fail
      refine hln.out.mono ?_
      rintro e w1 ⟨rfl, hu⟩
      have HU1 := Lib.hid hu
      clear hu
      go_wp2_with fail
      go_ret
      exact ⟨rfl, HU1.out⟩
  · have e1 : decide (0 ≤ prev) = false := decide_eq_false h1
    rw [e1, Bool.false_and]
    clear h1
    skip
    go_enter Try.func32, Try.ntmps32
    go_wp2_with fail
    go_ret
    exact ⟨rfl, HU.out⟩
theorem fits_nil (prev ep : Int) (w : World) : Calls Try.prog 32 #[.pointer none, .int .i64 prev, .int .u64 ep] w fun e w' => e = .returned (.bool false) ∧ Upd NoB w w' := by
  have HU := Lib.hid (Upd.refl NoB w)
  skip
  go_enter Try.func32, Try.ntmps32
  go_wp2_with fail
  go_ret
  exact ⟨rfl, HU.out⟩
/-- How many of q stand in l already, behind its first prev ones? -/
def sameC : List Fin → List Fin → Nat
  | x :: l, y :: q => if x.ep = y.ep then sameC l q + 1 else 0
  | _, _ => 0
def sameN (l : List Fin) (prev : Int) (q : List Fin) : Nat := if prev < 0 ∨ (l.length : Int) < prev then 0 else sameC (l.drop prev.toNat) q
theorem sameC_step {l q : List Fin} {x y : Fin} {a k : Nat} (hx : l[a + k]? = some x) (hy : q[k]? = some y) : sameC (l.drop (a + k)) (q.drop k) = if x.ep = y.ep then sameC (l.drop (a + (k + 1))) (q.drop (k + 1)) + 1 else 0 := by
  obtain ⟨h1, rfl⟩ := List.getElem?_eq_some_iff.1 hx
  obtain ⟨h2, rfl⟩ := List.getElem?_eq_some_iff.1 hy
  rw [List.drop_eq_getElem_cons h1, List.drop_eq_getElem_cons h2]
  simp only [sameC]
  rfl
theorem sameC_end1 {l q : List Fin} {a k : Nat} (h : l.length ≤ a + k) : sameC (l.drop (a + k)) (q.drop k) = 0 := by
  rw [List.drop_eq_nil_of_le h]
  cases q.drop k <;> rfl
theorem sameC_end2 {l q : List Fin} {a k : Nat} (h : q.length ≤ k) : sameC (l.drop (a + k)) (q.drop k) = 0 := by
  rw [List.drop_eq_nil_of_le h]
  cases l.drop (a + k) <;> rfl
theorem epL_at {l : List Fin} {k : Nat} (h : k < l.length) : epL l ((k : Int) + 1) = (l[k]'h).ep := by
  unfold epL
  rw [if_pos (by omega), show (((k : Int) + 1).toNat - 1) = k by omega, List.getD_eq_getElem?_getD, List.getElem?_eq_getElem h]
  rfl
set_option maxHeartbeats 4000000 in
set_option maxRecDepth 100000 in
theorem same_any {S : Nat → Prop} (w0 : World) (xs : List Nat) (p : Nat) (l q : List Fin) (v : Value) (prev : Int) (w : World) (h : Ll w0 w xs p l) (hq : RSl Rep.fin w S v q) (hl : l.length ≤ 100000) (hql : q.length ≤ 100000) :
    Calls Try.prog 33 #[.pointer (some ⟨p, 0, none⟩), .int .i64 prev, v] w fun e w' => e = .returned (.int .i64 (sameN l prev q)) ∧ Upd NoB w w' := by
  have HK := Lib.hid (fun w1 (hu : Upd NoB w w1) => h.keep hu (fun h => h) (fun _ h => h.elim))
  have hln := Lib.hid (len_any w0 xs p l w h)
  have hhas := Lib.hid (fun w1 (i : Int) (hu : Upd NoB w w1) => has_of _ _ i w1 (fun _ _ => trivial) (len_any w0 xs p l w1 (HK.out w1 hu)))
  have hep := Lib.hid (fun w1 (i : Int) (hu : Upd NoB w w1) => epoch_any w0 xs p l i w1 (HK.out w1 hu) hl)
  have HQ := Lib.hid hq
  have HU := Lib.hid (Upd.refl NoB w)
  obtain ⟨A, c, _, rfl, _⟩ := hq
  clear h
  unfold sameN
  by_cases h1 : prev < 0
  · rw [if_pos (Or.inl h1)]
    have e1 : decide (prev < 0) = true := decide_eq_true h1
    clear h1
    skip
    go_enter Try.func33, Try.ntmps33
    go_wp2_with fail
    go_ret
    exact ⟨rfl, HU.out⟩
  · have e1 : decide (prev < 0) = false := decide_eq_false h1
    obtain ⟨a, rfl⟩ : ∃ a : Nat, prev = a := Int.eq_ofNat_of_zero_le (by omega)
    clear h1
    by_cases h2 : (l.length : Int) < a
    · rw [if_pos (Or.inr h2)]
      have e2 : decide (l.length < a) = true := decide_eq_true (by omega)
      clear h2
      skip
      go_enter Try.func33, Try.ntmps33
      go_wp2_with fail
      refine hln.out.mono ?_
      rintro e w1 ⟨rfl, hu⟩
      have HU1 := Lib.hid hu
      clear hu
      go_wp2_with fail
      go_ret
      exact ⟨rfl, HU1.out⟩
    · rw [if_neg (fun h => h.elim (fun h => by omega) h2)]
      have e2 : decide (l.length < a) = false := decide_eq_false (by omega)
      have ha := Lib.hid (show a ≤ l.length by omega)
      have htn : (a : Int).toNat = a := by omega
      obtain ⟨N, hN0⟩ : ∃ N, sameC (l.drop a) q = N := ⟨_, rfl⟩
      have hN := Lib.hid hN0
      rw [htn, hN0]
      clear h2 htn hN0
      skip
      go_enter Try.func33, Try.ntmps33
      go_wp2_with fail
      refine hln.out.mono ?_
      rintro e w0' ⟨rfl, hu⟩
      have HU1 := Lib.hid hu
      clear hu
      go_wp2_with fail
      go_loopw [7] (fun x7 wr => ∃ k : Nat, k ≤ q.length ∧ a + k ≤ l.length ∧ x7 = .int .i64 k ∧ Hid (k + sameC (l.drop (a + k)) (q.drop k) = N) ∧ Hid (Upd NoB w wr)) (fun x7 _ => q.length - (intOf x7).toNat)
      case atStart => exact ⟨0, by omega, by have := ha.out; omega, rfl, Lib.hid (by have := hN.out; simpa using this), HU1⟩
      case round =>
        obtain ⟨k, hk, hak, rfl, hR, hU⟩ := hrel
        have hw0 : IntKind.i64.wrap ((a : Int) + k) = (a : Int) + k := by simp only [IntKind.wrap_i64]; have := ha.out; omega
        have hw1 : IntKind.i64.wrap ((a : Int) + k + 1) = (a : Int) + k + 1 := by simp only [IntKind.wrap_i64]; have := ha.out; omega
        by_cases hlt : k < q.length
        · have e3 : decide (k < q.length) = true := decide_eq_true hlt
          by_cases hin : a + k < l.length
          · have hB := Lib.hid (decide_eq_true (show 1 ≤ (a : Int) + k + 1 ∧ (a : Int) + k + 1 ≤ (l.length : Int) by omega))
            have hE : epL l ((a : Int) + k + 1) = (l[a + k]'hin).ep := by rw [← epL_at hin]; simp
            have hst := sameC_step (List.getElem?_eq_getElem hin) (List.getElem?_eq_getElem hlt)
            obtain ⟨g, o, cs, rfl, hr, hc, _⟩ := HQ.out.cellN k hlt
            have hr' : cs = finC (q[k]'hlt) := hr
            subst hr'
            have c1 := hc 0 _ rfl
            rw [show Rep.fin.sz = 10 from rfl, Nat.add_zero] at c1
            have C1 := Lib.hid c1
            have hE' := Lib.hid hE
            have hst' := Lib.hid hst
            generalize l[a + k] = x at *
            generalize q[k] = y at *
            clear hr hc c1 hE hst
            by_cases he : x.ep = y.ep
            · have he' : (x.ep == y.ep) = true := by simp [he]
              have hR' := Lib.hid (show k + 1 + sameC (l.drop (a + (k + 1))) (q.drop (k + 1)) = N by have h1 := hst'.out; rw [if_pos he] at h1; have h2 := hR.out; omega)
              clear he
              go_wp2_with fail
              refine sched_begin NoB (by kernel_rfl) ?_
              have HUr := Lib.hid hU.out.drew
              refine sched_take 0 rfl (by kernel_rfl) (by kernel_rfl) (by kernel_rfl) (fun _ _ _ h => h) rfl (fun x hx => by go_simp; rfl) ?_
              go_simp
              refine sched_take 1 rfl (by kernel_rfl) (by kernel_rfl) (by kernel_rfl) (fun _ _ _ h => h) rfl (fun x hx => by go_simp; rfl) ?_
              go_simp
              refine sched_take 2 rfl (by kernel_rfl) (by kernel_rfl) (by kernel_rfl) (fun _ _ _ h => h) rfl (fun x hx => by go_simp; rfl) ?_
              go_simp
              refine sched_take 3 rfl (by kernel_rfl) (by kernel_rfl) (by kernel_rfl) (fun _ _ _ h => h) rfl (fun x hx => by go_simp; rfl) ?_
              go_simp
              refine sched_take 4 rfl (by kernel_rfl) (by kernel_rfl) (by kernel_rfl) (fun _ _ _ h => h) rfl (fun x hx => by go_simp; rfl) ?_
              go_simp
              refine sched_take 5 rfl (by kernel_rfl) (by kernel_rfl) (by kernel_rfl) (fun _ _ _ h => h) rfl (fun x hx => by go_simp; rfl) ?_
              go_simp
              refine sched_take 6 rfl (by kernel_rfl) (by kernel_rfl) (by kernel_rfl) (fun _ _ _ h => h) rfl (fun x hx => by go_simp; rfl) ?_
              go_simp
              refine sched_take 7 rfl (by kernel_rfl) (by kernel_rfl) (by kernel_rfl) (fun _ _ _ h => h) rfl (fun x hx => by go_simp; rfl) ?_
              go_simp
              refine sched_take 8 rfl (by kernel_rfl) (by kernel_rfl) (by kernel_rfl) (fun _ _ _ h => h) rfl (fun x hx => by go_simp; rfl) ?_
              go_simp
              refine sched_take 9 rfl (by kernel_rfl) (by kernel_rfl) (by kernel_rfl) (fun _ _ _ h => h) rfl (fun x hx => by go_simp; rfl) ?_
              go_simp
              refine sched_alone 10 (by kernel_rfl) rfl rfl ?_
              go_simp
              refine (hhas.out _ _ HUr.out).mono ?_
              rintro e w1 ⟨rfl, hu⟩
              refine ⟨hu, ?_⟩
              have HU1 := Lib.hid (HUr.out.trans hu)
              clear hu
              rw [hB.out]
              go_simp
              refine sched_take 11 rfl (by kernel_rfl) (by kernel_rfl) (by kernel_rfl) (fun _ _ _ h => h) rfl (fun x hx => by go_simp; rfl) ?_
              go_simp
              refine sched_take 12 rfl (by kernel_rfl) (by kernel_rfl) (by kernel_rfl) (fun _ _ _ h => h) rfl (fun x hx => by go_simp; rfl) ?_
              go_simp
              refine sched_take 13 rfl (by kernel_rfl) (by kernel_rfl) (by kernel_rfl) (fun _ _ _ h => h) rfl (fun x hx => by go_simp; rfl) ?_
              go_simp
              refine sched_take 14 rfl (by kernel_rfl) (by kernel_rfl) (by kernel_rfl) (fun _ _ _ h => h) rfl (fun x hx => by go_simp; rfl) ?_
              go_simp
              refine sched_take 15 rfl (by kernel_rfl) (by kernel_rfl) (by kernel_rfl) (fun _ _ _ h => h) rfl (fun x hx => by go_simp; rfl) ?_
              go_simp
              refine sched_take 16 rfl (by kernel_rfl) (by kernel_rfl) (by kernel_rfl) (fun _ _ _ h => h) rfl (fun x hx => by go_simp; rfl) ?_
              go_simp
              refine sched_take 17 rfl (by kernel_rfl) (by kernel_rfl) (by kernel_rfl) (fun _ _ _ h => h) rfl (fun x hx => by go_simp; rfl) ?_
              go_simp
              refine sched_take 19 rfl (by kernel_rfl) (by kernel_rfl) (by kernel_rfl) (fun _ _ _ h => h) rfl (fun x hx => by go_simp; rfl) ?_
              go_simp
              refine sched_take 20 rfl (by kernel_rfl) (by kernel_rfl) (by kernel_rfl) (fun _ _ _ h => h) rfl (fun x hx => by go_simp; rfl) ?_
              go_simp
              refine sched_take 21 rfl (by kernel_rfl) (by kernel_rfl) (by kernel_rfl) (fun _ _ _ h => h) rfl (fun x hx => by go_simp; rfl) ?_
              go_simp
              refine sched_take 22 rfl (by kernel_rfl) (by kernel_rfl) (by kernel_rfl) (fun _ _ _ h => h) rfl (fun x hx => by go_simp; rfl) ?_
              go_simp
              refine sched_take 23 rfl (by kernel_rfl) (by kernel_rfl) (by kernel_rfl) (fun _ _ _ h => h) rfl (fun x hx => by have c2 := (HU1.out.trans hx).cell C1.out (fun h => h); go_simp; rfl) ?_
              go_simp
              refine sched_alone 18 (by kernel_rfl) rfl rfl ?_
              go_simp
              refine (hep.out _ _ HU1.out).mono ?_
              rintro e w2 ⟨rfl, hu⟩
              refine ⟨hu, ?_⟩
              have HU2 := Lib.hid (HU1.out.trans hu)
              clear hu
              rw [hE'.out]
              go_simp
              refine sched_take 24 rfl (by kernel_rfl) (by kernel_rfl) (by kernel_rfl) (fun _ _ _ h => h) rfl (fun x hx => by go_simp; rfl) ?_
              go_simp
              refine sched_take 25 rfl (by kernel_rfl) (by kernel_rfl) (by kernel_rfl) (fun _ _ _ h => h) rfl (fun x hx => by go_simp; rfl) ?_
              go_simp
              refine sched_done (by kernel_rfl) ?_
              go_wp2_with fail
              go_roundw
              case measure => simp [intOf]; omega
              case rel => exact ⟨k + 1, by omega, by omega, by go_num, hR', HU2⟩
            · have he' : (x.ep == y.ep) = false := by simp [he]
              have hR' := Lib.hid (show N = k by have h1 := hst'.out; rw [if_neg he] at h1; have h2 := hR.out; omega)
              clear he
              go_wp2_with fail
              refine sched_begin NoB (by kernel_rfl) ?_
              have HUr := Lib.hid hU.out.drew
              refine sched_take 0 rfl (by kernel_rfl) (by kernel_rfl) (by kernel_rfl) (fun _ _ _ h => h) rfl (fun x hx => by go_simp; rfl) ?_
              go_simp
              refine sched_take 1 rfl (by kernel_rfl) (by kernel_rfl) (by kernel_rfl) (fun _ _ _ h => h) rfl (fun x hx => by go_simp; rfl) ?_
              go_simp
              refine sched_take 2 rfl (by kernel_rfl) (by kernel_rfl) (by kernel_rfl) (fun _ _ _ h => h) rfl (fun x hx => by go_simp; rfl) ?_
              go_simp
              refine sched_take 3 rfl (by kernel_rfl) (by kernel_rfl) (by kernel_rfl) (fun _ _ _ h => h) rfl (fun x hx => by go_simp; rfl) ?_
              go_simp
              refine sched_take 4 rfl (by kernel_rfl) (by kernel_rfl) (by kernel_rfl) (fun _ _ _ h => h) rfl (fun x hx => by go_simp; rfl) ?_
              go_simp
              refine sched_take 5 rfl (by kernel_rfl) (by kernel_rfl) (by kernel_rfl) (fun _ _ _ h => h) rfl (fun x hx => by go_simp; rfl) ?_
              go_simp
              refine sched_take 6 rfl (by kernel_rfl) (by kernel_rfl) (by kernel_rfl) (fun _ _ _ h => h) rfl (fun x hx => by go_simp; rfl) ?_
              go_simp
              refine sched_take 7 rfl (by kernel_rfl) (by kernel_rfl) (by kernel_rfl) (fun _ _ _ h => h) rfl (fun x hx => by go_simp; rfl) ?_
              go_simp
              refine sched_take 8 rfl (by kernel_rfl) (by kernel_rfl) (by kernel_rfl) (fun _ _ _ h => h) rfl (fun x hx => by go_simp; rfl) ?_
              go_simp
              refine sched_take 9 rfl (by kernel_rfl) (by kernel_rfl) (by kernel_rfl) (fun _ _ _ h => h) rfl (fun x hx => by go_simp; rfl) ?_
              go_simp
              refine sched_alone 10 (by kernel_rfl) rfl rfl ?_
              go_simp
              refine (hhas.out _ _ HUr.out).mono ?_
              rintro e w1 ⟨rfl, hu⟩
              refine ⟨hu, ?_⟩
              have HU1 := Lib.hid (HUr.out.trans hu)
              clear hu
              rw [hB.out]
              go_simp
              refine sched_take 11 rfl (by kernel_rfl) (by kernel_rfl) (by kernel_rfl) (fun _ _ _ h => h) rfl (fun x hx => by go_simp; rfl) ?_
              go_simp
              refine sched_take 12 rfl (by kernel_rfl) (by kernel_rfl) (by kernel_rfl) (fun _ _ _ h => h) rfl (fun x hx => by go_simp; rfl) ?_
              go_simp
              refine sched_take 13 rfl (by kernel_rfl) (by kernel_rfl) (by kernel_rfl) (fun _ _ _ h => h) rfl (fun x hx => by go_simp; rfl) ?_
              go_simp
              refine sched_take 14 rfl (by kernel_rfl) (by kernel_rfl) (by kernel_rfl) (fun _ _ _ h => h) rfl (fun x hx => by go_simp; rfl) ?_
              go_simp
              refine sched_take 15 rfl (by kernel_rfl) (by kernel_rfl) (by kernel_rfl) (fun _ _ _ h => h) rfl (fun x hx => by go_simp; rfl) ?_
              go_simp
              refine sched_take 16 rfl (by kernel_rfl) (by kernel_rfl) (by kernel_rfl) (fun _ _ _ h => h) rfl (fun x hx => by go_simp; rfl) ?_
              go_simp
              refine sched_take 17 rfl (by kernel_rfl) (by kernel_rfl) (by kernel_rfl) (fun _ _ _ h => h) rfl (fun x hx => by go_simp; rfl) ?_
              go_simp
              refine sched_take 19 rfl (by kernel_rfl) (by kernel_rfl) (by kernel_rfl) (fun _ _ _ h => h) rfl (fun x hx => by go_simp; rfl) ?_
              go_simp
              refine sched_take 20 rfl (by kernel_rfl) (by kernel_rfl) (by kernel_rfl) (fun _ _ _ h => h) rfl (fun x hx => by go_simp; rfl) ?_
              go_simp
              refine sched_take 21 rfl (by kernel_rfl) (by kernel_rfl) (by kernel_rfl) (fun _ _ _ h => h) rfl (fun x hx => by go_simp; rfl) ?_
              go_simp
              refine sched_take 22 rfl (by kernel_rfl) (by kernel_rfl) (by kernel_rfl) (fun _ _ _ h => h) rfl (fun x hx => by go_simp; rfl) ?_
              go_simp
              refine sched_take 23 rfl (by kernel_rfl) (by kernel_rfl) (by kernel_rfl) (fun _ _ _ h => h) rfl (fun x hx => by have c2 := (HU1.out.trans hx).cell C1.out (fun h => h); go_simp; rfl) ?_
              go_simp
              refine sched_alone 18 (by kernel_rfl) rfl rfl ?_
              go_simp
              refine (hep.out _ _ HU1.out).mono ?_
              rintro e w2 ⟨rfl, hu⟩
              refine ⟨hu, ?_⟩
              have HU2 := Lib.hid (HU1.out.trans hu)
              clear hu
              rw [hE'.out]
              go_simp
              refine sched_take 24 rfl (by kernel_rfl) (by kernel_rfl) (by kernel_rfl) (fun _ _ _ h => h) rfl (fun x hx => by go_simp; rfl) ?_
              go_simp
              refine sched_take 25 rfl (by kernel_rfl) (by kernel_rfl) (by kernel_rfl) (fun _ _ _ h => h) rfl (fun x hx => by go_simp; rfl) ?_
              go_simp
              refine sched_done (by kernel_rfl) ?_
              go_wp2_with fail
              go_ret
              exact ⟨by rw [hR'.out]; rfl, HU2.out⟩
          · have hB := Lib.hid (decide_eq_false (show ¬ (1 ≤ (a : Int) + k + 1 ∧ (a : Int) + k + 1 ≤ (l.length : Int)) by omega))
            have hR' := Lib.hid (show N = k by have h1 := sameC_end1 (l := l) (q := q) (a := a) (k := k) (by omega); have h2 := hR.out; omega)
            clear hin
            go_wp2_with fail
            refine sched_begin NoB (by kernel_rfl) ?_
            have HUr := Lib.hid hU.out.drew
            refine sched_take 0 rfl (by kernel_rfl) (by kernel_rfl) (by kernel_rfl) (fun _ _ _ h => h) rfl (fun x hx => by go_simp; rfl) ?_
            go_simp
            refine sched_take 1 rfl (by kernel_rfl) (by kernel_rfl) (by kernel_rfl) (fun _ _ _ h => h) rfl (fun x hx => by go_simp; rfl) ?_
            go_simp
            refine sched_take 2 rfl (by kernel_rfl) (by kernel_rfl) (by kernel_rfl) (fun _ _ _ h => h) rfl (fun x hx => by go_simp; rfl) ?_
            go_simp
            refine sched_take 3 rfl (by kernel_rfl) (by kernel_rfl) (by kernel_rfl) (fun _ _ _ h => h) rfl (fun x hx => by go_simp; rfl) ?_
            go_simp
            refine sched_take 4 rfl (by kernel_rfl) (by kernel_rfl) (by kernel_rfl) (fun _ _ _ h => h) rfl (fun x hx => by go_simp; rfl) ?_
            go_simp
            refine sched_take 5 rfl (by kernel_rfl) (by kernel_rfl) (by kernel_rfl) (fun _ _ _ h => h) rfl (fun x hx => by go_simp; rfl) ?_
            go_simp
            refine sched_take 6 rfl (by kernel_rfl) (by kernel_rfl) (by kernel_rfl) (fun _ _ _ h => h) rfl (fun x hx => by go_simp; rfl) ?_
            go_simp
            refine sched_take 7 rfl (by kernel_rfl) (by kernel_rfl) (by kernel_rfl) (fun _ _ _ h => h) rfl (fun x hx => by go_simp; rfl) ?_
            go_simp
            refine sched_take 8 rfl (by kernel_rfl) (by kernel_rfl) (by kernel_rfl) (fun _ _ _ h => h) rfl (fun x hx => by go_simp; rfl) ?_
            go_simp
            refine sched_take 9 rfl (by kernel_rfl) (by kernel_rfl) (by kernel_rfl) (fun _ _ _ h => h) rfl (fun x hx => by go_simp; rfl) ?_
            go_simp
            refine sched_alone 10 (by kernel_rfl) rfl rfl ?_
            go_simp
            refine (hhas.out _ _ HUr.out).mono ?_
            rintro e w1 ⟨rfl, hu⟩
            refine ⟨hu, ?_⟩
            have HU1 := Lib.hid (HUr.out.trans hu)
            clear hu
            rw [hB.out]
            go_simp
            refine sched_take 11 rfl (by kernel_rfl) (by kernel_rfl) (by kernel_rfl) (fun _ _ _ h => h) rfl (fun x hx => by go_simp; rfl) ?_
            go_simp
            refine sched_take 12 rfl (by kernel_rfl) (by kernel_rfl) (by kernel_rfl) (fun _ _ _ h => h) rfl (fun x hx => by go_simp; rfl) ?_
            go_simp
            refine sched_skip 13 rfl (by kernel_rfl) (by kernel_rfl) (by kernel_rfl) (fun _ _ _ h => h) rfl ?_
            go_simp
            refine sched_skip 14 rfl (by kernel_rfl) (by kernel_rfl) (by kernel_rfl) (fun _ _ _ h => h) rfl ?_
            go_simp
            refine sched_skip 15 rfl (by kernel_rfl) (by kernel_rfl) (by kernel_rfl) (fun _ _ _ h => h) rfl ?_
            go_simp
            refine sched_skip 16 rfl (by kernel_rfl) (by kernel_rfl) (by kernel_rfl) (fun _ _ _ h => h) rfl ?_
            go_simp
            refine sched_skip 17 rfl (by kernel_rfl) (by kernel_rfl) (by kernel_rfl) (fun _ _ _ h => h) rfl ?_
            go_simp
            refine sched_skip 18 rfl (by kernel_rfl) (by kernel_rfl) (by kernel_rfl) (fun _ _ _ h => h) rfl ?_
            go_simp
            refine sched_skip 19 rfl (by kernel_rfl) (by kernel_rfl) (by kernel_rfl) (fun _ _ _ h => h) rfl ?_
            go_simp
            refine sched_skip 20 rfl (by kernel_rfl) (by kernel_rfl) (by kernel_rfl) (fun _ _ _ h => h) rfl ?_
            go_simp
            refine sched_skip 21 rfl (by kernel_rfl) (by kernel_rfl) (by kernel_rfl) (fun _ _ _ h => h) rfl ?_
            go_simp
            refine sched_skip 22 rfl (by kernel_rfl) (by kernel_rfl) (by kernel_rfl) (fun _ _ _ h => h) rfl ?_
            go_simp
            refine sched_skip 23 rfl (by kernel_rfl) (by kernel_rfl) (by kernel_rfl) (fun _ _ _ h => h) rfl ?_
            go_simp
            refine sched_skip 24 rfl (by kernel_rfl) (by kernel_rfl) (by kernel_rfl) (fun _ _ _ h => h) rfl ?_
            go_simp
            refine sched_take 25 rfl (by kernel_rfl) (by kernel_rfl) (by kernel_rfl) (fun _ _ _ h => h) rfl (fun x hx => by go_simp; rfl) ?_
            go_simp
            refine sched_done (by kernel_rfl) ?_
            go_wp2_with fail
            go_ret
            exact ⟨by rw [hR'.out]; rfl, HU1.out⟩
        · have e3 : decide (k < q.length) = false := decide_eq_false hlt
          have hR' := Lib.hid (show N = k by have h1 := sameC_end2 (l := l) (q := q) (a := a) (k := k) (by omega); have h2 := hR.out; omega)
          clear hlt
          go_wp2_with fail
          refine sched_begin NoB (by kernel_rfl) ?_
          have HUr := Lib.hid hU.out.drew
          refine sched_take 0 rfl (by kernel_rfl) (by kernel_rfl) (by kernel_rfl) (fun _ _ _ h => h) rfl (fun x hx => by go_simp; rfl) ?_
          go_simp
          refine sched_take 1 rfl (by kernel_rfl) (by kernel_rfl) (by kernel_rfl) (fun _ _ _ h => h) rfl (fun x hx => by go_simp; rfl) ?_
          go_simp
          refine sched_take 2 rfl (by kernel_rfl) (by kernel_rfl) (by kernel_rfl) (fun _ _ _ h => h) rfl (fun x hx => by go_simp; rfl) ?_
          go_simp
          refine sched_take 3 rfl (by kernel_rfl) (by kernel_rfl) (by kernel_rfl) (fun _ _ _ h => h) rfl (fun x hx => by go_simp; rfl) ?_
          go_simp
          refine sched_take 4 rfl (by kernel_rfl) (by kernel_rfl) (by kernel_rfl) (fun _ _ _ h => h) rfl (fun x hx => by go_simp; rfl) ?_
          go_simp
          refine sched_skip 5 rfl (by kernel_rfl) (by kernel_rfl) (by kernel_rfl) (fun _ _ _ h => h) rfl ?_
          go_simp
          refine sched_skip 6 rfl (by kernel_rfl) (by kernel_rfl) (by kernel_rfl) (fun _ _ _ h => h) rfl ?_
          go_simp
          refine sched_skip 7 rfl (by kernel_rfl) (by kernel_rfl) (by kernel_rfl) (fun _ _ _ h => h) rfl ?_
          go_simp
          refine sched_skip 8 rfl (by kernel_rfl) (by kernel_rfl) (by kernel_rfl) (fun _ _ _ h => h) rfl ?_
          go_simp
          refine sched_skip 9 rfl (by kernel_rfl) (by kernel_rfl) (by kernel_rfl) (fun _ _ _ h => h) rfl ?_
          go_simp
          refine sched_skip 10 rfl (by kernel_rfl) (by kernel_rfl) (by kernel_rfl) (fun _ _ _ h => h) rfl ?_
          go_simp
          refine sched_take 11 rfl (by kernel_rfl) (by kernel_rfl) (by kernel_rfl) (fun _ _ _ h => h) rfl (fun x hx => by go_simp; rfl) ?_
          go_simp
          refine sched_take 12 rfl (by kernel_rfl) (by kernel_rfl) (by kernel_rfl) (fun _ _ _ h => h) rfl (fun x hx => by go_simp; rfl) ?_
          go_simp
          refine sched_skip 13 rfl (by kernel_rfl) (by kernel_rfl) (by kernel_rfl) (fun _ _ _ h => h) rfl ?_
          go_simp
          refine sched_skip 14 rfl (by kernel_rfl) (by kernel_rfl) (by kernel_rfl) (fun _ _ _ h => h) rfl ?_
          go_simp
          refine sched_skip 15 rfl (by kernel_rfl) (by kernel_rfl) (by kernel_rfl) (fun _ _ _ h => h) rfl ?_
          go_simp
          refine sched_skip 16 rfl (by kernel_rfl) (by kernel_rfl) (by kernel_rfl) (fun _ _ _ h => h) rfl ?_
          go_simp
          refine sched_skip 17 rfl (by kernel_rfl) (by kernel_rfl) (by kernel_rfl) (fun _ _ _ h => h) rfl ?_
          go_simp
          refine sched_skip 18 rfl (by kernel_rfl) (by kernel_rfl) (by kernel_rfl) (fun _ _ _ h => h) rfl ?_
          go_simp
          refine sched_skip 19 rfl (by kernel_rfl) (by kernel_rfl) (by kernel_rfl) (fun _ _ _ h => h) rfl ?_
          go_simp
          refine sched_skip 20 rfl (by kernel_rfl) (by kernel_rfl) (by kernel_rfl) (fun _ _ _ h => h) rfl ?_
          go_simp
          refine sched_skip 21 rfl (by kernel_rfl) (by kernel_rfl) (by kernel_rfl) (fun _ _ _ h => h) rfl ?_
          go_simp
          refine sched_skip 22 rfl (by kernel_rfl) (by kernel_rfl) (by kernel_rfl) (fun _ _ _ h => h) rfl ?_
          go_simp
          refine sched_skip 23 rfl (by kernel_rfl) (by kernel_rfl) (by kernel_rfl) (fun _ _ _ h => h) rfl ?_
          go_simp
          refine sched_skip 24 rfl (by kernel_rfl) (by kernel_rfl) (by kernel_rfl) (fun _ _ _ h => h) rfl ?_
          go_simp
          refine sched_take 25 rfl (by kernel_rfl) (by kernel_rfl) (by kernel_rfl) (fun _ _ _ h => h) rfl (fun x hx => by go_simp; rfl) ?_
          go_simp
          refine sched_done (by kernel_rfl) ?_
          go_wp2_with fail
          go_ret
          exact ⟨by rw [hR'.out]; rfl, HUr.out⟩
end Go.Proofs.Ytobfolkcpfaplaa
