/- A log of entries, any, function by function (1): what is read of it. -/
import Derived.Test.YtobfolkcpfaplaaEnt4
import Derived.Deep.Cut
namespace Go.Proofs.Ytobfolkcpfaplaa
open Go.RowKit Kit
set_option linter.unusedVariables false
/-- At block p lies a log, as it is read. -/
def Rl (S : Nat → Prop) (w : World) (p : Nat) (l : List Ent) : Prop :=
  ∃ v, w.heap[p]? = some (.cells #[v] 114 (0, 0)) ∧ RSl Rep.ent w S v l
theorem Rl.keep {S : Nat → Prop} {w w' : World} {p : Nat} {l : List Ent} (h : Rl S w p l) (u : Upd NoB w w') : Rl S w' p l := by
  obtain ⟨v, h1, h2⟩ := h
  exact ⟨v, u.heap h1 (fun h => h), h2.upd u (fun _ _ h => h)⟩
theorem elen_any {S : Nat → Prop} (p : Nat) (l : List Ent) (w : World) (h : Rl S w p l) : Calls Try.prog 38 #[.pointer (some ⟨p, 0, none⟩)] w fun e w' => e = .returned (.int .i64 l.length) ∧ Upd NoB w w' := by
  obtain ⟨v, h1, h2⟩ := h
  have c0 := one_cell h1
  obtain ⟨A, c, _, rfl, _⟩ := h2
  have HU := Lib.hid (Upd.refl NoB w)
  clear h1
  go_enter Try.func38, Try.ntmps38
  go_wp2_with fail
  go_ret
  exact ⟨rfl, HU.out⟩
/-- The epoch of the entry of a number. -/
def epE (l : List Ent) (i : Int) : Int := if 1 ≤ i ∧ i ≤ (l.length : Int) then ((l.map fun x => x.ep).getD (i.toNat - 1) 0) else 0
theorem epE_at {l : List Ent} {k : Nat} (h : k < l.length) : epE l ((k : Int) + 1) = (l[k]'h).ep := by
  unfold epE
  rw [if_pos (by omega), show (((k : Int) + 1).toNat - 1) = k by omega, List.getD_eq_getElem?_getD, List.getElem?_map, List.getElem?_eq_getElem h]
  rfl
theorem ep_cell {S : Nat → Prop} {w : World} {l : List Ent} {A : Option Addr} {n cc : Nat} (h : RSl Rep.ent w S (.slice A n cc) l) (k : Nat) (hk : k < l.length) :
    ∃ g o, A = some ⟨g, o, none⟩ ∧ w.cell? ⟨g, o + k * 10, none⟩ = some (.int .u64 (l[k]'hk).ep) := by
  obtain ⟨g, o, A1, B1, c1, d1, e, _, _, c0, _⟩ := ten_at (v := .bool true) h (Upd.refl NoB w) k hk
  exact ⟨g, o, e, c0⟩
set_option maxHeartbeats 1000000 in
theorem eepoch_any {S : Nat → Prop} (p : Nat) (l : List Ent) (i : Int) (w : World) (h : Rl S w p l) (hl : l.length ≤ 100000) : Calls Try.prog 40 #[.pointer (some ⟨p, 0, none⟩), .int .i64 i] w fun e w' => e = .returned (.int .u64 (epE l i)) ∧ Upd NoB w w' := by
  have hh := Lib.hid (has_of _ _ i w (fun _ _ => trivial) (elen_any p l w h))
  have HK := Lib.hid (fun w1 (hu : Upd NoB w w1) => h.keep hu)
  clear h
  by_cases hi : 1 ≤ i ∧ i ≤ (l.length : Int)
  · rw [decide_eq_true hi] at hh
    obtain ⟨k, rfl⟩ : ∃ k : Nat, i = (k : Int) + 1 := ⟨(i - 1).toNat, by omega⟩
    have hk : k < l.length := by omega
    rw [epE_at hk]
    have w1e : IntKind.i64.wrap ((k : Int) + 1 - 1) = k := by simp only [IntKind.wrap_i64]; omega
    have w1f : IntKind.i64.wrap (k : Int) = k := by simp only [IntKind.wrap_i64]; omega
    clear hi
    go_enter Try.func40, Try.ntmps40
    go_wp2_with fail
    refine hh.out.mono ?_
    rintro e w1 ⟨rfl, hu⟩
    obtain ⟨v, h1, h2⟩ := HK.out w1 hu
    have c0 := one_cell h1
    obtain ⟨A, c, _, rfl, _⟩ := id h2
    obtain ⟨g, o, rfl, c1⟩ := ep_cell h2 k hk
    have HU1 := Lib.hid hu
    clear hu h1 h2
    have k0 : (0 : Int) ≤ (k : Int) := by omega
    go_wp2_with fail
    go_ret
    exact ⟨rfl, HU1.out⟩
  · rw [decide_eq_false hi] at hh
    rw [show epE l i = 0 by unfold epE; rw [if_neg hi]]
    clear hi
    go_enter Try.func40, Try.ntmps40
    go_wp2_with fail
    refine hh.out.mono ?_
    rintro e w1 ⟨rfl, hu⟩
    have HU1 := Lib.hid hu
    clear hu
    go_wp2_with fail
    go_ret
    exact ⟨rfl, HU1.out⟩
/-- Does a piece behind prev fit? -/
def fitE (l : List Ent) (prev ep : Int) : Bool := decide (0 ≤ prev) && (decide (prev ≤ (l.length : Int)) && (epE l prev == ep))
set_option maxHeartbeats 1000000 in
theorem efits_any {S : Nat → Prop} (p : Nat) (l : List Ent) (prev ep : Int) (w : World) (h : Rl S w p l) (hl : l.length ≤ 100000) :
    Calls Try.prog 32 #[.pointer (some ⟨p, 0, none⟩), .int .i64 prev, .int .u64 ep] w fun e w' => e = .returned (.bool (fitE l prev ep)) ∧ Upd NoB w w' := by
  have hln := Lib.hid (elen_any p l w h)
  have hep := Lib.hid (fun w1 (hu : Upd NoB w w1) => eepoch_any p l prev w1 (h.keep hu) hl)
  have HU := Lib.hid (Upd.refl NoB w)
  unfold fitE
  generalize epE l prev = E at *
  clear h
  by_cases h1 : 0 ≤ prev
  · have e1 : decide (0 ≤ prev) = true := decide_eq_true h1
    rw [e1, Bool.true_and]
    clear h1
    by_cases h2 : prev ≤ (l.length : Int)
    · have e2 : decide (prev ≤ (l.length : Int)) = true := decide_eq_true h2
      rw [e2, Bool.true_and]
      clear h2
      skip
      go_enter Try.func32, Try.ntmps32
      go_wp2_with fail
      refine hln.out.mono ?_
      rintro e w1 ⟨rfl, hu⟩
      have HU1 := Lib.hid hu
      clear hu
      go_wp2_with fail
      refine (hep.out _ HU1.out).mono ?_
      rintro e w2 ⟨rfl, hu⟩
      have HU2 := Lib.hid (HU1.out.trans hu)
      clear hu
      go_wp2_with fail
      go_ret
      exact ⟨rfl, HU2.out⟩
    · have e2 : decide (prev ≤ (l.length : Int)) = false := decide_eq_false h2
      rw [e2, Bool.false_and]
      clear h2
      skip
      go_enter Try.func32, Try.ntmps32
      go_wp2_with fail
      refine hln.out.mono ?_
      rintro e w1 ⟨rfl, hu⟩
      have HU1 := Lib.hid hu
      clear hu
      go_wp2_with fail
      go_ret
      exact ⟨rfl, HU1.out⟩
  · have e1 : decide (0 ≤ prev) = false := decide_eq_false h1
    rw [e1, Bool.false_and]
    clear h1
    skip
    go_enter Try.func32, Try.ntmps32
    go_wp2_with fail
    go_ret
    exact ⟨rfl, HU.out⟩
/-- How many of q stand in l already, behind its first prev ones? -/
def sameD : List Ent → List Ent → Nat
  | x :: l, y :: q => if x.ep = y.ep then sameD l q + 1 else 0
  | _, _ => 0
def sameE (l : List Ent) (prev : Int) (q : List Ent) : Nat := if prev < 0 ∨ (l.length : Int) < prev then 0 else sameD (l.drop prev.toNat) q
theorem sameD_step {l q : List Ent} {x y : Ent} {a k : Nat} (hx : l[a + k]? = some x) (hy : q[k]? = some y) : sameD (l.drop (a + k)) (q.drop k) = if x.ep = y.ep then sameD (l.drop (a + (k + 1))) (q.drop (k + 1)) + 1 else 0 := by
  obtain ⟨h1, rfl⟩ := List.getElem?_eq_some_iff.1 hx
  obtain ⟨h2, rfl⟩ := List.getElem?_eq_some_iff.1 hy
  rw [List.drop_eq_getElem_cons h1, List.drop_eq_getElem_cons h2]
  simp only [sameD]
  rfl
theorem sameD_end1 {l q : List Ent} {a k : Nat} (h : l.length ≤ a + k) : sameD (l.drop (a + k)) (q.drop k) = 0 := by
  rw [List.drop_eq_nil_of_le h]
  cases q.drop k <;> rfl
theorem sameD_end2 {l q : List Ent} {a k : Nat} (h : q.length ≤ k) : sameD (l.drop (a + k)) (q.drop k) = 0 := by
  rw [List.drop_eq_nil_of_le h]
  cases l.drop (a + k) <;> rfl
set_option maxHeartbeats 4000000 in
set_option maxRecDepth 100000 in
theorem esame2_any {S T : Nat → Prop} (p : Nat) (l q : List Ent) (v : Value) (prev : Int) (w : World) (h : Rl T w p l) (hq : RSl Rep.ent w S v q) (hl : l.length ≤ 100000) (hql : q.length ≤ 100000) :
    Calls Try.prog 33 #[.pointer (some ⟨p, 0, none⟩), .int .i64 prev, v] w fun e w' => e = .returned (.int .i64 (sameE l prev q)) ∧ Upd NoB w w' := by
  have HK := Lib.hid (fun w1 (hu : Upd NoB w w1) => h.keep hu)
  have hln := Lib.hid (elen_any p l w h)
  have hhas := Lib.hid (fun w1 (i : Int) (hu : Upd NoB w w1) => has_of _ _ i w1 (fun _ _ => trivial) (elen_any p l w1 (HK.out w1 hu)))
  have hep := Lib.hid (fun w1 (i : Int) (hu : Upd NoB w w1) => eepoch_any p l i w1 (HK.out w1 hu) hl)
  have HQ := Lib.hid hq
  have HU := Lib.hid (Upd.refl NoB w)
  obtain ⟨A, c, _, rfl, _⟩ := hq
  clear h
  unfold sameE
  by_cases h1 : prev < 0
  · rw [if_pos (Or.inl h1)]
    have e1 : decide (prev < 0) = true := decide_eq_true h1
    clear h1
    skip
    go_enter Try.func33, Try.ntmps33
    go_wp2_with fail
    go_ret
    exact ⟨rfl, HU.out⟩
  · have e1 : decide (prev < 0) = false := decide_eq_false h1
    obtain ⟨a, rfl⟩ : ∃ a : Nat, prev = a := Int.eq_ofNat_of_zero_le (by omega)
    clear h1
    by_cases h2 : (l.length : Int) < a
    · rw [if_pos (Or.inr h2)]
      have e2 : decide (l.length < a) = true := decide_eq_true (by omega)
      clear h2
      skip
      go_enter Try.func33, Try.ntmps33
      go_wp2_with fail
      refine hln.out.mono ?_
      rintro e w1 ⟨rfl, hu⟩
      have HU1 := Lib.hid hu
      clear hu
      go_wp2_with fail
      go_ret
      exact ⟨rfl, HU1.out⟩
    · rw [if_neg (fun h => h.elim (fun h => by omega) h2)]
      have e2 : decide (l.length < a) = false := decide_eq_false (by omega)
      have ha := Lib.hid (show a ≤ l.length by omega)
      have htn : (a : Int).toNat = a := by omega
      obtain ⟨N, hN0⟩ : ∃ N, sameD (l.drop a) q = N := ⟨_, rfl⟩
      have hN := Lib.hid hN0
      rw [htn, hN0]
      clear h2 htn hN0
      skip
      go_enter Try.func33, Try.ntmps33
      go_wp2_with fail
      refine hln.out.mono ?_
      rintro e w0' ⟨rfl, hu⟩
      have HU1 := Lib.hid hu
      clear hu
      go_wp2_with fail
      go_loopw [7] (fun x7 wr => ∃ k : Nat, k ≤ q.length ∧ a + k ≤ l.length ∧ x7 = .int .i64 k ∧ Hid (k + sameD (l.drop (a + k)) (q.drop k) = N) ∧ Hid (Upd NoB w wr)) (fun x7 _ => q.length - (intOf x7).toNat)
      case atStart => exact ⟨0, by omega, by have := ha.out; omega, rfl, Lib.hid (by have := hN.out; simpa using this), HU1⟩
      case round =>
        obtain ⟨k, hk, hak, rfl, hR, hU⟩ := hrel
        have hw0 : IntKind.i64.wrap ((a : Int) + k) = (a : Int) + k := by simp only [IntKind.wrap_i64]; have := ha.out; omega
        have hw1 : IntKind.i64.wrap ((a : Int) + k + 1) = (a : Int) + k + 1 := by simp only [IntKind.wrap_i64]; have := ha.out; omega
        by_cases hlt : k < q.length
        · have e3 : decide (k < q.length) = true := decide_eq_true hlt
          by_cases hin : a + k < l.length
          · have hB := Lib.hid (decide_eq_true (show 1 ≤ (a : Int) + k + 1 ∧ (a : Int) + k + 1 ≤ (l.length : Int) by omega))
            have hE : epE l ((a : Int) + k + 1) = (l[a + k]'hin).ep := by rw [← epE_at hin]; simp
            have hst := sameD_step (List.getElem?_eq_getElem hin) (List.getElem?_eq_getElem hlt)
            obtain ⟨g, o, rfl, c1⟩ := ep_cell HQ.out k hlt
            have C1 := Lib.hid c1
            have hE' := Lib.hid hE
            have hst' := Lib.hid hst
            generalize l[a + k] = x at *
            generalize q[k] = y at *
            clear c1 hE hst
            by_cases he : x.ep = y.ep
            · have he' : (x.ep == y.ep) = true := by simp [he]
              have hR' := Lib.hid (show k + 1 + sameD (l.drop (a + (k + 1))) (q.drop (k + 1)) = N by have h1 := hst'.out; rw [if_pos he] at h1; have h2 := hR.out; omega)
              clear he
              go_wp2_with fail
              refine sched_begin NoB (by kernel_rfl) ?_
              have HUr := Lib.hid hU.out.drew
              refine sched_take 0 rfl (by kernel_rfl) (by kernel_rfl) (by kernel_rfl) (fun _ _ _ h => h) rfl (fun x hx => by go_simp; rfl) ?_
              go_simp
              refine sched_take 1 rfl (by kernel_rfl) (by kernel_rfl) (by kernel_rfl) (fun _ _ _ h => h) rfl (fun x hx => by go_simp; rfl) ?_
              go_simp
              refine sched_take 2 rfl (by kernel_rfl) (by kernel_rfl) (by kernel_rfl) (fun _ _ _ h => h) rfl (fun x hx => by go_simp; rfl) ?_
              go_simp
              refine sched_take 3 rfl (by kernel_rfl) (by kernel_rfl) (by kernel_rfl) (fun _ _ _ h => h) rfl (fun x hx => by go_simp; rfl) ?_
              go_simp
              refine sched_take 4 rfl (by kernel_rfl) (by kernel_rfl) (by kernel_rfl) (fun _ _ _ h => h) rfl (fun x hx => by go_simp; rfl) ?_
              go_simp
              refine sched_take 5 rfl (by kernel_rfl) (by kernel_rfl) (by kernel_rfl) (fun _ _ _ h => h) rfl (fun x hx => by go_simp; rfl) ?_
              go_simp
              refine sched_take 6 rfl (by kernel_rfl) (by kernel_rfl) (by kernel_rfl) (fun _ _ _ h => h) rfl (fun x hx => by go_simp; rfl) ?_
              go_simp
              refine sched_take 7 rfl (by kernel_rfl) (by kernel_rfl) (by kernel_rfl) (fun _ _ _ h => h) rfl (fun x hx => by go_simp; rfl) ?_
              go_simp
              refine sched_take 8 rfl (by kernel_rfl) (by kernel_rfl) (by kernel_rfl) (fun _ _ _ h => h) rfl (fun x hx => by go_simp; rfl) ?_
              go_simp
              refine sched_take 9 rfl (by kernel_rfl) (by kernel_rfl) (by kernel_rfl) (fun _ _ _ h => h) rfl (fun x hx => by go_simp; rfl) ?_
              go_simp
              refine sched_alone 10 (by kernel_rfl) rfl rfl ?_
              go_simp
              refine (hhas.out _ _ HUr.out).mono ?_
              rintro e w1 ⟨rfl, hu⟩
              refine ⟨hu, ?_⟩
              have HU1 := Lib.hid (HUr.out.trans hu)
              clear hu
              rw [hB.out]
              go_simp
              refine sched_take 11 rfl (by kernel_rfl) (by kernel_rfl) (by kernel_rfl) (fun _ _ _ h => h) rfl (fun x hx => by go_simp; rfl) ?_
              go_simp
              refine sched_take 12 rfl (by kernel_rfl) (by kernel_rfl) (by kernel_rfl) (fun _ _ _ h => h) rfl (fun x hx => by go_simp; rfl) ?_
              go_simp
              refine sched_take 13 rfl (by kernel_rfl) (by kernel_rfl) (by kernel_rfl) (fun _ _ _ h => h) rfl (fun x hx => by go_simp; rfl) ?_
              go_simp
              refine sched_take 14 rfl (by kernel_rfl) (by kernel_rfl) (by kernel_rfl) (fun _ _ _ h => h) rfl (fun x hx => by go_simp; rfl) ?_
              go_simp
              refine sched_take 15 rfl (by kernel_rfl) (by kernel_rfl) (by kernel_rfl) (fun _ _ _ h => h) rfl (fun x hx => by go_simp; rfl) ?_
              go_simp
              refine sched_take 16 rfl (by kernel_rfl) (by kernel_rfl) (by kernel_rfl) (fun _ _ _ h => h) rfl (fun x hx => by go_simp; rfl) ?_
              go_simp
              refine sched_take 17 rfl (by kernel_rfl) (by kernel_rfl) (by kernel_rfl) (fun _ _ _ h => h) rfl (fun x hx => by go_simp; rfl) ?_
              go_simp
              refine sched_take 19 rfl (by kernel_rfl) (by kernel_rfl) (by kernel_rfl) (fun _ _ _ h => h) rfl (fun x hx => by go_simp; rfl) ?_
              go_simp
              refine sched_take 20 rfl (by kernel_rfl) (by kernel_rfl) (by kernel_rfl) (fun _ _ _ h => h) rfl (fun x hx => by go_simp; rfl) ?_
              go_simp
              refine sched_take 21 rfl (by kernel_rfl) (by kernel_rfl) (by kernel_rfl) (fun _ _ _ h => h) rfl (fun x hx => by go_simp; rfl) ?_
              go_simp
              refine sched_take 22 rfl (by kernel_rfl) (by kernel_rfl) (by kernel_rfl) (fun _ _ _ h => h) rfl (fun x hx => by go_simp; rfl) ?_
              go_simp
              refine sched_take 23 rfl (by kernel_rfl) (by kernel_rfl) (by kernel_rfl) (fun _ _ _ h => h) rfl (fun x hx => by have c2 := (HU1.out.trans hx).cell C1.out (fun h => h); go_simp; rfl) ?_
              go_simp
              refine sched_alone 18 (by kernel_rfl) rfl rfl ?_
              go_simp
              refine (hep.out _ _ HU1.out).mono ?_
              rintro e w2 ⟨rfl, hu⟩
              refine ⟨hu, ?_⟩
              have HU2 := Lib.hid (HU1.out.trans hu)
              clear hu
              rw [hE'.out]
              go_simp
              refine sched_take 24 rfl (by kernel_rfl) (by kernel_rfl) (by kernel_rfl) (fun _ _ _ h => h) rfl (fun x hx => by go_simp; rfl) ?_
              go_simp
              refine sched_take 25 rfl (by kernel_rfl) (by kernel_rfl) (by kernel_rfl) (fun _ _ _ h => h) rfl (fun x hx => by go_simp; rfl) ?_
              go_simp
              refine sched_done (by kernel_rfl) ?_
              go_wp2_with fail
              go_roundw
              case measure => simp [intOf]; omega
              case rel => exact ⟨k + 1, by omega, by omega, by go_num, hR', HU2⟩
            · have he' : (x.ep == y.ep) = false := by simp [he]
              have hR' := Lib.hid (show N = k by have h1 := hst'.out; rw [if_neg he] at h1; have h2 := hR.out; omega)
              clear he
              go_wp2_with fail
              refine sched_begin NoB (by kernel_rfl) ?_
              have HUr := Lib.hid hU.out.drew
              refine sched_take 0 rfl (by kernel_rfl) (by kernel_rfl) (by kernel_rfl) (fun _ _ _ h => h) rfl (fun x hx => by go_simp; rfl) ?_
              go_simp
              refine sched_take 1 rfl (by kernel_rfl) (by kernel_rfl) (by kernel_rfl) (fun _ _ _ h => h) rfl (fun x hx => by go_simp; rfl) ?_
              go_simp
              refine sched_take 2 rfl (by kernel_rfl) (by kernel_rfl) (by kernel_rfl) (fun _ _ _ h => h) rfl (fun x hx => by go_simp; rfl) ?_
              go_simp
              refine sched_take 3 rfl (by kernel_rfl) (by kernel_rfl) (by kernel_rfl) (fun _ _ _ h => h) rfl (fun x hx => by go_simp; rfl) ?_
              go_simp
              refine sched_take 4 rfl (by kernel_rfl) (by kernel_rfl) (by kernel_rfl) (fun _ _ _ h => h) rfl (fun x hx => by go_simp; rfl) ?_
              go_simp
              refine sched_take 5 rfl (by kernel_rfl) (by kernel_rfl) (by kernel_rfl) (fun _ _ _ h => h) rfl (fun x hx => by go_simp; rfl) ?_
              go_simp
              refine sched_take 6 rfl (by kernel_rfl) (by kernel_rfl) (by kernel_rfl) (fun _ _ _ h => h) rfl (fun x hx => by go_simp; rfl) ?_
              go_simp
              refine sched_take 7 rfl (by kernel_rfl) (by kernel_rfl) (by kernel_rfl) (fun _ _ _ h => h) rfl (fun x hx => by go_simp; rfl) ?_
              go_simp
              refine sched_take 8 rfl (by kernel_rfl) (by kernel_rfl) (by kernel_rfl) (fun _ _ _ h => h) rfl (fun x hx => by go_simp; rfl) ?_
              go_simp
              refine sched_take 9 rfl (by kernel_rfl) (by kernel_rfl) (by kernel_rfl) (fun _ _ _ h => h) rfl (fun x hx => by go_simp; rfl) ?_
              go_simp
              refine sched_alone 10 (by kernel_rfl) rfl rfl ?_
              go_simp
              refine (hhas.out _ _ HUr.out).mono ?_
              rintro e w1 ⟨rfl, hu⟩
              refine ⟨hu, ?_⟩
              have HU1 := Lib.hid (HUr.out.trans hu)
              clear hu
              rw [hB.out]
              go_simp
              refine sched_take 11 rfl (by kernel_rfl) (by kernel_rfl) (by kernel_rfl) (fun _ _ _ h => h) rfl (fun x hx => by go_simp; rfl) ?_
              go_simp
              refine sched_take 12 rfl (by kernel_rfl) (by kernel_rfl) (by kernel_rfl) (fun _ _ _ h => h) rfl (fun x hx => by go_simp; rfl) ?_
              go_simp
              refine sched_take 13 rfl (by kernel_rfl) (by kernel_rfl) (by kernel_rfl) (fun _ _ _ h => h) rfl (fun x hx => by go_simp; rfl) ?_
              go_simp
              refine sched_take 14 rfl (by kernel_rfl) (by kernel_rfl) (by kernel_rfl) (fun _ _ _ h => h) rfl (fun x hx => by go_simp; rfl) ?_
              go_simp
              refine sched_take 15 rfl (by kernel_rfl) (by kernel_rfl) (by kernel_rfl) (fun _ _ _ h => h) rfl (fun x hx => by go_simp; rfl) ?_
              go_simp
              refine sched_take 16 rfl (by kernel_rfl) (by kernel_rfl) (by kernel_rfl) (fun _ _ _ h => h) rfl (fun x hx => by go_simp; rfl) ?_
              go_simp
              refine sched_take 17 rfl (by kernel_rfl) (by kernel_rfl) (by kernel_rfl) (fun _ _ _ h => h) rfl (fun x hx => by go_simp; rfl) ?_
              go_simp
              refine sched_take 19 rfl (by kernel_rfl) (by kernel_rfl) (by kernel_rfl) (fun _ _ _ h => h) rfl (fun x hx => by go_simp; rfl) ?_
              go_simp
              refine sched_take 20 rfl (by kernel_rfl) (by kernel_rfl) (by kernel_rfl) (fun _ _ _ h => h) rfl (fun x hx => by go_simp; rfl) ?_
              go_simp
              refine sched_take 21 rfl (by kernel_rfl) (by kernel_rfl) (by kernel_rfl) (fun _ _ _ h => h) rfl (fun x hx => by go_simp; rfl) ?_
              go_simp
              refine sched_take 22 rfl (by kernel_rfl) (by kernel_rfl) (by kernel_rfl) (fun _ _ _ h => h) rfl (fun x hx => by go_simp; rfl) ?_
              go_simp
              refine sched_take 23 rfl (by kernel_rfl) (by kernel_rfl) (by kernel_rfl) (fun _ _ _ h => h) rfl (fun x hx => by have c2 := (HU1.out.trans hx).cell C1.out (fun h => h); go_simp; rfl) ?_
              go_simp
              refine sched_alone 18 (by kernel_rfl) rfl rfl ?_
              go_simp
              refine (hep.out _ _ HU1.out).mono ?_
              rintro e w2 ⟨rfl, hu⟩
              refine ⟨hu, ?_⟩
              have HU2 := Lib.hid (HU1.out.trans hu)
              clear hu
              rw [hE'.out]
              go_simp
              refine sched_take 24 rfl (by kernel_rfl) (by kernel_rfl) (by kernel_rfl) (fun _ _ _ h => h) rfl (fun x hx => by go_simp; rfl) ?_
              go_simp
              refine sched_take 25 rfl (by kernel_rfl) (by kernel_rfl) (by kernel_rfl) (fun _ _ _ h => h) rfl (fun x hx => by go_simp; rfl) ?_
              go_simp
              refine sched_done (by kernel_rfl) ?_
              go_wp2_with fail
              go_ret
              exact ⟨by rw [hR'.out]; rfl, HU2.out⟩
          · have hB := Lib.hid (decide_eq_false (show ¬ (1 ≤ (a : Int) + k + 1 ∧ (a : Int) + k + 1 ≤ (l.length : Int)) by omega))
            have hR' := Lib.hid (show N = k by have h1 := sameD_end1 (l := l) (q := q) (a := a) (k := k) (by omega); have h2 := hR.out; omega)
            clear hin
            go_wp2_with fail
            refine sched_begin NoB (by kernel_rfl) ?_
            have HUr := Lib.hid hU.out.drew
            refine sched_take 0 rfl (by kernel_rfl) (by kernel_rfl) (by kernel_rfl) (fun _ _ _ h => h) rfl (fun x hx => by go_simp; rfl) ?_
            go_simp
            refine sched_take 1 rfl (by kernel_rfl) (by kernel_rfl) (by kernel_rfl) (fun _ _ _ h => h) rfl (fun x hx => by go_simp; rfl) ?_
            go_simp
            refine sched_take 2 rfl (by kernel_rfl) (by kernel_rfl) (by kernel_rfl) (fun _ _ _ h => h) rfl (fun x hx => by go_simp; rfl) ?_
            go_simp
            refine sched_take 3 rfl (by kernel_rfl) (by kernel_rfl) (by kernel_rfl) (fun _ _ _ h => h) rfl (fun x hx => by go_simp; rfl) ?_
            go_simp
            refine sched_take 4 rfl (by kernel_rfl) (by kernel_rfl) (by kernel_rfl) (fun _ _ _ h => h) rfl (fun x hx => by go_simp; rfl) ?_
            go_simp
            refine sched_take 5 rfl (by kernel_rfl) (by kernel_rfl) (by kernel_rfl) (fun _ _ _ h => h) rfl (fun x hx => by go_simp; rfl) ?_
            go_simp
            refine sched_take 6 rfl (by kernel_rfl) (by kernel_rfl) (by kernel_rfl) (fun _ _ _ h => h) rfl (fun x hx => by go_simp; rfl) ?_
            go_simp
            refine sched_take 7 rfl (by kernel_rfl) (by kernel_rfl) (by kernel_rfl) (fun _ _ _ h => h) rfl (fun x hx => by go_simp; rfl) ?_
            go_simp
            refine sched_take 8 rfl (by kernel_rfl) (by kernel_rfl) (by kernel_rfl) (fun _ _ _ h => h) rfl (fun x hx => by go_simp; rfl) ?_
            go_simp
            refine sched_take 9 rfl (by kernel_rfl) (by kernel_rfl) (by kernel_rfl) (fun _ _ _ h => h) rfl (fun x hx => by go_simp; rfl) ?_
            go_simp
            refine sched_alone 10 (by kernel_rfl) rfl rfl ?_
            go_simp
            refine (hhas.out _ _ HUr.out).mono ?_
            rintro e w1 ⟨rfl, hu⟩
            refine ⟨hu, ?_⟩
            have HU1 := Lib.hid (HUr.out.trans hu)
            clear hu
            rw [hB.out]
            go_simp
            refine sched_take 11 rfl (by kernel_rfl) (by kernel_rfl) (by kernel_rfl) (fun _ _ _ h => h) rfl (fun x hx => by go_simp; rfl) ?_
            go_simp
            refine sched_take 12 rfl (by kernel_rfl) (by kernel_rfl) (by kernel_rfl) (fun _ _ _ h => h) rfl (fun x hx => by go_simp; rfl) ?_
            go_simp
            refine sched_skip 13 rfl (by kernel_rfl) (by kernel_rfl) (by kernel_rfl) (fun _ _ _ h => h) rfl ?_
            go_simp
            refine sched_skip 14 rfl (by kernel_rfl) (by kernel_rfl) (by kernel_rfl) (fun _ _ _ h => h) rfl ?_
            go_simp
            refine sched_skip 15 rfl (by kernel_rfl) (by kernel_rfl) (by kernel_rfl) (fun _ _ _ h => h) rfl ?_
            go_simp
            refine sched_skip 16 rfl (by kernel_rfl) (by kernel_rfl) (by kernel_rfl) (fun _ _ _ h => h) rfl ?_
            go_simp
            refine sched_skip 17 rfl (by kernel_rfl) (by kernel_rfl) (by kernel_rfl) (fun _ _ _ h => h) rfl ?_
            go_simp
            refine sched_skip 18 rfl (by kernel_rfl) (by kernel_rfl) (by kernel_rfl) (fun _ _ _ h => h) rfl ?_
            go_simp
            refine sched_skip 19 rfl (by kernel_rfl) (by kernel_rfl) (by kernel_rfl) (fun _ _ _ h => h) rfl ?_
            go_simp
            refine sched_skip 20 rfl (by kernel_rfl) (by kernel_rfl) (by kernel_rfl) (fun _ _ _ h => h) rfl ?_
            go_simp
            refine sched_skip 21 rfl (by kernel_rfl) (by kernel_rfl) (by kernel_rfl) (fun _ _ _ h => h) rfl ?_
            go_simp
            refine sched_skip 22 rfl (by kernel_rfl) (by kernel_rfl) (by kernel_rfl) (fun _ _ _ h => h) rfl ?_
            go_simp
            refine sched_skip 23 rfl (by kernel_rfl) (by kernel_rfl) (by kernel_rfl) (fun _ _ _ h => h) rfl ?_
            go_simp
            refine sched_skip 24 rfl (by kernel_rfl) (by kernel_rfl) (by kernel_rfl) (fun _ _ _ h => h) rfl ?_
            go_simp
            refine sched_take 25 rfl (by kernel_rfl) (by kernel_rfl) (by kernel_rfl) (fun _ _ _ h => h) rfl (fun x hx => by go_simp; rfl) ?_
            go_simp
            refine sched_done (by kernel_rfl) ?_
            go_wp2_with fail
            go_ret
            exact ⟨by rw [hR'.out]; rfl, HU1.out⟩
        · have e3 : decide (k < q.length) = false := decide_eq_false hlt
          have hR' := Lib.hid (show N = k by have h1 := sameD_end2 (l := l) (q := q) (a := a) (k := k) (by omega); have h2 := hR.out; omega)
          clear hlt
          go_wp2_with fail
          refine sched_begin NoB (by kernel_rfl) ?_
          have HUr := Lib.hid hU.out.drew
          refine sched_take 0 rfl (by kernel_rfl) (by kernel_rfl) (by kernel_rfl) (fun _ _ _ h => h) rfl (fun x hx => by go_simp; rfl) ?_
          go_simp
          refine sched_take 1 rfl (by kernel_rfl) (by kernel_rfl) (by kernel_rfl) (fun _ _ _ h => h) rfl (fun x hx => by go_simp; rfl) ?_
          go_simp
          refine sched_take 2 rfl (by kernel_rfl) (by kernel_rfl) (by kernel_rfl) (fun _ _ _ h => h) rfl (fun x hx => by go_simp; rfl) ?_
          go_simp
          refine sched_take 3 rfl (by kernel_rfl) (by kernel_rfl) (by kernel_rfl) (fun _ _ _ h => h) rfl (fun x hx => by go_simp; rfl) ?_
          go_simp
          refine sched_take 4 rfl (by kernel_rfl) (by kernel_rfl) (by kernel_rfl) (fun _ _ _ h => h) rfl (fun x hx => by go_simp; rfl) ?_
          go_simp
          refine sched_skip 5 rfl (by kernel_rfl) (by kernel_rfl) (by kernel_rfl) (fun _ _ _ h => h) rfl ?_
          go_simp
          refine sched_skip 6 rfl (by kernel_rfl) (by kernel_rfl) (by kernel_rfl) (fun _ _ _ h => h) rfl ?_
          go_simp
          refine sched_skip 7 rfl (by kernel_rfl) (by kernel_rfl) (by kernel_rfl) (fun _ _ _ h => h) rfl ?_
          go_simp
          refine sched_skip 8 rfl (by kernel_rfl) (by kernel_rfl) (by kernel_rfl) (fun _ _ _ h => h) rfl ?_
          go_simp
          refine sched_skip 9 rfl (by kernel_rfl) (by kernel_rfl) (by kernel_rfl) (fun _ _ _ h => h) rfl ?_
          go_simp
          refine sched_skip 10 rfl (by kernel_rfl) (by kernel_rfl) (by kernel_rfl) (fun _ _ _ h => h) rfl ?_
          go_simp
          refine sched_take 11 rfl (by kernel_rfl) (by kernel_rfl) (by kernel_rfl) (fun _ _ _ h => h) rfl (fun x hx => by go_simp; rfl) ?_
          go_simp
          refine sched_take 12 rfl (by kernel_rfl) (by kernel_rfl) (by kernel_rfl) (fun _ _ _ h => h) rfl (fun x hx => by go_simp; rfl) ?_
          go_simp
          refine sched_skip 13 rfl (by kernel_rfl) (by kernel_rfl) (by kernel_rfl) (fun _ _ _ h => h) rfl ?_
          go_simp
          refine sched_skip 14 rfl (by kernel_rfl) (by kernel_rfl) (by kernel_rfl) (fun _ _ _ h => h) rfl ?_
          go_simp
          refine sched_skip 15 rfl (by kernel_rfl) (by kernel_rfl) (by kernel_rfl) (fun _ _ _ h => h) rfl ?_
          go_simp
          refine sched_skip 16 rfl (by kernel_rfl) (by kernel_rfl) (by kernel_rfl) (fun _ _ _ h => h) rfl ?_
          go_simp
          refine sched_skip 17 rfl (by kernel_rfl) (by kernel_rfl) (by kernel_rfl) (fun _ _ _ h => h) rfl ?_
          go_simp
          refine sched_skip 18 rfl (by kernel_rfl) (by kernel_rfl) (by kernel_rfl) (fun _ _ _ h => h) rfl ?_
          go_simp
          refine sched_skip 19 rfl (by kernel_rfl) (by kernel_rfl) (by kernel_rfl) (fun _ _ _ h => h) rfl ?_
          go_simp
          refine sched_skip 20 rfl (by kernel_rfl) (by kernel_rfl) (by kernel_rfl) (fun _ _ _ h => h) rfl ?_
          go_simp
          refine sched_skip 21 rfl (by kernel_rfl) (by kernel_rfl) (by kernel_rfl) (fun _ _ _ h => h) rfl ?_
          go_simp
          refine sched_skip 22 rfl (by kernel_rfl) (by kernel_rfl) (by kernel_rfl) (fun _ _ _ h => h) rfl ?_
          go_simp
          refine sched_skip 23 rfl (by kernel_rfl) (by kernel_rfl) (by kernel_rfl) (fun _ _ _ h => h) rfl ?_
          go_simp
          refine sched_skip 24 rfl (by kernel_rfl) (by kernel_rfl) (by kernel_rfl) (fun _ _ _ h => h) rfl ?_
          go_simp
          refine sched_take 25 rfl (by kernel_rfl) (by kernel_rfl) (by kernel_rfl) (fun _ _ _ h => h) rfl (fun x hx => by go_simp; rfl) ?_
          go_simp
          refine sched_done (by kernel_rfl) ?_
          go_wp2_with fail
          go_ret
          exact ⟨by rw [hR'.out]; rfl, HUr.out⟩
end Go.Proofs.Ytobfolkcpfaplaa
