/- Versions, function by function (5): how many are not above a number. -/
import Derived.Test.YtcckljomjpfdaaaObj4
namespace Go.Proofs.Ytcckljomjpfdaaa
open Go.RowKit Kit
set_option linter.unusedVariables false

/-- u is how many of the first m do not meet P. -/
def Parts (P : Nat → Bool) (m u : Nat) : Prop := u ≤ m ∧ (∀ i, i < u → P i = false) ∧ ∀ i, u ≤ i → i < m → P i = true
set_option maxHeartbeats 2000000 in
set_option maxRecDepth 100000 in
theorem search_any (m p q : Nat) (P : Nat → Bool) (w : World) (hm : m ≤ 1000) (hmono : ∀ i j, i ≤ j → j < m → P i = true → P j = true)
    (hP : ∀ i w1, i < m → Upd NoB w w1 → Calls Try.prog 58 #[.int .i64 (i : Nat), .pointer (some ⟨p, 0, none⟩), .pointer (some ⟨q, 0, none⟩)] w1 fun e w' => e = .returned (.bool (P i)) ∧ Upd NoB w1 w') :
    Calls Try.prog 57 #[.int .i64 m, .func (.func 58) #[] #[.pointer (some ⟨p, 0, none⟩), .pointer (some ⟨q, 0, none⟩)]] w fun e w' => ∃ u : Nat, e = .returned (.int .i64 u) ∧ Parts P m u ∧ Upd NoB w w' := by
  have HP := Lib.hid hP
  have HM := Lib.hid hmono
  clear hP hmono
  go_enter Try.func57, Try.ntmps57
  go_wp2_with fail
  go_loopw [5, 6, 7] (fun x5 x6 x7 wr => ∃ i j : Nat, i ≤ j ∧ j ≤ m ∧ x5 = .int .i64 i ∧ x6 = .int .i64 j ∧ Hid (∀ k, k < i → P k = false) ∧ Hid (∀ k, j ≤ k → k < m → P k = true) ∧ Hid (Upd NoB w wr)) (fun x5 x6 _ _ => (intOf x6).toNat - (intOf x5).toNat)
  case atStart => exact ⟨0, m, by omega, by omega, rfl, rfl, Lib.hid (fun k hk => by omega), Lib.hid (fun k h1 h2 => by omega), Lib.hid (Upd.refl _ _)⟩
  case round =>
    obtain ⟨i, j, hij, hjm, rfl, rfl, hA, hB, hU⟩ := hrel
    by_cases hlt : i < j
    · obtain ⟨H, hH⟩ : ∃ H : Nat, H = (i + j) / 2 := ⟨_, rfl⟩
      have hH1 : i ≤ H := by omega
      have hH2 : H < j := by omega
      have hdiv : ((i : Int) + (j : Int)) / 2 = (H : Int) := by omega
      have hw1 : IntKind.u64.wrap ((i : Int) + (j : Int)) = (i : Int) + (j : Int) := by simp only [IntKind.wrap, IntKind.bits, IntKind.signed]; simp; omega
      have hw2 : IntKind.i64.wrap (H : Int) = (H : Int) := by simp only [IntKind.wrap, IntKind.bits, IntKind.signed]; simp; omega
      have hlI : (i : Int) < (j : Int) := by omega
      have hcall := Lib.hid (HP.out H wr (by omega) hU.out)
      clear hH
      cases hb : P H
      · rw [hb] at hcall
        have hA2 : Hid (∀ k, k < H + 1 → P k = false) := Lib.hid (fun k hk => by
          cases e : P k
          · rfl
          · have := HM.out k H (by omega) (by omega) e
            rw [hb] at this
            cases this)
        clear hb
        go_wp2_with fail
        refine hcall.out.mono ?_
        rintro e w2 ⟨rfl, hu⟩
        have hU2 := Lib.hid (hU.out.trans hu)
        clear hu
        go_wp2_with fail
        go_roundw
        case measure => simp [intOf]; omega
        case rel => exact ⟨H + 1, j, by omega, hjm, by go_num, rfl, hA2, hB, hU2⟩
      · rw [hb] at hcall
        have hB2 : Hid (∀ k, H ≤ k → k < m → P k = true) := Lib.hid (fun k h1 h2 => HM.out H k h1 h2 hb)
        clear hb
        go_wp2_with fail
        refine hcall.out.mono ?_
        rintro e w2 ⟨rfl, hu⟩
        have hU2 := Lib.hid (hU.out.trans hu)
        clear hu
        go_wp2_with fail
        go_roundw
        case measure => simp [intOf]; omega
        case rel => exact ⟨i, H, hH1, by omega, rfl, rfl, hA, hB2, hU2⟩
    · obtain rfl : i = j := by omega
      go_wp2_with fail
      go_ret
      exact ⟨i, rfl, ⟨hjm, hA.out, hB.out⟩, hU.out⟩

set_option maxHeartbeats 2000000 in
set_option maxRecDepth 100000 in
theorem upto_fn {S : Nat → Prop} (A : Option Addr) (c : Nat) (l : List Ver) (n : Int) (i p q : Nat) (w : World) (h : RSl Rep.ver w S (.slice A l.length c) l) (hi : i < l.length) (hp : w.cell? ⟨p, 0, none⟩ = some (.slice A l.length c)) (hq : w.cell? ⟨q, 0, none⟩ = some (.int .i64 n)) (hl : l.length ≤ 1000) :
    Calls Try.prog 58 #[.int .i64 i, .pointer (some ⟨p, 0, none⟩), .pointer (some ⟨q, 0, none⟩)] w fun e w' => e = .returned (.bool (decide (n < l[i].at_))) ∧ Upd NoB w w' := by
  obtain ⟨g, o, rcs, rfl, hrep, hcs, hg⟩ := h.cellN i hi
  obtain ⟨hr1, hr2, hr3, hr4⟩ := hrep
  subst hr1
  have C0 := Lib.hid (show w.drew.cell? ⟨g, o + i * 4, none⟩ = some (.int .i64 l[i].at_) from hcs 0 _ rfl)
  have HPc := Lib.hid (show w.drew.cell? ⟨p, 0, none⟩ = _ from hp)
  have HQc := Lib.hid (show w.drew.cell? ⟨q, 0, none⟩ = _ from hq)
  have m1 : (0 : Int) ≤ (i : Int) := by omega
  have m2 : (i : Int) < (l.length : Int) := by omega
  generalize l[i] = x at *
  clear hcs hp hq h
  go_enter Try.func58, Try.ntmps58
  go_wp2_with fail
  refine sched_begin NoB (by kernel_rfl) ?_
  refine sched_take 0 rfl (by kernel_rfl) (by kernel_rfl) (by kernel_rfl) (fun _ _ _ h => h) rfl (fun x hx => by go_simp; rfl) ?_
  go_simp
  refine sched_take 1 rfl (by kernel_rfl) (by kernel_rfl) (by kernel_rfl) (fun _ _ _ h => h) rfl (fun x hx => by have hcx := hx.cell HPc.out (fun h => h); go_simp; rfl) ?_
  go_simp
  refine sched_take 2 rfl (by kernel_rfl) (by kernel_rfl) (by kernel_rfl) (fun _ _ _ h => h) rfl (fun x hx => by go_simp; rfl) ?_
  go_simp
  refine sched_take 3 rfl (by kernel_rfl) (by kernel_rfl) (by kernel_rfl) (fun _ _ _ h => h) rfl (fun x hx => by go_simp; rfl) ?_
  go_simp
  refine sched_take 4 rfl (by kernel_rfl) (by kernel_rfl) (by kernel_rfl) (fun _ _ _ h => h) rfl (fun x hx => by go_simp; rfl) ?_
  go_simp
  refine sched_take 5 rfl (by kernel_rfl) (by kernel_rfl) (by kernel_rfl) (fun _ _ _ h => h) rfl (fun x hx => by have hcx := hx.cell C0.out (fun h => h); go_simp; rfl) ?_
  go_simp
  refine sched_take 6 rfl (by kernel_rfl) (by kernel_rfl) (by kernel_rfl) (fun _ _ _ h => h) rfl (fun x hx => by have hcx := hx.cell HQc.out (fun h => h); go_simp; rfl) ?_
  go_simp
  refine sched_take 7 rfl (by kernel_rfl) (by kernel_rfl) (by kernel_rfl) (fun _ _ _ h => h) rfl (fun x hx => by go_simp; rfl) ?_
  go_simp
  refine sched_take 8 rfl (by kernel_rfl) (by kernel_rfl) (by kernel_rfl) (fun _ _ _ h => h) rfl (fun x hx => by go_simp; rfl) ?_
  go_simp
  refine sched_done (by kernel_rfl) ?_
  go_wp2_with fail
  go_ret
  exact ⟨rfl, (Upd.refl _ _).drew⟩

/-- How many are not above n. -/
def Upto (l : List Ver) (n : Int) (u : Nat) : Prop := Parts (fun i => match l[i]? with | some x => decide (n < x.at_) | none => false) l.length u
theorem rgp_at (l : List Ver) : ∀ n k, rgp l n = true → k < n → okAt l k = true := by
  intro n
  induction n with
  | zero => intro k _ h; omega
  | succ n ih =>
    intro k h hk
    unfold rgp at h
    simp at h
    by_cases e : k = n
    · exact e ▸ h.2
    · exact ih k h.1 (by omega)
/-- What is right rises. -/
theorem right_rises {l : List Ver} (h : rightB l = true) : ∀ (d i : Nat) (x y : Ver), l[i]? = some x → l[i + d]? = some y → x.at_ + d ≤ y.at_ := by
  intro d
  induction d with
  | zero => intro i x y h1 h2; rw [Nat.add_zero, h1] at h2; cases h2; simp
  | succ d ih =>
    intro i x y h1 h2
    have hlt := (List.getElem?_eq_some_iff.1 h2).1
    have hz : l[i + d]? = some l[i + d] := List.getElem?_eq_getElem (by omega)
    have hok := rgp_at l l.length (i + d + 1) h (by omega)
    rw [okAt_succ l (i + d) y _ h2 hz] at hok
    unfold nextB at hok
    simp at hok
    have := ih i x _ h1 hz
    omega
set_option maxHeartbeats 2000000 in
set_option maxRecDepth 100000 in
theorem upto_any {S : Nat → Prop} (v : Value) (l : List Ver) (n : Int) (w : World) (h : RSl Rep.ver w S v l) (hl : l.length ≤ 1000) (hr : rightB l = true) :
    Calls Try.prog 51 #[.agg #[v], .int .i64 n] w fun e w' => ∃ u : Nat, e = .returned (.int .i64 u) ∧ Upto l n u ∧ Upd NoB w w' := by
  obtain ⟨A, c, cs, rfl, d1, d2, _⟩ := id h
  have d2' : c ≤ 9223372036854775807 := d2
  have u0 : Upd NoB w ((w.alloc (.cells #[.slice A l.length c] 44)).alloc (.cells #[.int .i64 n] 3)) := ((Upd.refl _ _).alloc _).alloc _
  have hb0 : ((w.alloc (.cells #[.slice A l.length c] 44)).alloc (.cells #[.int .i64 n] 3)).cell? ⟨w.heap.size, 0, none⟩ = some (.slice A l.length c) := by
    have := Below.heap_alloc (w.alloc (.cells #[.slice A l.length c] 44)) (.cells #[.int .i64 n] 3) w.heap.size (by simp)
    simp only [World.cell?, this, heap_alloc_new]
    rfl
  have hb1 : ((w.alloc (.cells #[.slice A l.length c] 44)).alloc (.cells #[.int .i64 n] 3)).cell? ⟨w.heap.size + 1, 0, none⟩ = some (.int .i64 n) := by
    have := heap_alloc_new (w.alloc (.cells #[.slice A l.length c] 44)) (.cells #[.int .i64 n] 3 (0, 0))
    rw [show (w.alloc (.cells #[.slice A l.length c] 44)).heap.size = w.heap.size + 1 by simp] at this
    simp only [World.cell?, this]
    rfl
  have hs := Lib.hid (search_any l.length w.heap.size (w.heap.size + 1) (fun i => match l[i]? with | some x => decide (n < x.at_) | none => false) _ hl (fun i j hij hj hi => by
      have hj' : l[j]? = some l[j] := List.getElem?_eq_getElem hj
      have hi' : l[i]? = some l[i] := List.getElem?_eq_getElem (by omega)
      have := right_rises hr (j - i) i _ _ hi' (by rw [show i + (j - i) = j by omega]; exact hj')
      simp only [hi', decide_eq_true_eq] at hi
      simp only [hj', decide_eq_true_eq]
      omega)
    (fun i w1 hi hu => by
      have hi' : l[i]? = some l[i] := List.getElem?_eq_getElem hi
      simp only [hi']
      exact upto_fn A c l n i w.heap.size (w.heap.size + 1) w1 (h.upd (u0.trans hu) (fun _ _ h => h)) hi (hu.cell hb0 (fun h => h)) (hu.cell hb1 (fun h => h)) hl))
  have U0 := Lib.hid u0
  clear hb0 hb1 u0 h
  go_enter Try.func51, Try.ntmps51
  go_wp2_with fail
  refine hs.out.mono ?_
  rintro e w2 ⟨u, rfl, hu1, hu2⟩
  have HU1 := Lib.hid hu1
  have HU2 := Lib.hid (U0.out.trans hu2)
  clear hu1 hu2
  go_wp2_with fail
  go_ret
  exact ⟨u, rfl, HU1.out, HU2.out⟩
end Go.Proofs.Ytcckljomjpfdaaa
