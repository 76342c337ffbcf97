/- A learner, function by function (5): two rows of texts; one that is not there; chapter 19's example. -/
import Derived.Test.YtmcpcladjfddmaaLearn4
namespace Go.Proofs.Ytmcpcladjfddmaa
open Go.RowKit Kit
set_option linter.unusedVariables false

theorem str_ne (x y : ByteArray) (h : ¬ x = y) : (x.toList == y.toList) = false := by
  rw [← Bool.not_eq_true, beq_iff_eq, ByteArray.toList_eq, ByteArray.toList_eq]
  exact fun e => h (ByteArray.ext (Array.toList_inj.1 e))
set_option maxHeartbeats 1000000 in
set_option maxRecDepth 100000 in
theorem keysEq_any {S T : Nat → Prop} (v v' : Value) (l l' : List ByteArray) (w : World) (h : RSl Rep.str w S v l) (h' : RSl Rep.str w T v' l') :
    Calls Try.prog 14 #[v, v'] w fun e w' => e = .returned (.bool (decide (l = l'))) ∧ Upd NoB w w' := by
  have H := Lib.hid h
  have H' := Lib.hid h'
  obtain ⟨A, c, cs, rfl, d1, d2, _⟩ := h
  obtain ⟨A', c', cs', rfl, d1', d2', _⟩ := h'
  have e2 : c ≤ 9223372036854775807 := d2
  have e2' : c' ≤ 9223372036854775807 := d2'
  by_cases hll : l.length = l'.length
  · have hllb : ((l.length : Int) != (l'.length : Int)) = false := by simp; omega
    have HLL := Lib.hid hll
    clear hll
    go_enter Try.func14, Try.ntmps14
    go_wp2_with fail
    go_loopw [5, 13] (fun x5 i wr => ∃ k : Nat, k ≤ l'.length ∧ i = .int .i64 k ∧ Hid (∀ j, j < k → l[j]? = l'[j]?) ∧ Hid (Upd NoB w wr)) (fun _ i _ => l'.length - (intOf i).toNat)
    case atStart => exact ⟨0, by omega, rfl, Lib.hid (fun j hj => by omega), Lib.hid (Upd.refl _ _)⟩
    case round =>
      obtain ⟨k, hk, rfl, hE, hU⟩ := hrel
      by_cases hlt' : k < l'.length
      · have hlt : k < l.length := by rw [HLL.out]; exact hlt'
        obtain ⟨ga, oa, ua, rfl, hua, hca, _⟩ := H.out.cell1 rfl k hlt
        obtain ⟨gb, ob, ub, rfl, hub, hcb, _⟩ := H'.out.cell1 rfl k hlt'
        obtain rfl := (List.cons.inj hua.1).1
        obtain rfl := (List.cons.inj hub.1).1
        have HCA := Lib.hid (hU.out.drew.cell hca (fun h => h))
        have HCB := Lib.hid (hU.out.drew.cell hcb (fun h => h))
        have m1 : (0 : Int) ≤ (k : Int) := by omega
        have m2 : (k : Int) < (l.length : Int) := by omega
        have m3 : (k : Int) < (l'.length : Int) := by omega
        have HX := Lib.hid (show l[k]? = some l[k] from List.getElem?_eq_getElem hlt)
        have HY := Lib.hid (show l'[k]? = some l'[k] from List.getElem?_eq_getElem hlt')
        generalize l[k] = x at *
        generalize l'[k] = y at *
        clear hua hub hca hcb
        by_cases hxy : x = y
        · have hn : Hid (∀ j, j < k + 1 → l[j]? = l'[j]?) := Lib.hid (fun j hj => by
            by_cases e : j = k
            · rw [e, HX.out, HY.out, hxy]
            · exact hE.out j (by omega))
          subst hxy
          go_wp2_with fail
          refine sched_begin NoB (by kernel_rfl) ?_
          refine sched_take 0 rfl (by kernel_rfl) (by kernel_rfl) (by kernel_rfl) (fun _ _ _ h => h) rfl (fun x hx => by go_simp; rfl) ?_
          go_simp
          refine sched_take 1 rfl (by kernel_rfl) (by kernel_rfl) (by kernel_rfl) (fun _ _ _ h => h) rfl (fun x hx => by go_simp; rfl) ?_
          go_simp
          refine sched_take 2 rfl (by kernel_rfl) (by kernel_rfl) (by kernel_rfl) (fun _ _ _ h => h) rfl (fun x hx => by go_simp; rfl) ?_
          go_simp
          refine sched_take 3 rfl (by kernel_rfl) (by kernel_rfl) (by kernel_rfl) (fun _ _ _ h => h) rfl (fun x hx => by have hcx := hx.cell HCA.out (fun h => h); go_simp; rfl) ?_
          go_simp
          refine sched_take 4 rfl (by kernel_rfl) (by kernel_rfl) (by kernel_rfl) (fun _ _ _ h => h) rfl (fun x hx => by go_simp; rfl) ?_
          go_simp
          refine sched_take 5 rfl (by kernel_rfl) (by kernel_rfl) (by kernel_rfl) (fun _ _ _ h => h) rfl (fun x hx => by go_simp; rfl) ?_
          go_simp
          refine sched_take 6 rfl (by kernel_rfl) (by kernel_rfl) (by kernel_rfl) (fun _ _ _ h => h) rfl (fun x hx => by go_simp; rfl) ?_
          go_simp
          refine sched_take 7 rfl (by kernel_rfl) (by kernel_rfl) (by kernel_rfl) (fun _ _ _ h => h) rfl (fun x hx => by have hcx := hx.cell HCB.out (fun h => h); go_simp; rfl) ?_
          go_simp
          refine sched_take 8 rfl (by kernel_rfl) (by kernel_rfl) (by kernel_rfl) (fun _ _ _ h => h) rfl (fun x hx => by go_simp; rfl) ?_
          go_simp
          refine sched_done (by kernel_rfl) ?_
          go_wp2_with fail
          go_roundw
          case measure => simp [intOf]; omega
          case rel => exact ⟨k + 1, by omega, by go_num, hn, Lib.hid hU.out.drew⟩
        · have hb := str_ne x y hxy
          have hF := Lib.hid (show decide (l = l') = false from decide_eq_false (fun e => hxy (by have := HX.out; rw [e, HY.out] at this; exact (Option.some.inj this).symm)))
          clear hxy
          go_wp2_with fail
          refine sched_begin NoB (by kernel_rfl) ?_
          refine sched_take 0 rfl (by kernel_rfl) (by kernel_rfl) (by kernel_rfl) (fun _ _ _ h => h) rfl (fun x hx => by go_simp; rfl) ?_
          go_simp
          refine sched_take 1 rfl (by kernel_rfl) (by kernel_rfl) (by kernel_rfl) (fun _ _ _ h => h) rfl (fun x hx => by go_simp; rfl) ?_
          go_simp
          refine sched_take 2 rfl (by kernel_rfl) (by kernel_rfl) (by kernel_rfl) (fun _ _ _ h => h) rfl (fun x hx => by go_simp; rfl) ?_
          go_simp
          refine sched_take 3 rfl (by kernel_rfl) (by kernel_rfl) (by kernel_rfl) (fun _ _ _ h => h) rfl (fun x hx => by have hcx := hx.cell HCA.out (fun h => h); go_simp; rfl) ?_
          go_simp
          refine sched_take 4 rfl (by kernel_rfl) (by kernel_rfl) (by kernel_rfl) (fun _ _ _ h => h) rfl (fun x hx => by go_simp; rfl) ?_
          go_simp
          refine sched_take 5 rfl (by kernel_rfl) (by kernel_rfl) (by kernel_rfl) (fun _ _ _ h => h) rfl (fun x hx => by go_simp; rfl) ?_
          go_simp
          refine sched_take 6 rfl (by kernel_rfl) (by kernel_rfl) (by kernel_rfl) (fun _ _ _ h => h) rfl (fun x hx => by go_simp; rfl) ?_
          go_simp
          refine sched_take 7 rfl (by kernel_rfl) (by kernel_rfl) (by kernel_rfl) (fun _ _ _ h => h) rfl (fun x hx => by have hcx := hx.cell HCB.out (fun h => h); go_simp; rfl) ?_
          go_simp
          refine sched_take 8 rfl (by kernel_rfl) (by kernel_rfl) (by kernel_rfl) (fun _ _ _ h => h) rfl (fun x hx => by go_simp; rfl) ?_
          go_simp
          refine sched_done (by kernel_rfl) ?_
          go_wp2_with fail
          go_ret
          exact ⟨by rw [hF.out]; rfl, hU.out.drew⟩
      · have hT := Lib.hid (show decide (l = l') = true from decide_eq_true (List.ext_getElem? fun j => by
          by_cases e : j < k
          · exact hE.out j e
          · have := HLL.out
            rw [List.getElem?_eq_none (by omega), List.getElem?_eq_none (by omega)]))
        go_wp2_with fail
        go_ret
        exact ⟨by rw [hT.out]; rfl, hU.out⟩
  · have hllb : ((l.length : Int) != (l'.length : Int)) = true := by simp; omega
    have hF := Lib.hid (show decide (l = l') = false from decide_eq_false (fun e => hll (by rw [e])))
    clear hll
    go_enter Try.func14, Try.ntmps14
    go_wp2_with fail
    go_ret
    exact ⟨by rw [hF.out]; rfl, Upd.refl _ _⟩

/-! ### One that is not there -/
set_option maxHeartbeats 1000000 in
theorem nil_learn (s : Int) (v : ByteArray) (w : World) : Calls Try.prog 12 #[.pointer none, .int .i64 s, .string v] w fun e w' => e = .returned (.int .i64 2) ∧ w = w' := by
  go_enter Try.func12, Try.ntmps12
  go_wp2_with fail
  go_ret
  exact ⟨rfl, rfl⟩
set_option maxHeartbeats 1000000 in
theorem nil_val (s : Int) (w : World) : Calls Try.prog 21 #[.pointer none, .int .i64 s] w fun e w' => e = .returned (.tuple #[.string ⟨#[]⟩, .bool false]) ∧ w = w' := by
  go_enter Try.func21, Try.ntmps21
  go_wp2_with fail
  go_ret2
  exact ⟨rfl, rfl⟩
set_option maxHeartbeats 1000000 in
theorem nil_prefix (w : World) : Calls Try.prog 13 #[.pointer none] w fun e w' => e = .returned (.int .i64 0) ∧ w = w' := by
  go_enter Try.func13, Try.ntmps13
  go_wp2_with fail
  go_ret
  exact ⟨rfl, rfl⟩
set_option maxHeartbeats 1000000 in
theorem nil_top (w : World) : Calls Try.prog 19 #[.pointer none] w fun e w' => e = .returned (.int .i64 0) ∧ w = w' := by
  go_enter Try.func19, Try.ntmps19
  go_wp2_with fail
  go_ret
  exact ⟨rfl, rfl⟩
set_option maxHeartbeats 1000000 in
theorem nil_from (s most : Int) (w : World) : Calls Try.prog 15 #[.pointer none, .int .i64 s, .int .i64 most] w fun e w' => e = .returned (.slice none 0 0) ∧ w = w' := by
  by_cases h : s < 0
  · go_enter Try.func15, Try.ntmps15
    go_wp2_with fail
    go_ret
    exact ⟨rfl, rfl⟩
  · have hd : decide (s < 0) = false := decide_eq_false h
    have hs : 0 ≤ s := by omega
    go_enter Try.func15, Try.ntmps15
    go_wp2_with fail
    go_loopw [7, 8] (fun v7 x8 wr => v7 = .slice none 0 0 ∧ x8 = .int .i64 s ∧ wr = w) (fun _ x8 _ => 0)
    case atStart => exact ⟨rfl, rfl, rfl⟩
    case round =>
      obtain ⟨rfl, rfl, rfl⟩ := hrel
      go_wp2_with fail
      refine (nil_prefix _).mono ?_
      rintro e w2 ⟨rfl, rfl⟩
      go_wp2_with fail
      go_ret
      exact ⟨rfl, rfl⟩

theorem learn_ex1 : Ln.new.learn 0 ⟨#[120]⟩ = (0, ⟨setF (fun _ => none) 0 ⟨#[120]⟩, 1, 1⟩) := by
  have e : adv (setF (fun _ => none) 0 ⟨#[120]⟩) 0 = 1 := by
    rw [adv_step (by omega) rfl, adv_stop (by simp [setF])]
  show (if _ then _ else _) = _
  rw [if_neg (by decide)]
  show ((0 : Int), (⟨setF (fun _ => none) 0 ⟨#[120]⟩, adv (setF (fun _ => none) 0 ⟨#[120]⟩) 0, max 0 (0 + 1)⟩ : Ln)) = _
  rw [e]
  rfl
theorem learn_ex2 : (⟨setF (fun _ => none) 0 ⟨#[120]⟩, 1, 1⟩ : Ln).learn 2 ⟨#[121]⟩ = (0, ⟨setF (setF (fun _ => none) 0 ⟨#[120]⟩) 2 ⟨#[121]⟩, 1, 3⟩) := by
  have e : adv (setF (setF (fun _ => none) 0 ⟨#[120]⟩) 2 ⟨#[121]⟩) 1 = 1 := adv_stop (by simp [setF])
  show (if _ then _ else _) = _
  rw [if_neg (by decide)]
  show ((0 : Int), (⟨setF (setF (fun _ => none) 0 ⟨#[120]⟩) 2 ⟨#[121]⟩, adv (setF (setF (fun _ => none) 0 ⟨#[120]⟩) 2 ⟨#[121]⟩) 1, max 1 (2 + 1)⟩ : Ln)) = _
  rw [e]
  rfl
theorem new_ok : Ln.new.ok := ⟨Nat.zero_le _, Nat.zero_le _, (fun k u h => nomatch h), fun k h => absurd h (Nat.not_lt_zero _), fun _ => rfl⟩
set_option maxHeartbeats 1000000 in
set_option maxRecDepth 100000 in
/-- Chapter 19's example. -/
theorem awakeLearn_any (w : World) : Calls Try.prog 16 #[] w fun e w' => e = .returned (.bool true) ∧ Upd NoB w w' := by
  have hn := Lib.hid (new_any w)
  have h1 := Lib.hid (fun p w (h : Lrn w p Ln.new) => learn_any p Ln.new 0 ⟨#[120]⟩ w h new_ok (by decide))
  rw [learn_ex1] at h1
  have h2 := Lib.hid (fun p w (h : Lrn w p ⟨setF (fun _ => none) 0 ⟨#[120]⟩, 1, 1⟩) => learn_any p _ 2 ⟨#[121]⟩ w h (by have := Ln.learn_ok new_ok 0 ⟨#[120]⟩; rw [learn_ex1] at this; exact this) (by decide))
  rw [learn_ex2] at h2
  generalize setF (fun _ => none) 0 ⟨#[120]⟩ = f1 at *
  generalize setF f1 2 ⟨#[121]⟩ = f2 at *
  go_enter Try.func16, Try.ntmps16
  go_wp2_with fail
  refine hn.out.mono ?_
  rintro e w1 ⟨p, rfl, hp, hl, hu⟩
  have HL := Lib.hid hl
  have HU := Lib.hid hu
  clear hl hu
  go_wp2_with fail
  refine (h1.out _ _ HL.out).mono ?_
  rintro e w2 ⟨rfl, hl, hu⟩
  have HL2 := Lib.hid hl
  have HU2 := Lib.hid (HU.out.then hu (fun i hi e => by omega))
  clear hl hu
  go_wp2_with fail
  refine (h2.out _ _ HL2.out).mono ?_
  rintro e w3 ⟨rfl, hl, hu⟩
  have hpre := Lib.hid (prefix_any _ _ _ hl)
  have htop := Lib.hid (top_any _ _ _ hl)
  have HU3 := Lib.hid (HU2.out.then hu (fun i hi e => by omega))
  clear hl hu
  go_wp2_with fail
  refine (hpre.out).mono ?_
  rintro e w4 ⟨rfl, rfl⟩
  go_wp2_with fail
  refine (htop.out).mono ?_
  rintro e w4 ⟨rfl, rfl⟩
  go_wp2_with fail
  go_ret
  exact ⟨rfl, HU3.out⟩

set_option maxHeartbeats 2000000 in
set_option maxRecDepth 100000 in
/-- A learner that is not there knows nothing (LearnNil). -/
theorem learnNil_walk (s : Int) (v : ByteArray) (w : World) : Calls Try.prog 6 #[.int .i64 s, .string v] w fun e w' => e = .returned (.bool true) ∧ Upd NoB w w' := by
  go_enter Try.func6, Try.ntmps6
  go_wp2_with fail
  refine (nil_val _ _).mono ?_
  rintro e w4 ⟨rfl, rfl⟩
  go_wp2_with fail
  refine (nil_learn _ _ _).mono ?_
  rintro e w4 ⟨rfl, rfl⟩
  go_wp2_with fail
  refine (nil_prefix _).mono ?_
  rintro e w4 ⟨rfl, rfl⟩
  go_wp2_with fail
  refine (nil_top _).mono ?_
  rintro e w4 ⟨rfl, rfl⟩
  go_wp2_with fail
  refine (nil_from _ _ _).mono ?_
  rintro e w4 ⟨rfl, rfl⟩
  go_wp2_with fail
  refine (awakeLearn_any _).mono ?_
  rintro e w4 ⟨rfl, hu⟩
  have HU := Lib.hid hu
  clear hu
  go_wp2_with fail
  go_ret
  exact ⟨rfl, HU.out⟩
end Go.Proofs.Ytmcpcladjfddmaa
