/- A learner, function by function (2): what it answers. -/
import Derived.Test.YtmcpcladjfddmaaLearn1
namespace Go.Proofs.Ytmcpcladjfddmaa
open Go.RowKit Kit
set_option linter.unusedVariables false

set_option maxHeartbeats 1000000 in
theorem within_any (s : Int) (w : World) : Calls Try.prog 35 #[.int .i64 s] w fun e w' => e = .returned (.bool (decide (0 ≤ s ∧ s < 400))) ∧ w = w' := by
  by_cases h0 : 0 ≤ s
  · have h0b : decide (0 ≤ s) = true := decide_eq_true h0
    have e : decide (0 ≤ s ∧ s < 400) = decide (s < 400) := decide_eq_decide.2 ⟨fun h => h.2, fun h => ⟨h0, h⟩⟩
    rw [e]
    clear e
    generalize hD : decide (s < 400) = D at *
    have HD := Lib.hid hD
    clear hD
    go_enter Try.func35, Try.ntmps35
    go_wp2_with fail
    go_ret
    exact ⟨by rw [← HD.out]; first | rfl | simp, rfl⟩
  · have h0b : decide (0 ≤ s) = false := decide_eq_false h0
    have e : decide (0 ≤ s ∧ s < 400) = false := decide_eq_false (fun h => h0 h.1)
    rw [e]
    clear e
    go_enter Try.func35, Try.ntmps35
    go_wp2_with fail
    go_ret
    exact ⟨by first | rfl | simp, rfl⟩

set_option maxHeartbeats 1000000 in
theorem prefix_any (p : Nat) (m : Ln) (w : World) (h : Lrn w p m) : Calls Try.prog 13 #[.pointer (some ⟨p, 0, none⟩)] w fun e w' => e = .returned (.int .i64 m.pre) ∧ w = w' := by
  obtain ⟨cs, h1, _, h3, h4⟩ := h
  have c0 : w.cell? ⟨p, 800, none⟩ = some (.int .i64 m.pre) := by simp only [World.cell?, h1]; exact h3
  clear h1 h3 h4
  go_enter Try.func13, Try.ntmps13
  go_wp2_with fail
  go_ret
  exact ⟨rfl, rfl⟩
set_option maxHeartbeats 1000000 in
theorem top_any (p : Nat) (m : Ln) (w : World) (h : Lrn w p m) : Calls Try.prog 19 #[.pointer (some ⟨p, 0, none⟩)] w fun e w' => e = .returned (.int .i64 m.top) ∧ w = w' := by
  obtain ⟨cs, h1, _, h3, h4⟩ := h
  have c0 : w.cell? ⟨p, 801, none⟩ = some (.int .i64 m.top) := by simp only [World.cell?, h1]; exact h4
  clear h1 h3 h4
  go_enter Try.func19, Try.ntmps19
  go_wp2_with fail
  go_ret
  exact ⟨rfl, rfl⟩
/-- A slot's value. -/
def Ln.val (m : Ln) (s : Int) : Option ByteArray := if 0 ≤ s ∧ s < 400 then m.f s.toNat else none
set_option maxHeartbeats 1000000 in
set_option maxRecDepth 100000 in
theorem val_any (p : Nat) (m : Ln) (s : Int) (w : World) (h : Lrn w p m) :
    Calls Try.prog 21 #[.pointer (some ⟨p, 0, none⟩), .int .i64 s] w fun e w' => e = .returned (.tuple #[.string ((m.val s).getD ⟨#[]⟩), .bool (m.val s).isSome]) ∧ Upd NoB w w' := by
  have hw := fun w => within_any s w
  by_cases hs : 0 ≤ s ∧ s < 400
  · rw [decide_eq_true hs] at hw
    have HW := Lib.hid hw
    clear hw
    obtain ⟨k, rfl⟩ : ∃ k : Nat, s = k := Int.eq_ofNat_of_zero_le hs.1
    have hk : k < 400 := by omega
    have hv : m.val k = m.f k := by unfold Ln.val; rw [if_pos hs]; rfl
    rw [hv]
    obtain ⟨cs, h1, h2, _, _⟩ := h
    have c0 : w.cell? ⟨p, 2 * k, none⟩ = some (.string ((m.f k).getD ⟨#[]⟩)) := by simp only [World.cell?, h1]; exact (h2 k hk).1
    have c1 : w.cell? ⟨p, 2 * k + 1, none⟩ = some (.bool (m.f k).isSome) := by simp only [World.cell?, h1]; exact (h2 k hk).2
    generalize (m.f k).getD ⟨#[]⟩ = S at *
    generalize (m.f k).isSome = B at *
    have C0 := Lib.hid (show w.drew.cell? ⟨p, k * 2, none⟩ = some (.string S) by rw [Nat.mul_comm]; exact c0)
    have C1 := Lib.hid (show w.drew.cell? ⟨p, k * 2 + 1, none⟩ = some (.bool B) by rw [Nat.mul_comm]; exact c1)
    clear c0 c1 h1 h2 hv
    have hk0 : (0 : Int) ≤ (k : Int) := by omega
    have hk4 : (k : Int) < 400 := by omega
    clear hs
    go_enter Try.func21, Try.ntmps21
    go_wp2_with fail
    refine (HW.out _).mono ?_
    rintro e w' ⟨rfl, rfl⟩
    go_wp2_with fail
    refine sched_begin NoB (by kernel_rfl) ?_
    refine sched_take 0 rfl (by kernel_rfl) (by kernel_rfl) (by kernel_rfl) (fun _ _ _ h => h) rfl (fun x hx => by go_simp; rfl) ?_
    go_simp
    refine sched_take 1 rfl (by kernel_rfl) (by kernel_rfl) (by kernel_rfl) (fun _ _ _ h => h) rfl (fun x hx => by go_simp; rfl) ?_
    go_simp
    refine sched_take 2 rfl (by kernel_rfl) (by kernel_rfl) (by kernel_rfl) (fun _ _ _ h => h) rfl (fun x hx => by go_simp; rfl) ?_
    go_simp
    refine sched_take 3 rfl (by kernel_rfl) (by kernel_rfl) (by kernel_rfl) (fun _ _ _ h => h) rfl (fun x hx => by go_simp; rfl) ?_
    go_simp
    refine sched_take 4 rfl (by kernel_rfl) (by kernel_rfl) (by kernel_rfl) (fun _ _ _ h => h) rfl (fun x hx => by go_simp; rfl) ?_
    go_simp
    refine sched_take 5 rfl (by kernel_rfl) (by kernel_rfl) (by kernel_rfl) (fun _ _ _ h => h) rfl (fun x hx => by go_simp; rfl) ?_
    go_simp
    refine sched_take 6 rfl (by kernel_rfl) (by kernel_rfl) (by kernel_rfl) (fun _ _ _ h => h) rfl (fun x hx => by have hcx := hx.cell C0.out (fun h => h); go_simp; rfl) ?_
    go_simp
    refine sched_take 7 rfl (by kernel_rfl) (by kernel_rfl) (by kernel_rfl) (fun _ _ _ h => h) rfl (fun x hx => by go_simp; rfl) ?_
    go_simp
    refine sched_take 8 rfl (by kernel_rfl) (by kernel_rfl) (by kernel_rfl) (fun _ _ _ h => h) rfl (fun x hx => by go_simp; rfl) ?_
    go_simp
    refine sched_take 9 rfl (by kernel_rfl) (by kernel_rfl) (by kernel_rfl) (fun _ _ _ h => h) rfl (fun x hx => by go_simp; rfl) ?_
    go_simp
    refine sched_take 10 rfl (by kernel_rfl) (by kernel_rfl) (by kernel_rfl) (fun _ _ _ h => h) rfl (fun x hx => by go_simp; rfl) ?_
    go_simp
    refine sched_take 11 rfl (by kernel_rfl) (by kernel_rfl) (by kernel_rfl) (fun _ _ _ h => h) rfl (fun x hx => by go_simp; rfl) ?_
    go_simp
    refine sched_take 12 rfl (by kernel_rfl) (by kernel_rfl) (by kernel_rfl) (fun _ _ _ h => h) rfl (fun x hx => by go_simp; rfl) ?_
    go_simp
    refine sched_take 13 rfl (by kernel_rfl) (by kernel_rfl) (by kernel_rfl) (fun _ _ _ h => h) rfl (fun x hx => by have hcx := hx.cell C1.out (fun h => h); go_simp; rfl) ?_
    go_simp
    refine sched_take 14 rfl (by kernel_rfl) (by kernel_rfl) (by kernel_rfl) (fun _ _ _ h => h) rfl (fun x hx => by go_simp; rfl) ?_
    go_simp
    refine sched_take 15 rfl (by kernel_rfl) (by kernel_rfl) (by kernel_rfl) (fun _ _ _ h => h) rfl (fun x hx => by go_simp; rfl) ?_
    go_simp
    refine sched_done (by kernel_rfl) ?_
    go_wp2_with fail
    go_ret2
    exact ⟨rfl, (Upd.refl _ _).drew⟩
  · rw [decide_eq_false hs] at hw
    have HW := Lib.hid hw
    clear hw
    have hv : m.val s = none := by unfold Ln.val; rw [if_neg hs]
    rw [hv]
    clear hs hv
    go_enter Try.func21, Try.ntmps21
    go_wp2_with fail
    refine (HW.out _).mono ?_
    rintro e w' ⟨rfl, rfl⟩
    go_wp2_with fail
    go_ret2
    exact ⟨rfl, Upd.refl _ _⟩
end Go.Proofs.Ytmcpcladjfddmaa
