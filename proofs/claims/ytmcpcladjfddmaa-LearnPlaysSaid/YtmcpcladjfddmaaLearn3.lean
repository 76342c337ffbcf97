/- A learner, function by function (3): it learns. -/
import Derived.Test.YtmcpcladjfddmaaLearn2
namespace Go.Proofs.Ytmcpcladjfddmaa
open Go.RowKit Kit
set_option linter.unusedVariables false

/-- The least slot from k on that has no value. -/
def adv (f : Nat → Option ByteArray) (k : Nat) : Nat := if h : k < 400 ∧ (f k).isSome = true then adv f (k + 1) else k
termination_by 400 - k
theorem adv_step {f : Nat → Option ByteArray} {k : Nat} (h : k < 400) (hs : (f k).isSome = true) : adv f k = adv f (k + 1) := by
  rw [adv, dif_pos ⟨h, hs⟩]
theorem adv_stop {f : Nat → Option ByteArray} {k : Nat} (h : ¬ (k < 400 ∧ (f k).isSome = true)) : adv f k = k := by
  rw [adv, dif_neg h]
def setF (f : Nat → Option ByteArray) (k : Nat) (v : ByteArray) : Nat → Option ByteArray := fun j => if j = k then some v else f j
def Ln.learn (m : Ln) (s : Int) (v : ByteArray) : Int × Ln :=
  if s < 0 ∨ 400 ≤ s ∨ 64 < v.size then (1, m)
  else match m.f s.toNat with
    | some u => if u = v then (7, m) else (10, m)
    | none => (0, ⟨setF m.f s.toNat v, adv (setF m.f s.toNat v) m.pre, max m.top (s.toNat + 1)⟩)
/-- How far may be told as numbers. -/
def Ln.ok (m : Ln) : Prop := m.pre ≤ 400 ∧ m.top ≤ 400 ∧ (∀ k u, m.f k = some u → u.size ≤ 64) ∧ (∀ k, k < m.pre → (m.f k).isSome = true) ∧ (m.pre < 400 → m.f m.pre = none)
theorem adv_le (f : Nat → Option ByteArray) : ∀ (n k : Nat), 400 - k = n → k ≤ 400 → adv f k ≤ 400 := by
  intro n
  induction n with
  | zero => intro k hn hk; rw [adv_stop (by omega)]; omega
  | succ n ih =>
    intro k hn hk
    by_cases h : k < 400 ∧ (f k).isSome = true
    · rw [adv_step h.1 h.2]; exact ih (k + 1) (by omega) (by omega)
    · rw [adv_stop h]; omega
theorem adv_full (f : Nat → Option ByteArray) : ∀ (n k : Nat), 400 - k = n → (∀ j, j < k → (f j).isSome = true) → (∀ j, j < adv f k → (f j).isSome = true) ∧ (adv f k < 400 → f (adv f k) = none) := by
  intro n
  induction n with
  | zero => intro k hn hk; rw [adv_stop (by omega)]; exact ⟨hk, fun h => by omega⟩
  | succ n ih =>
    intro k hn hk
    by_cases h : k < 400 ∧ (f k).isSome = true
    · rw [adv_step h.1 h.2]
      refine ih (k + 1) (by omega) (fun j hj => ?_)
      by_cases e : j = k
      · exact e ▸ h.2
      · exact hk j (by omega)
    · rw [adv_stop h]
      refine ⟨hk, fun h4 => ?_⟩
      cases e : f k with
      | none => rfl
      | some u => exact absurd ⟨h4, by rw [e]; rfl⟩ h
theorem Ln.learn_ok {m : Ln} (h : m.ok) (s : Int) (v : ByteArray) : (m.learn s v).2.ok := by
  unfold Ln.learn
  split
  · exact h
  · split
    · split <;> exact h
    · have hfull := adv_full (setF m.f s.toNat v) _ m.pre rfl (fun j hj => by
        unfold setF
        split
        · rfl
        · exact h.2.2.2.1 j hj)
      refine ⟨adv_le _ _ _ rfl h.1, by have := h.2.1; show max _ _ ≤ _; omega, fun k u hu => ?_, hfull⟩
      simp only [setF] at hu
      split at hu
      · cases hu; omega
      · exact h.2.2.1 k u hu

section
variable {w : World} {p : Nat} {m : Ln}
theorem heap_put {T : TypeId} {cs : Array Value} {fr : Nat × Nat} (h : w.heap[p]? = some (.cells cs T fr)) (i : Nat) (u : Value) : (w.setCell ⟨p, i, none⟩ u).heap[p]? = some (.cells (cs.setIfInBounds i u) T fr) := by
  simp only [World.setCell, Array.getElem?_modify, if_true, h]
  rfl
theorem Lrn.setVal (h : Lrn w p m) (k : Nat) (hk : k < 400) (v : ByteArray) : Lrn ((w.setCell ⟨p, k * 2, none⟩ (.string v)).setCell ⟨p, k * 2 + 1, none⟩ (.bool true)) p ⟨setF m.f k v, m.pre, m.top⟩ := by
  obtain ⟨cs, h1, h2, h3, h4⟩ := h
  have l0 := fun j hj => (Array.getElem?_eq_some_iff.1 (h2 j hj).1).1
  have l1 := fun j hj => (Array.getElem?_eq_some_iff.1 (h2 j hj).2).1
  refine ⟨_, heap_put (heap_put h1 _ _) _ _, fun j hj => ?_, ?_, ?_⟩
  · have := l0 k hk
    have := l1 k hk
    by_cases e : j = k
    · subst e
      simp only [setF, if_true, Option.getD_some, Option.isSome_some]
      constructor
      · rw [Array.getElem?_setIfInBounds_ne (by omega), Nat.mul_comm j 2, Array.getElem?_setIfInBounds_self_of_lt (by omega)]
      · rw [Nat.mul_comm j 2, Array.getElem?_setIfInBounds_self_of_lt (by simp; omega)]
    · simp only [setF, if_neg e]
      constructor
      · rw [Array.getElem?_setIfInBounds_ne (by omega), Array.getElem?_setIfInBounds_ne (by omega)]; exact (h2 j hj).1
      · rw [Array.getElem?_setIfInBounds_ne (by omega), Array.getElem?_setIfInBounds_ne (by omega)]; exact (h2 j hj).2
  · rw [Array.getElem?_setIfInBounds_ne (by omega), Array.getElem?_setIfInBounds_ne (by omega)]; exact h3
  · rw [Array.getElem?_setIfInBounds_ne (by omega), Array.getElem?_setIfInBounds_ne (by omega)]; exact h4
theorem Lrn.setTop (h : Lrn w p m) (t : Nat) : Lrn (w.setCell ⟨p, 801, none⟩ (.int .i64 t)) p ⟨m.f, m.pre, t⟩ := by
  obtain ⟨cs, h1, h2, h3, h4⟩ := h
  have l := (Array.getElem?_eq_some_iff.1 h4).1
  refine ⟨_, heap_put h1 _ _, fun j hj => ?_, ?_, ?_⟩
  · rw [Array.getElem?_setIfInBounds_ne (by omega), Array.getElem?_setIfInBounds_ne (by omega)]; exact h2 j hj
  · rw [Array.getElem?_setIfInBounds_ne (by omega)]; exact h3
  · rw [Array.getElem?_setIfInBounds_self_of_lt l]
theorem Lrn.setPre (h : Lrn w p m) (t : Nat) : Lrn (w.setCell ⟨p, 800, none⟩ (.int .i64 t)) p ⟨m.f, t, m.top⟩ := by
  obtain ⟨cs, h1, h2, h3, h4⟩ := h
  have l := (Array.getElem?_eq_some_iff.1 h3).1
  refine ⟨_, heap_put h1 _ _, fun j hj => ?_, ?_, ?_⟩
  · rw [Array.getElem?_setIfInBounds_ne (by omega), Array.getElem?_setIfInBounds_ne (by omega)]; exact h2 j hj
  · rw [Array.getElem?_setIfInBounds_self_of_lt l]
  · rw [Array.getElem?_setIfInBounds_ne (by omega)]; exact h4
/-- What a learner's cells hold, as the walk asks. -/
theorem Lrn.cells (h : Lrn w p m) : (∀ k, k < 400 → w.cell? ⟨p, k * 2, none⟩ = some (.string ((m.f k).getD ⟨#[]⟩)) ∧ w.cell? ⟨p, k * 2 + 1, none⟩ = some (.bool (m.f k).isSome)) ∧
    w.cell? ⟨p, 800, none⟩ = some (.int .i64 m.pre) ∧ w.cell? ⟨p, 801, none⟩ = some (.int .i64 m.top) ∧ ∀ j, w.frozen? ⟨p, j, none⟩ = false := by
  obtain ⟨cs, h1, h2, h3, h4⟩ := h
  refine ⟨fun k hk => ?_, ?_, ?_, fun j => by simp [World.frozen?, h1]⟩
  · rw [Nat.mul_comm]
    simp only [World.cell?, h1]
    exact h2 k hk
  · simp only [World.cell?, h1]; exact h3
  · simp only [World.cell?, h1]; exact h4
end
/-- How far a learner in memory goes. -/
def preOf (p : Nat) (w : World) : Nat := match w.cell? ⟨p, 800, none⟩ with
  | some (.int _ n) => n.toNat
  | _ => 0
theorem preOf_eq {w : World} {p : Nat} {m : Ln} (h : Lrn w p m) : preOf p w = m.pre := by
  unfold preOf
  rw [h.cells.2.1]
  simp

set_option maxHeartbeats 2000000 in
set_option maxRecDepth 100000 in
theorem learn_any (p : Nat) (m : Ln) (s : Int) (v : ByteArray) (w : World) (h : Lrn w p m) (hok : m.ok) (hv : v.size ≤ 9223372036854775807) :
    Calls Try.prog 12 #[.pointer (some ⟨p, 0, none⟩), .int .i64 s, .string v] w fun e w' => e = .returned (.int .i64 (m.learn s v).1) ∧ Lrn w' p (m.learn s v).2 ∧ Upd (fun b => b = p) w w' := by
  have hw := fun w => within_any s w
  have H := Lib.hid h
  by_cases hs : 0 ≤ s ∧ s < 400
  · rw [decide_eq_true hs] at hw
    have HW := Lib.hid hw
    clear hw
    by_cases h64 : 64 < v.size
    · have e : m.learn s v = (1, m) := by unfold Ln.learn; rw [if_pos (.inr (.inr h64))]
      rw [e]
      clear e hs
      have h64' : (64 : Int) < (v.size : Int) := by omega
      go_enter Try.func12, Try.ntmps12
      go_wp2_with fail
      refine (HW.out _).mono ?_
      rintro e w' ⟨rfl, rfl⟩
      go_wp2_with fail
      go_ret
      exact ⟨rfl, H.out, Upd.refl _ _⟩
    · have h64' : ¬ (64 : Int) < (v.size : Int) := by omega
      obtain ⟨k, rfl⟩ : ∃ k : Nat, s = k := Int.eq_ofNat_of_zero_le hs.1
      have hk : k < 400 := by omega
      have hk0 : (0 : Int) ≤ (k : Int) := by omega
      have hk4 : (k : Int) < 400 := by omega
      have hg : ¬ ((k : Int) < 0 ∨ (400 : Int) ≤ k ∨ 64 < v.size) := by omega
      have e : m.learn k v = match m.f k with
        | some u => if u = v then (7, m) else (10, m)
        | none => (0, ⟨setF m.f k v, adv (setF m.f k v) m.pre, max m.top (k + 1)⟩) := by unfold Ln.learn; rw [if_neg hg]; rfl
      rw [e]
      clear e hg hs
      obtain ⟨hcells, hp0, ht0, hfz⟩ := h.cells
      obtain ⟨c0, c1⟩ := hcells k hk
      clear hcells
      cases hf : m.f k with
      | some u =>
        rw [hf] at c0 c1
        have c0' : w.cell? ⟨p, k * 2, none⟩ = some (.string u) := c0
        have c1' : w.cell? ⟨p, k * 2 + 1, none⟩ = some (.bool true) := c1
        clear c0 c1 hf hp0 ht0 hfz h
        by_cases huv : u = v
        · subst huv
          simp only [if_true]
          go_enter Try.func12, Try.ntmps12
          go_wp2_with fail
          refine (HW.out _).mono ?_
          rintro e w' ⟨rfl, rfl⟩
          go_wp2_with fail
          go_ret
          exact ⟨rfl, H.out, Upd.refl _ _⟩
        · have hne : (u.toList != v.toList) = true := by
            simp only [bne_iff_ne, ne_eq]
            intro e
            rw [ByteArray.toList_eq, ByteArray.toList_eq] at e
            exact huv (ByteArray.ext (Array.toList_inj.1 e))
          have hne2 : (u.toList == v.toList) = false := by
            rw [← Bool.not_eq_true]
            intro e
            rw [beq_iff_eq] at e
            simp [e] at hne
          simp only [if_neg huv]
          clear huv
          go_enter Try.func12, Try.ntmps12
          go_wp2_with fail
          refine (HW.out _).mono ?_
          rintro e w' ⟨rfl, rfl⟩
          go_wp2_with fail
          go_ret
          exact ⟨rfl, H.out, Upd.refl _ _⟩
      | none =>
        rw [hf] at c0 c1
        have c0' : w.cell? ⟨p, k * 2, none⟩ = some (.string ⟨#[]⟩) := c0
        have c1' : w.cell? ⟨p, k * 2 + 1, none⟩ = some (.bool false) := c1
        have f0 := hfz (k * 2)
        have f1 := hfz (k * 2 + 1)
        have f2 := hfz 801
        clear c0 c1 hf hp0 hfz h
        obtain ⟨T, hT⟩ : ∃ T, T = max m.top (k + 1) := ⟨_, rfl⟩
        have fin := H.out.setVal k hk v |>.setTop T
        have HF := Lib.hid fin
        have HT := Lib.hid hT
        have u3 : Upd (fun b => b = p) w (((w.setCell ⟨p, k * 2, none⟩ (.string v)).setCell ⟨p, k * 2 + 1, none⟩ (.bool true)).setCell ⟨p, 801, none⟩ (.int .i64 T)) :=
          (((Upd.refl (fun b => b = p) w).setCell (p := ⟨p, k * 2, none⟩) (fun _ => rfl) _).setCell (p := ⟨p, k * 2 + 1, none⟩) (fun _ => rfl) _).setCell (p := ⟨p, 801, none⟩) (fun _ => rfl) _
        have HU := Lib.hid u3
        have hb1 := hok.1
        have hb2 := hok.2.1
        clear u3 hok fin
        have hmx : max (m.top : Int) ((k : Int) + 1) = (T : Int) := by omega
        have hmx2 : (if (m.top : Int) < (k : Int) + 1 then (k : Int) + 1 else (m.top : Int)) = (T : Int) := by split <;> omega
        have hmx3 : (if (k : Int) + 1 < (m.top : Int) then (m.top : Int) else (k : Int) + 1) = (T : Int) := by split <;> omega
        clear hT
        go_enter Try.func12, Try.ntmps12
        go_wp2_with fail
        refine (HW.out _).mono ?_
        rintro e w' ⟨rfl, rfl⟩
        have hadv := Lib.hid (fun q (h : q < 400) (hs : (setF m.f k v q).isSome = true) => adv_step h hs)
        have hstop := Lib.hid (fun q (h : ¬ (q < 400 ∧ (setF m.f k v q).isSome = true)) => adv_stop h)
        generalize hff : setF m.f k v = f at *
        have HFF := Lib.hid hff
        clear hff
        go_wp2_with fail
        go_loopw [] (fun wr => ∃ q : Nat, q ≤ 400 ∧ Hid (Lrn wr p ⟨f, q, T⟩) ∧ Hid (adv f q = adv f m.pre) ∧ Hid (Upd (fun b => b = p) w wr)) (fun wr => 400 - preOf p wr)
        case atStart => exact ⟨m.pre, hb1, HF, Lib.hid rfl, HU⟩
        case round =>
          obtain ⟨q, hq, hL, hE, hU⟩ := hrel
          obtain ⟨hcells, hp0, _, hfz⟩ := hL.out.cells
          have HP0 := Lib.hid (show wr.drew.cell? ⟨p, 800, none⟩ = some (.int .i64 q) from hp0)
          have HFZ := Lib.hid (hfz 800)
          have hq0 : (0 : Int) ≤ (q : Int) := by omega
          by_cases hlt : q < 400
          · have hq4 : (q : Int) < 400 := by omega
            have hc1 := (hcells q hlt).2
            have hW2 := fun w => within_any (q : Int) w
            rw [decide_eq_true (show 0 ≤ (q : Int) ∧ (q : Int) < 400 from ⟨hq0, hq4⟩)] at hW2
            have HW2 := Lib.hid hW2
            cases hB : (f q).isSome
            all_goals
              rw [hB] at hc1
              have HC1 := Lib.hid (show wr.drew.cell? ⟨p, q * 2 + 1, none⟩ = some (.bool _) from hc1)
              have HB := Lib.hid hB
              clear hB hc1 hcells hp0 hfz hW2
              go_wp2_with fail
              refine sched_begin NoB (by kernel_rfl) ?_
              refine sched_take 0 rfl (by kernel_rfl) (by kernel_rfl) (by kernel_rfl) (fun _ _ _ h => h) rfl (fun x hx => by go_simp; rfl) ?_
              go_simp
              refine sched_take 1 rfl (by kernel_rfl) (by kernel_rfl) (by kernel_rfl) (fun _ _ _ h => h) rfl (fun x hx => by go_simp; rfl) ?_
              go_simp
              refine sched_take 2 rfl (by kernel_rfl) (by kernel_rfl) (by kernel_rfl) (fun _ _ _ h => h) rfl (fun x hx => by go_simp; rfl) ?_
              go_simp
              refine sched_take 3 rfl (by kernel_rfl) (by kernel_rfl) (by kernel_rfl) (fun _ _ _ h => h) rfl (fun x hx => by have hcx := hx.cell HP0.out (fun h => h); go_simp; rfl) ?_
              go_simp
              refine sched_alone 4 (by kernel_rfl) rfl rfl ?_
              go_simp
              refine (HW2.out _).mono ?_
              rintro e w2 ⟨rfl, rfl⟩
              refine ⟨Upd.refl _ _, ?_⟩
              go_simp
              refine sched_take 5 rfl (by kernel_rfl) (by kernel_rfl) (by kernel_rfl) (fun _ _ _ h => h) rfl (fun x hx => by go_simp; rfl) ?_
              go_simp
              refine sched_take 6 rfl (by kernel_rfl) (by kernel_rfl) (by kernel_rfl) (fun _ _ _ h => h) rfl (fun x hx => by go_simp; rfl) ?_
              go_simp
              refine sched_take 7 rfl (by kernel_rfl) (by kernel_rfl) (by kernel_rfl) (fun _ _ _ h => h) rfl (fun x hx => by go_simp; rfl) ?_
              go_simp
              refine sched_take 8 rfl (by kernel_rfl) (by kernel_rfl) (by kernel_rfl) (fun _ _ _ h => h) rfl (fun x hx => by go_simp; rfl) ?_
              go_simp
              refine sched_take 9 rfl (by kernel_rfl) (by kernel_rfl) (by kernel_rfl) (fun _ _ _ h => h) rfl (fun x hx => by go_simp; rfl) ?_
              go_simp
              refine sched_take 10 rfl (by kernel_rfl) (by kernel_rfl) (by kernel_rfl) (fun _ _ _ h => h) rfl (fun x hx => by have hcx := hx.cell HP0.out (fun h => h); go_simp; rfl) ?_
              go_simp
              refine sched_take 11 rfl (by kernel_rfl) (by kernel_rfl) (by kernel_rfl) (fun _ _ _ h => h) rfl (fun x hx => by go_simp; rfl) ?_
              go_simp
              refine sched_take 12 rfl (by kernel_rfl) (by kernel_rfl) (by kernel_rfl) (fun _ _ _ h => h) rfl (fun x hx => by go_simp; rfl) ?_
              go_simp
              refine sched_take 13 rfl (by kernel_rfl) (by kernel_rfl) (by kernel_rfl) (fun _ _ _ h => h) rfl (fun x hx => by go_simp; rfl) ?_
              go_simp
              refine sched_take 14 rfl (by kernel_rfl) (by kernel_rfl) (by kernel_rfl) (fun _ _ _ h => h) rfl (fun x hx => by go_simp; rfl) ?_
              go_simp
              refine sched_take 15 rfl (by kernel_rfl) (by kernel_rfl) (by kernel_rfl) (fun _ _ _ h => h) rfl (fun x hx => by have hcx := hx.cell HC1.out (fun h => h); go_simp; rfl) ?_
              go_simp
              refine sched_take 16 rfl (by kernel_rfl) (by kernel_rfl) (by kernel_rfl) (fun _ _ _ h => h) rfl (fun x hx => by go_simp; rfl) ?_
              go_simp
              refine sched_done (by kernel_rfl) ?_
              have hp0 := HP0.out
              have hfz := HFZ.out
              go_wp2_with fail
              have hL2 := Lib.hid (show Lrn ((wr.setCell ⟨p, 800, none⟩ (.int .i64 ((q : Int) + 1))).drew) p ⟨f, q + 1, T⟩ from (hL.out.setPre (q + 1)).keep ((Upd.refl NoB _).drew) (fun h => h))
              have hU2 := Lib.hid ((hU.out.setCell (p := ⟨p, 800, none⟩) (fun _ => rfl) (.int .i64 ((q : Int) + 1))).drew)
              first
              | (go_ret
                 exact ⟨rfl, by rw [HFF.out, ← hE.out, hstop.out q (by rw [HB.out]; simp), ← HT.out]; exact hL.out.keep (Upd.refl NoB wr).drew (fun h => h), hU.out.drew⟩)
              | (go_roundw
                 case measure => rw [preOf_eq hL2.out, preOf_eq hL.out]; show 400 - (q + 1) < 400 - q; omega
                 case rel => exact ⟨q + 1, by omega, hL2, Lib.hid (by rw [← hadv.out q hlt HB.out]; exact hE.out), hU2⟩)
          · obtain rfl : q = 400 := by omega
            have hW2 := fun w => within_any 400 w
            rw [decide_eq_false (show ¬ (0 ≤ (400 : Int) ∧ (400 : Int) < 400) by omega)] at hW2
            have HW2 := Lib.hid hW2
            clear hcells hp0 hfz hW2
            go_wp2_with fail
            refine sched_begin NoB (by kernel_rfl) ?_
            refine sched_take 0 rfl (by kernel_rfl) (by kernel_rfl) (by kernel_rfl) (fun _ _ _ h => h) rfl (fun x hx => by go_simp; rfl) ?_
            go_simp
            refine sched_take 1 rfl (by kernel_rfl) (by kernel_rfl) (by kernel_rfl) (fun _ _ _ h => h) rfl (fun x hx => by go_simp; rfl) ?_
            go_simp
            refine sched_take 2 rfl (by kernel_rfl) (by kernel_rfl) (by kernel_rfl) (fun _ _ _ h => h) rfl (fun x hx => by go_simp; rfl) ?_
            go_simp
            refine sched_take 3 rfl (by kernel_rfl) (by kernel_rfl) (by kernel_rfl) (fun _ _ _ h => h) rfl (fun x hx => by have hcx := hx.cell HP0.out (fun h => h); go_simp; rfl) ?_
            go_simp
            refine sched_alone 4 (by kernel_rfl) rfl rfl ?_
            go_simp
            refine (show Calls Try.prog 35 #[.int .i64 400] _ _ from HW2.out _).mono ?_
            rintro e w2 ⟨rfl, rfl⟩
            refine ⟨Upd.refl _ _, ?_⟩
            go_simp
            refine sched_take 5 rfl (by kernel_rfl) (by kernel_rfl) (by kernel_rfl) (fun _ _ _ h => h) rfl (fun x hx => by go_simp; rfl) ?_
            go_simp
            refine sched_skip 6 rfl (by kernel_rfl) (by kernel_rfl) (by kernel_rfl) (fun _ _ _ h => h) rfl ?_
            go_simp
            refine sched_skip 7 rfl (by kernel_rfl) (by kernel_rfl) (by kernel_rfl) (fun _ _ _ h => h) rfl ?_
            go_simp
            refine sched_skip 8 rfl (by kernel_rfl) (by kernel_rfl) (by kernel_rfl) (fun _ _ _ h => h) rfl ?_
            go_simp
            refine sched_skip 9 rfl (by kernel_rfl) (by kernel_rfl) (by kernel_rfl) (fun _ _ _ h => h) rfl ?_
            go_simp
            refine sched_skip 10 rfl (by kernel_rfl) (by kernel_rfl) (by kernel_rfl) (fun _ _ _ h => h) rfl ?_
            go_simp
            refine sched_skip 11 rfl (by kernel_rfl) (by kernel_rfl) (by kernel_rfl) (fun _ _ _ h => h) rfl ?_
            go_simp
            refine sched_skip 12 rfl (by kernel_rfl) (by kernel_rfl) (by kernel_rfl) (fun _ _ _ h => h) rfl ?_
            go_simp
            refine sched_skip 13 rfl (by kernel_rfl) (by kernel_rfl) (by kernel_rfl) (fun _ _ _ h => h) rfl ?_
            go_simp
            refine sched_skip 14 rfl (by kernel_rfl) (by kernel_rfl) (by kernel_rfl) (fun _ _ _ h => h) rfl ?_
            go_simp
            refine sched_skip 15 rfl (by kernel_rfl) (by kernel_rfl) (by kernel_rfl) (fun _ _ _ h => h) rfl ?_
            go_simp
            refine sched_take 16 rfl (by kernel_rfl) (by kernel_rfl) (by kernel_rfl) (fun _ _ _ h => h) rfl (fun x hx => by go_simp; rfl) ?_
            go_simp
            refine sched_done (by kernel_rfl) ?_
            go_wp2_with fail
            go_ret
            exact ⟨rfl, by rw [HFF.out, ← hE.out, hstop.out 400 (by omega), ← HT.out]; exact hL.out.keep (Upd.refl NoB wr).drew (fun h => h), hU.out.drew⟩
  · rw [decide_eq_false hs] at hw
    have HW := Lib.hid hw
    clear hw
    have e : m.learn s v = (1, m) := by unfold Ln.learn; rw [if_pos (by omega)]
    rw [e]
    clear e hs
    go_enter Try.func12, Try.ntmps12
    go_wp2_with fail
    refine (HW.out _).mono ?_
    rintro e w' ⟨rfl, rfl⟩
    go_wp2_with fail
    go_ret
    exact ⟨rfl, H.out, Upd.refl _ _⟩
end Go.Proofs.Ytmcpcladjfddmaa
