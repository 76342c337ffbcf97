/- The reference of chapter 1, function by function (3): its reader. -/
import Derived.Test.YtflifeelgamaaaaOctRef2
namespace Go.Proofs.Ytflifeelgamaaaa
open Go.RowKit Kit Oct
set_option linter.unusedVariables false

/-- At block p lies a reader of the reference's, of which as much is to be read. -/
def RRdr (w : World) (S : Nat → Prop) (p : Nat) (r : Rd) : Prop :=
  ∃ (B : List UInt8) (at_ : Nat) (v : Value), w.heap[p]? = some (.cells #[v, .int .i64 at_, .bool r.bad] 70 (0, 0)) ∧ RSl Rep.byte w S v B ∧ ¬ S p ∧ at_ ≤ B.length ∧ B.length ≤ 1000000 ∧ B.drop at_ = r.bs

theorem RRdr.keep {w w' : World} {S F : Nat → Prop} {p : Nat} {r : Rd} (h : RRdr w S p r) (u : Upd F w w') (hs : Sep S F) (hp : ¬ F p) : RRdr w' S p r := by
  obtain ⟨B, a, v, h1, h2, h3, h4⟩ := h
  exact ⟨B, a, v, u.heap h1 hp, h2.upd u hs, h3, h4⟩
def RAfter (S : Nat → Prop) (p : Nat) (w : World) (r : Rd) (w' : World) : Prop := RRdr w' S p r ∧ Upd (fun b => b = p) w w'
theorem RAfter.trans {S : Nat → Prop} {p : Nat} {w w1 w2 : World} {r r' : Rd} (h : RAfter S p w r w1) (k : RAfter S p w1 r' w2) : RAfter S p w r' w2 := ⟨k.1, h.2.trans k.2⟩

/-- What is known of the cells. -/
structure RCells (w : World) (p : Nat) (v : Value) (at_ : Nat) (is : Bool) : Prop where
  c0 : w.cell? ⟨p, 0, none⟩ = some v
  c1 : w.cell? ⟨p, 1, none⟩ = some (.int .i64 at_)
  c2 : w.cell? ⟨p, 2, none⟩ = some (.bool is)
  f1 : w.frozen? ⟨p, 1, none⟩ = false
  f2 : w.frozen? ⟨p, 2, none⟩ = false
theorem RCells.of {w : World} {p : Nat} {v : Value} {at_ : Nat} {is : Bool} (h : w.heap[p]? = some (.cells #[v, .int .i64 at_, .bool is] 70 (0, 0))) : RCells w p v at_ is :=
  ⟨by simp [World.cell?, h], by simp [World.cell?, h], by simp [World.cell?, h], by simp [World.frozen?, h], by simp [World.frozen?, h]⟩

set_option maxHeartbeats 4000000 in
set_option maxRecDepth 100000 in
theorem rmost_any {S : Nat → Prop} (p m : Nat) (r : Rd) (w : World) (h : RRdr w S p r) (hm : m < 2 ^ 64) :
    Calls Try.prog 69 #[.pointer (some ⟨p, 0, none⟩), .int .u64 m] w fun e w' => e = .returned (.int .u64 ((r.most m).1 : Int)) ∧ RAfter S p w (r.most m).2 w' := by
  obtain ⟨B, a, v, hh, hs, hp, ha, hB, hd⟩ := h
  obtain ⟨A, c, cs, rfl, _⟩ := id hs
  generalize hv : Value.slice A B.length c = v at *
  have C0 := Lib.hid (fun x (hx : Upd NoB w.drew x) => RCells.of (hx.heap (w := w.drew) hh (fun h => h)))
  have HN := Lib.hid (refnum_any v a B w.drew (hs.upd ((Upd.refl NoB w).drew) (fun _ _ h => h)) ha hB)
  have HH := Lib.hid hh
  have HS := Lib.hid hs
  rw [hd] at HN
  have HD := Lib.hid hd
  have hnl : (num 0 0 r.bs).2 ≤ r.bs.length := num_le _
  have hbl : r.bs.length = B.length - a := by rw [← hd]; simp
  have hn63 : a + (num 0 0 r.bs).2 ≤ B.length := by omega
  clear hh hs hd hbl hnl
  have spoil : ∀ w1, Upd NoB w w1 → RAfter S p w ⟨r.bs, true⟩ (w1.setCell ⟨p, 2, none⟩ (.bool true)) := by
    intro w1 hu
    have ud : Upd (fun b => b = p) w (w1.setCell ⟨p, 2, none⟩ (.bool true)) := Upd.setCell (F := fun b => b = p) (hu.mono (fun _ _ h => h.elim)) (p := ⟨p, 2, none⟩) (fun _ => rfl) _
    refine ⟨⟨B, a, v, heap_set (hu.heap HH.out (fun h => h)) 2 _, HS.out.upd ud (sep_one hp), hp, ha, hB, HD.out⟩, ud⟩
  have Spoil := Lib.hid spoil
  have took : ∀ w1 k, Upd NoB w w1 → a + k ≤ B.length → r.bad = false → RAfter S p w ⟨r.bs.drop k, false⟩ (w1.setCell ⟨p, 1, none⟩ (.int .i64 ((a : Int) + (k : Int)))) := by
    intro w1 k hu hk hb
    have ud : Upd (fun b => b = p) w (w1.setCell ⟨p, 1, none⟩ (.int .i64 ((a : Int) + (k : Int)))) := Upd.setCell (F := fun b => b = p) (hu.mono (fun _ _ h => h.elim)) (p := ⟨p, 1, none⟩) (fun _ => rfl) _
    refine ⟨⟨B, a + k, v, ?_, HS.out.upd ud (sep_one hp), hp, hk, hB, by rw [← HD.out, List.drop_drop]⟩, ud⟩
    have := heap_set (hu.heap HH.out (fun h => h)) 1 (.int .i64 ((a : Int) + (k : Int)))
    rw [hb] at this
    simpa using this
  have Took := Lib.hid took
  have e0 : r.bad = true → r.most m = (0, ⟨r.bs, true⟩) := fun hb => by unfold Rd.most; rw [if_pos hb]; cases r; simp at hb; subst hb; rfl
  have e1 : r.bad = false → ((num 0 0 r.bs).2 = 0 ∨ m < (num 0 0 r.bs).1) → r.most m = (0, ⟨r.bs, true⟩) := fun hb hc => by unfold Rd.most; rw [if_neg (by simp [hb]), if_pos hc]
  have e2 : r.bad = false → ¬ ((num 0 0 r.bs).2 = 0 ∨ m < (num 0 0 r.bs).1) → r.most m = ((num 0 0 r.bs).1, ⟨r.bs.drop (num 0 0 r.bs).2, false⟩) := fun hb hc => by unfold Rd.most; rw [if_neg (by simp [hb]), if_neg hc]
  generalize (num 0 0 r.bs).1 = z1 at *
  generalize (num 0 0 r.bs).2 = z2 at *
  have E0 := Lib.hid e0
  have E1 := Lib.hid e1
  have E2 := Lib.hid e2
  clear spoil took e0 e1 e2
  generalize hbad : r.bad = bad at *
  have HBad := Lib.hid hbad
  clear hbad
  go_enter Try.func69, Try.ntmps69
  go_wp2_with fail
  refine sched_begin NoB (by kernel_rfl) ?_
  refine sched_take 0 rfl (by kernel_rfl) (by kernel_rfl) (by kernel_rfl) (fun _ _ _ h => h) rfl (fun x hx => by go_simp; rfl) ?_
  go_simp
  refine sched_take 1 rfl (by kernel_rfl) (by kernel_rfl) (by kernel_rfl) (fun _ _ _ h => h) rfl (fun x hx => by go_simp; rfl) ?_
  go_simp
  refine sched_take 2 rfl (by kernel_rfl) (by kernel_rfl) (by kernel_rfl) (fun _ _ _ h => h) rfl (fun x hx => by go_simp; rfl) ?_
  go_simp
  refine sched_take 3 rfl (by kernel_rfl) (by kernel_rfl) (by kernel_rfl) (fun _ _ _ h => h) rfl (fun x hx => by obtain ⟨k0, k1, k2, k3, k4⟩ := C0.out x hx; go_simp; rfl) ?_
  go_simp
  refine sched_take 4 rfl (by kernel_rfl) (by kernel_rfl) (by kernel_rfl) (fun _ _ _ h => h) rfl (fun x hx => by go_simp; rfl) ?_
  go_simp
  refine sched_take 5 rfl (by kernel_rfl) (by kernel_rfl) (by kernel_rfl) (fun _ _ _ h => h) rfl (fun x hx => by go_simp; rfl) ?_
  go_simp
  refine sched_take 6 rfl (by kernel_rfl) (by kernel_rfl) (by kernel_rfl) (fun _ _ _ h => h) rfl (fun x hx => by go_simp; rfl) ?_
  go_simp
  refine sched_take 7 rfl (by kernel_rfl) (by kernel_rfl) (by kernel_rfl) (fun _ _ _ h => h) rfl (fun x hx => by obtain ⟨k0, k1, k2, k3, k4⟩ := C0.out x hx; go_simp; rfl) ?_
  go_simp
  refine sched_alone 8 (by kernel_rfl) rfl rfl ?_
  go_simp
  refine HN.out.mono ?_
  rintro e w1 ⟨rfl, hu⟩
  refine ⟨hu, ?_⟩
  have HU := Lib.hid (((Upd.refl NoB w).drew).trans hu)
  obtain ⟨k0, k1, k2, k3, k4⟩ := C0.out w1 hu
  clear hu HN
  go_simp
  refine sched_take 9 rfl (by kernel_rfl) (by kernel_rfl) (by kernel_rfl) (fun _ _ _ h => h) rfl (fun x hx => by go_simp; rfl) ?_
  go_simp
  refine sched_take 10 rfl (by kernel_rfl) (by kernel_rfl) (by kernel_rfl) (fun _ _ _ h => h) rfl (fun x hx => by go_simp; rfl) ?_
  go_simp
  refine sched_take 11 rfl (by kernel_rfl) (by kernel_rfl) (by kernel_rfl) (fun _ _ _ h => h) rfl (fun x hx => by go_simp; rfl) ?_
  go_simp
  refine sched_take 12 rfl (by kernel_rfl) (by kernel_rfl) (by kernel_rfl) (fun _ _ _ h => h) rfl (fun x hx => by go_simp; rfl) ?_
  go_simp
  refine sched_take 13 rfl (by kernel_rfl) (by kernel_rfl) (by kernel_rfl) (fun _ _ _ h => h) rfl (fun x hx => by go_simp; rfl) ?_
  go_simp
  refine sched_done (by kernel_rfl) ?_
  have hmx : B.length ≤ 9223372036854775807 := by omega
  cases bad with
  | true =>
    have fin := Lib.hid (Spoil.out w1 HU.out)
    have e0 := E0.out rfl
    have HE := Lib.hid e0
    clear e0
    go_wp2_with fail
    go_ret
    exact ⟨by rw [HE.out]; rfl, by rw [HE.out]; exact fin.out⟩
  | false =>
    by_cases c1 : z2 = 0
    · subst c1
      have HE := Lib.hid (E1.out rfl (.inl rfl))
      have fin := Lib.hid (Spoil.out w1 HU.out)
      go_wp2_with fail
      go_ret
      exact ⟨by rw [HE.out]; rfl, by rw [HE.out]; exact fin.out⟩
    · have c1b : ((z2 : Int) == 0) = false := by simp; omega
      by_cases c2 : m < z1
      · have HE := Lib.hid (E1.out rfl (.inr c2))
        have fin := Lib.hid (Spoil.out w1 HU.out)
        go_wp2_with fail
        go_ret
        exact ⟨by rw [HE.out]; rfl, by rw [HE.out]; exact fin.out⟩
      · have HE := Lib.hid (E2.out rfl (by omega))
        have fin := Lib.hid (Took.out w1 z2 HU.out hn63 rfl)
        go_wp2_with fail
        go_ret
        exact ⟨by rw [HE.out]; rfl, by rw [HE.out]; exact fin.out⟩
set_option maxHeartbeats 1000000 in
theorem rn_any {S : Nat → Prop} (p : Nat) (r : Rd) (w : World) (h : RRdr w S p r) :
    Calls Try.prog 52 #[.pointer (some ⟨p, 0, none⟩)] w fun e w' => e = .returned (.int .u64 ((r.most (2 ^ 64 - 1)).1 : Int)) ∧ RAfter S p w (r.most (2 ^ 64 - 1)).2 w' := by
  have hm := Lib.hid (rmost_any p (2 ^ 64 - 1) r w h (by omega))
  clear h
  go_enter Try.func52, Try.ntmps52
  go_wp2_with fail
  refine hm.out.mono ?_
  rintro e w' ⟨rfl, hw⟩
  have HW := Lib.hid hw
  clear hw
  go_wp2_with fail
  go_ret
  exact ⟨rfl, HW.out⟩

set_option maxHeartbeats 1000000 in
theorem rflag_any {S : Nat → Prop} (p : Nat) (r : Rd) (w : World) (h : RRdr w S p r) :
    Calls Try.prog 55 #[.pointer (some ⟨p, 0, none⟩)] w fun e w' => e = .returned (.bool (decide ((r.most 1).1 = 1))) ∧ RAfter S p w (r.most 1).2 w' := by
  have hm := Lib.hid (rmost_any p 1 r w h (by omega))
  clear h
  go_enter Try.func55, Try.ntmps55
  go_wp2_with fail
  refine hm.out.mono ?_
  rintro e w' ⟨rfl, hw⟩
  have HW := Lib.hid hw
  clear hw
  go_wp2_with fail
  go_ret
  exact ⟨by simp [Bool.beq_eq_decide_eq]; omega, HW.out⟩

/-- It is bad from now on. -/
theorem RRdr.spoil {S : Nat → Prop} {p : Nat} {r : Rd} {w : World} (h : RRdr w S p r) : RAfter S p w ⟨r.bs, true⟩ (w.setCell ⟨p, 2, none⟩ (.bool true)) := by
  obtain ⟨B, a, v, hh, hs, hp, ha, hB, hd⟩ := h
  have ud : Upd (fun b => b = p) w (w.setCell ⟨p, 2, none⟩ (.bool true)) := Upd.setCell (F := fun b => b = p) (Upd.refl _ w) (p := ⟨p, 2, none⟩) (fun _ => rfl) _
  exact ⟨⟨B, a, v, heap_set hh 2 _, hs.upd ud (sep_one hp), hp, ha, hB, hd⟩, ud⟩
/-- So many bytes are read. -/
theorem RRdr.took {S : Nat → Prop} {p : Nat} {r : Rd} {w : World} {B : List UInt8} {a : Nat} {v : Value} (hh : w.heap[p]? = some (.cells #[v, .int .i64 a, .bool r.bad] 70 (0, 0))) (hs : RSl Rep.byte w S v B) (hp : ¬ S p) (hB : B.length ≤ 1000000) (hd : B.drop a = r.bs)
    (k : Nat) (hk : a + k ≤ B.length) : RAfter S p w ⟨r.bs.drop k, r.bad⟩ (w.setCell ⟨p, 1, none⟩ (.int .i64 ((a : Int) + (k : Int)))) := by
  have ud : Upd (fun b => b = p) w (w.setCell ⟨p, 1, none⟩ (.int .i64 ((a : Int) + (k : Int)))) := Upd.setCell (F := fun b => b = p) (Upd.refl _ w) (p := ⟨p, 1, none⟩) (fun _ => rfl) _
  exact ⟨⟨B, a + k, v, heap_set hh 1 _, hs.upd ud (sep_one hp), hp, hk, hB, by rw [← hd, List.drop_drop]⟩, ud⟩

set_option maxHeartbeats 1000000 in
theorem rint_any {S : Nat → Prop} (p : Nat) (m : Int) (r : Rd) (w : World) (h : RRdr w S p r) (hm : (Lit.int .i64 m).wf = true) :
    Calls Try.prog 53 #[.pointer (some ⟨p, 0, none⟩), .int .i64 m] w fun e w' => e = .returned (.int .i64 ((r.int m).1 : Int)) ∧ RAfter S p w (r.int m).2 w' := by
  have hb := wf_i64 hm
  by_cases c : m < 0
  · have e1 : r.int m = (0, ⟨r.bs, true⟩) := by unfold Rd.int; rw [if_pos c]
    rw [e1]
    have fin := Lib.hid h.spoil
    obtain ⟨B, a, v, hh, hs, hp, ha, hB, hd⟩ := h
    obtain ⟨k0, k1, k2, k3, k4⟩ := RCells.of hh
    clear hh hs hd e1 hm
    go_enter Try.func53, Try.ntmps53
    go_wp2_with fail
    go_ret
    exact ⟨rfl, fin.out⟩
  · have e1 : r.int m = r.most m.toNat := by unfold Rd.int; rw [if_neg c]
    rw [e1]
    obtain ⟨n, rfl⟩ := Int.eq_ofNat_of_zero_le (show 0 ≤ m by omega)
    have hs := Lib.hid (rmost_any p n r w h (by omega))
    have hl := most_le r n
    rw [Int.toNat_natCast]
    have ew : IntKind.u64.wrap (n : Int) = n := by simp only [IntKind.wrap, IntKind.bits, IntKind.signed]; simp; omega
    have ew2 : IntKind.i64.wrap ((r.most n).1 : Int) = (r.most n).1 := by simp only [IntKind.wrap, IntKind.bits, IntKind.signed]; simp; omega
    clear h e1 hm
    go_enter Try.func53, Try.ntmps53
    go_wp2_with fail
    refine hs.out.mono ?_
    rintro e w' ⟨rfl, hw⟩
    have HW := Lib.hid hw
    clear hw
    go_wp2_with fail
    go_ret
    exact ⟨by first | rfl | rw [ew2], HW.out⟩

set_option maxHeartbeats 1000000 in
set_option maxRecDepth 100000 in
theorem rleft_any {S : Nat → Prop} (p : Nat) (r : Rd) (w : World) (h : RRdr w S p r) :
    Calls Try.prog 56 #[.pointer (some ⟨p, 0, none⟩)] w fun e w' => e = .returned (.int .i64 (if r.bad then 0 else (r.bs.length : Int))) ∧ Upd NoB w w' := by
  obtain ⟨B, a, v, hh, hs, hp, ha, hB, hd⟩ := h
  obtain ⟨A, c, cs, rfl, _⟩ := id hs
  have C0 := Lib.hid (fun x (hx : Upd NoB w.drew x) => RCells.of (hx.heap (w := w.drew) hh (fun h => h)))
  obtain ⟨k0, k1, k2, k3, k4⟩ := RCells.of hh
  have hbl : r.bs.length = B.length - a := by rw [← hd]; simp
  have hL := Lib.hid (show (r.bs.length : Int) = (B.length : Int) - (a : Int) by omega)
  have hmx : B.length ≤ 9223372036854775807 := by omega
  have hwr : IntKind.i64.wrap ((B.length : Int) - (a : Int)) = (B.length : Int) - (a : Int) := by simp only [IntKind.wrap, IntKind.bits, IntKind.signed]; simp; omega
  clear hh hs hd hbl
  generalize hbad : r.bad = bad at *
  have HBad := Lib.hid hbad
  clear hbad
  cases bad with
  | true =>
    go_enter Try.func56, Try.ntmps56
    go_wp2_with fail
    go_ret
    exact ⟨rfl, Upd.refl _ _⟩
  | false =>
    go_enter Try.func56, Try.ntmps56
    go_wp2_with fail
    refine sched_begin NoB (by kernel_rfl) ?_
    refine sched_take 0 rfl (by kernel_rfl) (by kernel_rfl) (by kernel_rfl) (fun _ _ _ h => h) rfl (fun x hx => by go_simp; rfl) ?_
    go_simp
    refine sched_take 1 rfl (by kernel_rfl) (by kernel_rfl) (by kernel_rfl) (fun _ _ _ h => h) rfl (fun x hx => by go_simp; rfl) ?_
    go_simp
    refine sched_take 2 rfl (by kernel_rfl) (by kernel_rfl) (by kernel_rfl) (fun _ _ _ h => h) rfl (fun x hx => by go_simp; rfl) ?_
    go_simp
    refine sched_take 3 rfl (by kernel_rfl) (by kernel_rfl) (by kernel_rfl) (fun _ _ _ h => h) rfl (fun x hx => by obtain ⟨k0, k1, k2, k3, k4⟩ := C0.out x hx; go_simp; rfl) ?_
    go_simp
    refine sched_take 4 rfl (by kernel_rfl) (by kernel_rfl) (by kernel_rfl) (fun _ _ _ h => h) rfl (fun x hx => by go_simp; rfl) ?_
    go_simp
    refine sched_take 5 rfl (by kernel_rfl) (by kernel_rfl) (by kernel_rfl) (fun _ _ _ h => h) rfl (fun x hx => by go_simp; rfl) ?_
    go_simp
    refine sched_take 6 rfl (by kernel_rfl) (by kernel_rfl) (by kernel_rfl) (fun _ _ _ h => h) rfl (fun x hx => by go_simp; rfl) ?_
    go_simp
    refine sched_take 7 rfl (by kernel_rfl) (by kernel_rfl) (by kernel_rfl) (fun _ _ _ h => h) rfl (fun x hx => by go_simp; rfl) ?_
    go_simp
    refine sched_take 8 rfl (by kernel_rfl) (by kernel_rfl) (by kernel_rfl) (fun _ _ _ h => h) rfl (fun x hx => by obtain ⟨k0, k1, k2, k3, k4⟩ := C0.out x hx; go_simp; rfl) ?_
    go_simp
    refine sched_take 9 rfl (by kernel_rfl) (by kernel_rfl) (by kernel_rfl) (fun _ _ _ h => h) rfl (fun x hx => by go_simp; rfl) ?_
    go_simp
    refine sched_take 10 rfl (by kernel_rfl) (by kernel_rfl) (by kernel_rfl) (fun _ _ _ h => h) rfl (fun x hx => by go_simp; rfl) ?_
    go_simp
    refine sched_done (by kernel_rfl) ?_
    go_wp2_with fail
    go_ret
    exact ⟨by show Ending.returned _ = Ending.returned _; rw [hL.out]; rfl, (Upd.refl _ _).drew⟩
set_option maxHeartbeats 4000000 in
set_option maxRecDepth 100000 in
theorem rtext_any {S : Nat → Prop} (p : Nat) (m : Int) (r : Rd) (w : World) (h : RRdr w S p r) (hm : (Lit.int .i64 m).wf = true) :
    Calls Try.prog 54 #[.pointer (some ⟨p, 0, none⟩), .int .i64 m] w fun e w' => e = .returned (.string (strOf (r.text m).1)) ∧ RAfter S p w (r.text m).2 w' := by
  have hi := rint_any p m r w h hm
  have hml : (r.int m).1 ≤ 9223372036854775807 := by
    have hb := wf_i64 hm
    unfold Rd.int
    split
    · simp
    · have := most_le r m.toNat
      omega
  unfold Rd.text
  generalize r.int m = q at *
  obtain ⟨n, r1⟩ := q
  simp only at hi hml
  have HI := Lib.hid hi
  clear hi h hm
  go_enter Try.func54, Try.ntmps54
  go_wp2_with fail
  refine HI.out.mono ?_
  rintro e w1 ⟨rfl, hw⟩
  have HSp := Lib.hid hw.1.spoil
  have HW := Lib.hid hw.2
  obtain ⟨B, a, v, hh, hs, hp, ha, hB, hd⟩ := hw.1
  obtain ⟨A, c, cs, rfl, u1, u2, _⟩ := id hs
  have u2' : c ≤ 9223372036854775807 := u2
  have hmx : B.length ≤ 9223372036854775807 := by omega
  have hwr : IntKind.i64.wrap ((B.length : Int) - (a : Int)) = (B.length : Int) - (a : Int) := by simp only [IntKind.wrap, IntKind.bits, IntKind.signed]; simp; omega
  have hbl : r1.bs.length = B.length - a := by rw [← hd]; simp
  have HTk := Lib.hid (fun hk => RRdr.took (r := r1) hh hs hp hB hd n hk)
  have C0 := Lib.hid (fun x (hx : Upd NoB w1.drew x) => RCells.of (hx.heap (w := w1.drew) hh (fun h => h)))
  have HS := Lib.hid hs
  have HD := Lib.hid hd
  have HH := Lib.hid hh
  clear hh hs hd hw
  generalize hbad : r1.bad = bad at *
  have HBad := Lib.hid hbad
  clear hbad
  have fsp : ∀ x, Upd NoB w1 x → RAfter S p w1 ⟨r1.bs, true⟩ (x.setCell ⟨p, 2, none⟩ (.bool true)) := by
    intro x hu
    have h2 : RRdr x S p r1 := ⟨B, a, _, by rw [HBad.out]; exact hu.heap HH.out (fun h => h), HS.out.upd hu (fun _ _ h => h), hp, ha, hB, HD.out⟩
    exact ⟨h2.spoil.1, (hu.mono (fun _ _ h => h.elim)).trans h2.spoil.2⟩
  have FSp := Lib.hid fsp
  clear fsp
  cases bad with
  | true =>
    have E1 := Lib.hid (show Rd.cutText (n, r1) = ([], ⟨r1.bs, true⟩) by unfold Rd.cutText; rw [if_pos (Or.inl HBad.out)])
    go_wp2_with fail
    refine sched_begin NoB (by kernel_rfl) ?_
    refine sched_take 0 rfl (by kernel_rfl) (by kernel_rfl) (by kernel_rfl) (fun _ _ _ h => h) rfl (fun x hx => by go_simp; rfl) ?_
    go_simp
    refine sched_take 1 rfl (by kernel_rfl) (by kernel_rfl) (by kernel_rfl) (fun _ _ _ h => h) rfl (fun x hx => by go_simp; rfl) ?_
    go_simp
    refine sched_take 2 rfl (by kernel_rfl) (by kernel_rfl) (by kernel_rfl) (fun _ _ _ h => h) rfl (fun x hx => by go_simp; rfl) ?_
    go_simp
    refine sched_take 3 rfl (by kernel_rfl) (by kernel_rfl) (by kernel_rfl) (fun _ _ _ h => h) rfl (fun x hx => by obtain ⟨k0, k1, k2, k3, k4⟩ := C0.out x hx; go_simp; rfl) ?_
    go_simp
    refine sched_take 4 rfl (by kernel_rfl) (by kernel_rfl) (by kernel_rfl) (fun _ _ _ h => h) rfl (fun x hx => by go_simp; rfl) ?_
    go_simp
    refine sched_skip 5 rfl (by kernel_rfl) (by kernel_rfl) (by kernel_rfl) (fun _ _ _ h => h) rfl ?_
    go_simp
    refine sched_skip 6 rfl (by kernel_rfl) (by kernel_rfl) (by kernel_rfl) (fun _ _ _ h => h) rfl ?_
    go_simp
    refine sched_skip 7 rfl (by kernel_rfl) (by kernel_rfl) (by kernel_rfl) (fun _ _ _ h => h) rfl ?_
    go_simp
    refine sched_skip 8 rfl (by kernel_rfl) (by kernel_rfl) (by kernel_rfl) (fun _ _ _ h => h) rfl ?_
    go_simp
    refine sched_skip 9 rfl (by kernel_rfl) (by kernel_rfl) (by kernel_rfl) (fun _ _ _ h => h) rfl ?_
    go_simp
    refine sched_skip 10 rfl (by kernel_rfl) (by kernel_rfl) (by kernel_rfl) (fun _ _ _ h => h) rfl ?_
    go_simp
    refine sched_skip 11 rfl (by kernel_rfl) (by kernel_rfl) (by kernel_rfl) (fun _ _ _ h => h) rfl ?_
    go_simp
    refine sched_skip 12 rfl (by kernel_rfl) (by kernel_rfl) (by kernel_rfl) (fun _ _ _ h => h) rfl ?_
    go_simp
    refine sched_skip 13 rfl (by kernel_rfl) (by kernel_rfl) (by kernel_rfl) (fun _ _ _ h => h) rfl ?_
    go_simp
    refine sched_skip 14 rfl (by kernel_rfl) (by kernel_rfl) (by kernel_rfl) (fun _ _ _ h => h) rfl ?_
    go_simp
    refine sched_skip 15 rfl (by kernel_rfl) (by kernel_rfl) (by kernel_rfl) (fun _ _ _ h => h) rfl ?_
    go_simp
    refine sched_skip 16 rfl (by kernel_rfl) (by kernel_rfl) (by kernel_rfl) (fun _ _ _ h => h) rfl ?_
    go_simp
    refine sched_take 17 rfl (by kernel_rfl) (by kernel_rfl) (by kernel_rfl) (fun _ _ _ h => h) rfl (fun x hx => by go_simp; rfl) ?_
    go_simp
    refine sched_done (by kernel_rfl) ?_
    obtain ⟨k0, k1, k2, k3, k4⟩ := C0.out w1.drew (Upd.refl _ _)
    have fin := Lib.hid (FSp.out w1.drew ((Upd.refl _ _).drew))
    go_wp2_with fail
    go_ret
    exact ⟨by rw [E1.out]; rfl, by rw [E1.out]; exact ⟨fin.out.1, HW.out.trans fin.out.2⟩⟩
  | false =>
    by_cases c2 : r1.bs.length < n
    · have E1 := Lib.hid (show Rd.cutText (n, r1) = ([], ⟨r1.bs, true⟩) by unfold Rd.cutText; rw [if_pos (Or.inr c2)])
      have d1 : (B.length : Int) - (a : Int) < (n : Int) := by omega
      go_wp2_with fail
      refine sched_begin NoB (by kernel_rfl) ?_
      refine sched_take 0 rfl (by kernel_rfl) (by kernel_rfl) (by kernel_rfl) (fun _ _ _ h => h) rfl (fun x hx => by go_simp; rfl) ?_
      go_simp
      refine sched_take 1 rfl (by kernel_rfl) (by kernel_rfl) (by kernel_rfl) (fun _ _ _ h => h) rfl (fun x hx => by go_simp; rfl) ?_
      go_simp
      refine sched_take 2 rfl (by kernel_rfl) (by kernel_rfl) (by kernel_rfl) (fun _ _ _ h => h) rfl (fun x hx => by go_simp; rfl) ?_
      go_simp
      refine sched_take 3 rfl (by kernel_rfl) (by kernel_rfl) (by kernel_rfl) (fun _ _ _ h => h) rfl (fun x hx => by obtain ⟨k0, k1, k2, k3, k4⟩ := C0.out x hx; go_simp; rfl) ?_
      go_simp
      refine sched_take 4 rfl (by kernel_rfl) (by kernel_rfl) (by kernel_rfl) (fun _ _ _ h => h) rfl (fun x hx => by go_simp; rfl) ?_
      go_simp
      refine sched_take 5 rfl (by kernel_rfl) (by kernel_rfl) (by kernel_rfl) (fun _ _ _ h => h) rfl (fun x hx => by go_simp; rfl) ?_
      go_simp
      refine sched_take 6 rfl (by kernel_rfl) (by kernel_rfl) (by kernel_rfl) (fun _ _ _ h => h) rfl (fun x hx => by go_simp; rfl) ?_
      go_simp
      refine sched_take 7 rfl (by kernel_rfl) (by kernel_rfl) (by kernel_rfl) (fun _ _ _ h => h) rfl (fun x hx => by go_simp; rfl) ?_
      go_simp
      refine sched_take 8 rfl (by kernel_rfl) (by kernel_rfl) (by kernel_rfl) (fun _ _ _ h => h) rfl (fun x hx => by go_simp; rfl) ?_
      go_simp
      refine sched_take 9 rfl (by kernel_rfl) (by kernel_rfl) (by kernel_rfl) (fun _ _ _ h => h) rfl (fun x hx => by obtain ⟨k0, k1, k2, k3, k4⟩ := C0.out x hx; go_simp; rfl) ?_
      go_simp
      refine sched_take 10 rfl (by kernel_rfl) (by kernel_rfl) (by kernel_rfl) (fun _ _ _ h => h) rfl (fun x hx => by go_simp; rfl) ?_
      go_simp
      refine sched_take 11 rfl (by kernel_rfl) (by kernel_rfl) (by kernel_rfl) (fun _ _ _ h => h) rfl (fun x hx => by go_simp; rfl) ?_
      go_simp
      refine sched_take 12 rfl (by kernel_rfl) (by kernel_rfl) (by kernel_rfl) (fun _ _ _ h => h) rfl (fun x hx => by go_simp; rfl) ?_
      go_simp
      refine sched_take 13 rfl (by kernel_rfl) (by kernel_rfl) (by kernel_rfl) (fun _ _ _ h => h) rfl (fun x hx => by go_simp; rfl) ?_
      go_simp
      refine sched_take 14 rfl (by kernel_rfl) (by kernel_rfl) (by kernel_rfl) (fun _ _ _ h => h) rfl (fun x hx => by obtain ⟨k0, k1, k2, k3, k4⟩ := C0.out x hx; go_simp; rfl) ?_
      go_simp
      refine sched_take 15 rfl (by kernel_rfl) (by kernel_rfl) (by kernel_rfl) (fun _ _ _ h => h) rfl (fun x hx => by go_simp; rfl) ?_
      go_simp
      refine sched_take 16 rfl (by kernel_rfl) (by kernel_rfl) (by kernel_rfl) (fun _ _ _ h => h) rfl (fun x hx => by go_simp; rfl) ?_
      go_simp
      refine sched_take 17 rfl (by kernel_rfl) (by kernel_rfl) (by kernel_rfl) (fun _ _ _ h => h) rfl (fun x hx => by go_simp; rfl) ?_
      go_simp
      refine sched_done (by kernel_rfl) ?_
      obtain ⟨k0, k1, k2, k3, k4⟩ := C0.out w1.drew (Upd.refl _ _)
      have fin := Lib.hid (FSp.out w1.drew ((Upd.refl _ _).drew))
      go_wp2_with fail
      go_ret
      exact ⟨by rw [E1.out]; rfl, by rw [E1.out]; exact ⟨fin.out.1, HW.out.trans fin.out.2⟩⟩
    · have E1 := Lib.hid (show Rd.cutText (n, r1) = (r1.bs.take n, ⟨r1.bs.drop n, false⟩) by
        unfold Rd.cutText; rw [if_neg (by rintro (h | h); · rw [HBad.out] at h; cases h
                                          · exact c2 h)])
      have d1 : ¬ (B.length : Int) - (a : Int) < (n : Int) := by omega
      go_wp2_with fail
      refine sched_begin NoB (by kernel_rfl) ?_
      refine sched_take 0 rfl (by kernel_rfl) (by kernel_rfl) (by kernel_rfl) (fun _ _ _ h => h) rfl (fun x hx => by go_simp; rfl) ?_
      go_simp
      refine sched_take 1 rfl (by kernel_rfl) (by kernel_rfl) (by kernel_rfl) (fun _ _ _ h => h) rfl (fun x hx => by go_simp; rfl) ?_
      go_simp
      refine sched_take 2 rfl (by kernel_rfl) (by kernel_rfl) (by kernel_rfl) (fun _ _ _ h => h) rfl (fun x hx => by go_simp; rfl) ?_
      go_simp
      refine sched_take 3 rfl (by kernel_rfl) (by kernel_rfl) (by kernel_rfl) (fun _ _ _ h => h) rfl (fun x hx => by obtain ⟨k0, k1, k2, k3, k4⟩ := C0.out x hx; go_simp; rfl) ?_
      go_simp
      refine sched_take 4 rfl (by kernel_rfl) (by kernel_rfl) (by kernel_rfl) (fun _ _ _ h => h) rfl (fun x hx => by go_simp; rfl) ?_
      go_simp
      refine sched_take 5 rfl (by kernel_rfl) (by kernel_rfl) (by kernel_rfl) (fun _ _ _ h => h) rfl (fun x hx => by go_simp; rfl) ?_
      go_simp
      refine sched_take 6 rfl (by kernel_rfl) (by kernel_rfl) (by kernel_rfl) (fun _ _ _ h => h) rfl (fun x hx => by go_simp; rfl) ?_
      go_simp
      refine sched_take 7 rfl (by kernel_rfl) (by kernel_rfl) (by kernel_rfl) (fun _ _ _ h => h) rfl (fun x hx => by go_simp; rfl) ?_
      go_simp
      refine sched_take 8 rfl (by kernel_rfl) (by kernel_rfl) (by kernel_rfl) (fun _ _ _ h => h) rfl (fun x hx => by go_simp; rfl) ?_
      go_simp
      refine sched_take 9 rfl (by kernel_rfl) (by kernel_rfl) (by kernel_rfl) (fun _ _ _ h => h) rfl (fun x hx => by obtain ⟨k0, k1, k2, k3, k4⟩ := C0.out x hx; go_simp; rfl) ?_
      go_simp
      refine sched_take 10 rfl (by kernel_rfl) (by kernel_rfl) (by kernel_rfl) (fun _ _ _ h => h) rfl (fun x hx => by go_simp; rfl) ?_
      go_simp
      refine sched_take 11 rfl (by kernel_rfl) (by kernel_rfl) (by kernel_rfl) (fun _ _ _ h => h) rfl (fun x hx => by go_simp; rfl) ?_
      go_simp
      refine sched_take 12 rfl (by kernel_rfl) (by kernel_rfl) (by kernel_rfl) (fun _ _ _ h => h) rfl (fun x hx => by go_simp; rfl) ?_
      go_simp
      refine sched_take 13 rfl (by kernel_rfl) (by kernel_rfl) (by kernel_rfl) (fun _ _ _ h => h) rfl (fun x hx => by go_simp; rfl) ?_
      go_simp
      refine sched_take 14 rfl (by kernel_rfl) (by kernel_rfl) (by kernel_rfl) (fun _ _ _ h => h) rfl (fun x hx => by obtain ⟨k0, k1, k2, k3, k4⟩ := C0.out x hx; go_simp; rfl) ?_
      go_simp
      refine sched_take 15 rfl (by kernel_rfl) (by kernel_rfl) (by kernel_rfl) (fun _ _ _ h => h) rfl (fun x hx => by go_simp; rfl) ?_
      go_simp
      refine sched_take 16 rfl (by kernel_rfl) (by kernel_rfl) (by kernel_rfl) (fun _ _ _ h => h) rfl (fun x hx => by go_simp; rfl) ?_
      go_simp
      refine sched_take 17 rfl (by kernel_rfl) (by kernel_rfl) (by kernel_rfl) (fun _ _ _ h => h) rfl (fun x hx => by go_simp; rfl) ?_
      go_simp
      refine sched_done (by kernel_rfl) ?_
      have hk : a + n ≤ B.length := by omega
      have hwa : IntKind.i64.wrap ((a : Int) + (n : Int)) = (a : Int) + (n : Int) := by simp only [IntKind.wrap, IntKind.bits, IntKind.signed]; simp; omega
      have hws : IntKind.i64.wrap ((a : Int) + (n : Int) - (n : Int)) = (a : Int) := by rw [show (a : Int) + (n : Int) - (n : Int) = a by omega]; simp only [IntKind.wrap, IntKind.bits, IntKind.signed]; simp; omega
      obtain ⟨k0, k1, k2, k3, k4⟩ := C0.out w1.drew (Upd.refl _ _)
      have fin := Lib.hid (HTk.out hk)
      have hW2 : (w1.setCell ⟨p, 1, none⟩ (.int .i64 ((a : Int) + (n : Int)))).heap[p]? = some (.cells #[.slice A B.length c, .int .i64 ((a + n : Nat) : Int), .bool false] 70 (0, 0)) := by
        have := heap_set HH.out 1 (.int .i64 ((a : Int) + (n : Int)))
        simpa using this
      have uW2 : Upd (fun b => b = p) w1 (w1.setCell ⟨p, 1, none⟩ (.int .i64 ((a : Int) + (n : Int)))) := Upd.setCell (F := fun b => b = p) (Upd.refl _ w1) (p := ⟨p, 1, none⟩) (fun _ => rfl) _
      have hsW : RSl Rep.byte (w1.setCell ⟨p, 1, none⟩ (.int .i64 ((a : Int) + (n : Int)))) S (.slice A B.length c) B := HS.out.upd uW2 (sep_one hp)
      go_wp2_with fail
      generalize (w1.setCell ⟨p, 1, none⟩ (.int .i64 ((a : Int) + (n : Int)))) = W2 at *
      have C2 := Lib.hid (fun x (hx : Upd NoB W2.drew.drew x) => RCells.of (hx.heap (w := W2.drew.drew) hW2 (fun h => h)))
      have hwaa : IntKind.i64.wrap (a : Int) = (a : Int) := by simp only [IntKind.wrap, IntKind.bits, IntKind.signed]; simp; omega
      have hdone : (∃ x, Upd NoB W2.drew.drew x) → True := fun _ => trivial
      clear hdone hW2 uW2
      have HS2 := Lib.hid hsW
      clear hsW
      have hmx2 : maxLen = 9223372036854775807 := rfl
      rcases A with _ | ⟨g, o, sp⟩
      · obtain ⟨A', c', cs', hA, hl', -, -, hN, -⟩ := id HS.out
        cases hA
        obtain rfl : c = 0 := hN rfl
        obtain rfl : B = [] := List.eq_nil_of_length_eq_zero (by omega)
        obtain rfl : a = 0 := by simp at hk; omega
        obtain rfl : n = 0 := by simp at hk; omega
        have hcv : ∀ x, (convert 53 9 (.slice none 0 0)).run Try.prog x = .ok (.string ⟨#[]⟩) x := fun x => run_convert_bytes_nil x 53 5 Try.underlying53 Try.underlying5 0 0 9 Try.underlying9
        refine sched_begin NoB (by kernel_rfl) ?_
        refine sched_take 0 rfl (by kernel_rfl) (by kernel_rfl) (by kernel_rfl) (fun _ _ _ h => h) rfl (fun x hx => by go_simp; rfl) ?_
        go_simp
        refine sched_take 1 rfl (by kernel_rfl) (by kernel_rfl) (by kernel_rfl) (fun _ _ _ h => h) rfl (fun x hx => by go_simp; rfl) ?_
        go_simp
        refine sched_take 2 rfl (by kernel_rfl) (by kernel_rfl) (by kernel_rfl) (fun _ _ _ h => h) rfl (fun x hx => by go_simp; rfl) ?_
        go_simp
        refine sched_take 3 rfl (by kernel_rfl) (by kernel_rfl) (by kernel_rfl) (fun _ _ _ h => h) rfl (fun x hx => by obtain ⟨k0, k1, k2, k3, k4⟩ := C2.out x hx; go_simp; rfl) ?_
        go_simp
        refine sched_take 4 rfl (by kernel_rfl) (by kernel_rfl) (by kernel_rfl) (fun _ _ _ h => h) rfl (fun x hx => by go_simp; rfl) ?_
        go_simp
        refine sched_take 5 rfl (by kernel_rfl) (by kernel_rfl) (by kernel_rfl) (fun _ _ _ h => h) rfl (fun x hx => by go_simp; rfl) ?_
        go_simp
        refine sched_take 6 rfl (by kernel_rfl) (by kernel_rfl) (by kernel_rfl) (fun _ _ _ h => h) rfl (fun x hx => by go_simp; rfl) ?_
        go_simp
        refine sched_take 7 rfl (by kernel_rfl) (by kernel_rfl) (by kernel_rfl) (fun _ _ _ h => h) rfl (fun x hx => by obtain ⟨k0, k1, k2, k3, k4⟩ := C2.out x hx; go_simp; rfl) ?_
        go_simp
        refine sched_take 8 rfl (by kernel_rfl) (by kernel_rfl) (by kernel_rfl) (fun _ _ _ h => h) rfl (fun x hx => by go_simp; rfl) ?_
        go_simp
        refine sched_take 9 rfl (by kernel_rfl) (by kernel_rfl) (by kernel_rfl) (fun _ _ _ h => h) rfl (fun x hx => by go_simp; rfl) ?_
        go_simp
        refine sched_take 10 rfl (by kernel_rfl) (by kernel_rfl) (by kernel_rfl) (fun _ _ _ h => h) rfl (fun x hx => by go_simp; rfl) ?_
        go_simp
        refine sched_take 11 rfl (by kernel_rfl) (by kernel_rfl) (by kernel_rfl) (fun _ _ _ h => h) rfl (fun x hx => by go_simp; rfl) ?_
        go_simp
        refine sched_take 12 rfl (by kernel_rfl) (by kernel_rfl) (by kernel_rfl) (fun _ _ _ h => h) rfl (fun x hx => by go_simp; rfl) ?_
        go_simp
        refine sched_take 13 rfl (by kernel_rfl) (by kernel_rfl) (by kernel_rfl) (fun _ _ _ h => h) rfl (fun x hx => by obtain ⟨k0, k1, k2, k3, k4⟩ := C2.out x hx; go_simp; rfl) ?_
        go_simp
        refine sched_take 14 rfl (by kernel_rfl) (by kernel_rfl) (by kernel_rfl) (fun _ _ _ h => h) rfl (fun x hx => by go_simp; rfl) ?_
        go_simp
        refine sched_take 15 rfl (by kernel_rfl) (by kernel_rfl) (by kernel_rfl) (fun _ _ _ h => h) rfl (fun x hx => by have hcvx := hcv x; go_simp; rfl) ?_
        go_simp
        refine sched_take 16 rfl (by kernel_rfl) (by kernel_rfl) (by kernel_rfl) (fun _ _ _ h => h) rfl (fun x hx => by go_simp; rfl) ?_
        go_simp
        refine sched_done (by kernel_rfl) ?_
        go_wp2_with fail
        go_ret
        exact ⟨by rw [E1.out]; rfl, by rw [E1.out]; exact ⟨fin.out.1.keep ((Upd.refl NoB W2).drew.drew) (fun _ _ h => h) (fun h => h), HW.out.trans (fin.out.2.drew.drew)⟩⟩
      · obtain ⟨A', c', cs', hA, hl', -, -, -, hN⟩ := id HS.out
        cases hA
        obtain ⟨rfl, -, -⟩ := hN _ rfl
        have hsl : ∀ x, Upd NoB W2.drew.drew x → (convert 53 9 (.slice (if c = a then some ⟨g, o, none⟩ else some ⟨g, o + a, none⟩) n (c - a))).run Try.prog x = .ok (.string (strOf (r1.bs.take n))) x := by
          intro x hx
          have h1 := (HS2.out.upd (((Upd.refl NoB W2).drew).drew.trans hx) (fun _ _ h => h)).post a ha
          rw [HD.out] at h1
          have hlen : B.length - a = r1.bs.length := hbl.symm
          by_cases q : c = a
          · rw [if_pos q] at h1 ⊢
            exact conv9 (h1.pre n (by omega) (by omega) (Nat.le_refl _))
          · rw [if_neg q] at h1 ⊢
            have h2 := h1.pre n (by omega) (c' := c - a) (by omega) (Nat.le_refl _)
            exact conv9 (by simpa [Rep.byte] using h2)
        have f1 : (0 : Int) ≤ (a : Int) + (n : Int) := by omega
        have f2 : (a : Int) + (n : Int) ≤ (c : Int) := by omega
        have f3 : ((a : Int) + (n : Int)).toNat = a + n := by omega
        have f4 : a + n - a = n := by omega
        refine sched_begin NoB (by kernel_rfl) ?_
        refine sched_take 0 rfl (by kernel_rfl) (by kernel_rfl) (by kernel_rfl) (fun _ _ _ h => h) rfl (fun x hx => by go_simp; rfl) ?_
        go_simp
        refine sched_take 1 rfl (by kernel_rfl) (by kernel_rfl) (by kernel_rfl) (fun _ _ _ h => h) rfl (fun x hx => by go_simp; rfl) ?_
        go_simp
        refine sched_take 2 rfl (by kernel_rfl) (by kernel_rfl) (by kernel_rfl) (fun _ _ _ h => h) rfl (fun x hx => by go_simp; rfl) ?_
        go_simp
        refine sched_take 3 rfl (by kernel_rfl) (by kernel_rfl) (by kernel_rfl) (fun _ _ _ h => h) rfl (fun x hx => by obtain ⟨k0, k1, k2, k3, k4⟩ := C2.out x hx; go_simp; rfl) ?_
        go_simp
        refine sched_take 4 rfl (by kernel_rfl) (by kernel_rfl) (by kernel_rfl) (fun _ _ _ h => h) rfl (fun x hx => by go_simp; rfl) ?_
        go_simp
        refine sched_take 5 rfl (by kernel_rfl) (by kernel_rfl) (by kernel_rfl) (fun _ _ _ h => h) rfl (fun x hx => by go_simp; rfl) ?_
        go_simp
        refine sched_take 6 rfl (by kernel_rfl) (by kernel_rfl) (by kernel_rfl) (fun _ _ _ h => h) rfl (fun x hx => by go_simp; rfl) ?_
        go_simp
        refine sched_take 7 rfl (by kernel_rfl) (by kernel_rfl) (by kernel_rfl) (fun _ _ _ h => h) rfl (fun x hx => by obtain ⟨k0, k1, k2, k3, k4⟩ := C2.out x hx; go_simp; rfl) ?_
        go_simp
        refine sched_take 8 rfl (by kernel_rfl) (by kernel_rfl) (by kernel_rfl) (fun _ _ _ h => h) rfl (fun x hx => by go_simp; rfl) ?_
        go_simp
        refine sched_take 9 rfl (by kernel_rfl) (by kernel_rfl) (by kernel_rfl) (fun _ _ _ h => h) rfl (fun x hx => by go_simp; rfl) ?_
        go_simp
        refine sched_take 10 rfl (by kernel_rfl) (by kernel_rfl) (by kernel_rfl) (fun _ _ _ h => h) rfl (fun x hx => by go_simp; rfl) ?_
        go_simp
        refine sched_take 11 rfl (by kernel_rfl) (by kernel_rfl) (by kernel_rfl) (fun _ _ _ h => h) rfl (fun x hx => by go_simp; rfl) ?_
        go_simp
        refine sched_take 12 rfl (by kernel_rfl) (by kernel_rfl) (by kernel_rfl) (fun _ _ _ h => h) rfl (fun x hx => by go_simp; rfl) ?_
        go_simp
        refine sched_take 13 rfl (by kernel_rfl) (by kernel_rfl) (by kernel_rfl) (fun _ _ _ h => h) rfl (fun x hx => by obtain ⟨k0, k1, k2, k3, k4⟩ := C2.out x hx; go_simp; rfl) ?_
        go_simp
        refine sched_take 14 rfl (by kernel_rfl) (by kernel_rfl) (by kernel_rfl) (fun _ _ _ h => h) rfl (fun x hx => by go_simp; rfl) ?_
        go_simp
        refine sched_take 15 rfl (by kernel_rfl) (by kernel_rfl) (by kernel_rfl) (fun _ _ _ h => h) rfl (fun x hx => by have hcv := hsl x hx; go_simp; rfl) ?_
        go_simp
        refine sched_take 16 rfl (by kernel_rfl) (by kernel_rfl) (by kernel_rfl) (fun _ _ _ h => h) rfl (fun x hx => by go_simp; rfl) ?_
        go_simp
        refine sched_done (by kernel_rfl) ?_
        go_wp2_with fail
        all_goals go_ret
        all_goals exact ⟨by rw [E1.out]; rfl, by rw [E1.out]; exact ⟨fin.out.1.keep ((Upd.refl NoB W2).drew.drew) (fun _ _ h => h) (fun h => h), HW.out.trans (fin.out.2.drew.drew)⟩⟩
end Go.Proofs.Ytflifeelgamaaaa
