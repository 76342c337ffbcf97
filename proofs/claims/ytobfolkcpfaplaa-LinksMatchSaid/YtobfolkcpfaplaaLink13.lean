/- What a log takes of a piece. -/
import Derived.Test.YtobfolkcpfaplaaLink12
namespace Go.Proofs.Ytobfolkcpfaplaa
open Go.RowKit Kit
set_option linter.unusedVariables false
/-- What a log is when it has been offered a piece. -/
def takeL (l : List Fin) (a : Nat) (E : Int) (q : List Fin) : List Fin :=
  if fitB l a E = true then (if sameN l a q < q.length then l.take (a + sameN l a q) ++ q.drop (sameN l a q) else l) else l
theorem sameC_le : ∀ l q : List Fin, sameC l q ≤ q.length ∧ sameC l q ≤ l.length
  | [], q => by cases q <;> simp [sameC]
  | _ :: _, [] => by simp [sameC]
  | x :: l, y :: q => by
    have := sameC_le l q
    simp only [sameC]
    split <;> simp <;> omega
theorem sameN_le (l : List Fin) (a : Nat) (q : List Fin) (h : a ≤ l.length) : sameN l a q ≤ q.length ∧ a + sameN l a q ≤ l.length := by
  unfold sameN
  rw [if_neg (by omega)]
  have := sameC_le (l.drop a) q
  rw [List.length_drop] at this
  simp only [show (a : Int).toNat = a by omega]
  omega
set_option maxHeartbeats 8000000 in
set_option maxRecDepth 100000 in
theorem take_no {S : Nat → Prop} (w0 : World) (xs : List Nat) (p : Nat) (l q : List Fin) (v : Value) (a : Nat) (E : Int) (w : World) (h : Ll w0 w xs p l) (hl : l.length ≤ 1000) (hf : fitB l a E = false) :
    Calls Try.prog 39 #[.pointer (some ⟨p, 0, none⟩), .int .i64 a, .int .u64 E, v] w fun e w' => e = .returned (.tuple #[]) ∧ Upd NoB w w' := by
  have hfi := Lib.hid (fits_any w0 xs p l a E w h (by omega))
  rw [hf] at hfi
  clear h hf
  go_enter Try.func39, Try.ntmps39
  go_wp2_with fail
  refine hfi.out.mono ?_
  rintro e w1 ⟨rfl, hu⟩
  have HU1 := Lib.hid hu
  clear hu
  go_wp2_with fail
  exact bodyPost_ret (v := .tuple #[]) (by simp [results, Try.results39, go_sem, *]) rfl ⟨rfl, HU1.out⟩
theorem stepF {w0 w w1 w2 : World} {xs : List Nat} {p : Nat} (h : Upd (fun b => b = p ∨ New w0 w xs b) w w1) (k : Upd (fun b => b = p ∨ New w0 w1 xs b) w1 w2) : Upd (fun b => b = p ∨ New w0 w xs b) w w2 :=
  h.then k (fun i hi e => e.imp id (fun e => ⟨e.1, hi, e.2.2⟩))
set_option maxHeartbeats 8000000 in
set_option maxRecDepth 100000 in
theorem take_some {S : Nat → Prop} (w0 : World) (xs : List Nat) (p : Nat) (l q : List Fin) (v : Value) (a n : Nat) (E : Int) (w : World) (h : Ll w0 w xs p l) (hq : RSl Rep.fin w S v q) (hS0 : ∀ b, S b → b ∈ xs ∧ b ≠ p) (hf : fitB l a E = true) (hn : sameN l a q = n) (hnq : n < q.length)
    (ha : a ≤ l.length) (hl : l.length ≤ 1000) (hsz0 : a + q.length < 400) (hpos0 : ∀ (i : Nat) (x : Fin), q[i]? = some x → 0 < x.ep ∧ 0 < x.sq) (hrise0 : ∀ (k : Nat) (x : Fin), q[n + k]? = some x → epL (l.take (a + n) ++ (q.drop n).take k) (l.take (a + n) ++ (q.drop n).take k).length ≤ x.ep)
    (hp : p ∈ xs) (hxs : ∀ x ∈ xs, x < w.heap.size) (h0 : w0.heap.size ≤ w.heap.size) :
    Calls Try.prog 39 #[.pointer (some ⟨p, 0, none⟩), .int .i64 a, .int .u64 E, v] w fun e w' => e = .returned (.tuple #[]) ∧ Ll w0 w' xs p (l.take (a + n) ++ q.drop n) ∧ Upd (fun b => b = p ∨ New w0 w xs b) w w' := by
  have hle := Lib.hid (hn ▸ sameN_le l a q ha)
  have hfi := Lib.hid (fits_any w0 xs p l a E w h (by omega))
  have HK := Lib.hid (fun x (hx : Upd NoB w x) => h.keep hx (fun h => h) (fun _ h => h.elim))
  have hsa := Lib.hid (fun x (hx : Upd NoB w x) => same_any w0 xs p l q v a x (HK.out x hx) (hq.upd hx (fun _ _ h => h)) (by omega) (by omega))
  have hln := Lib.hid (fun x (hx : Upd NoB w x) => len_any w0 xs p l x (HK.out x hx))
  have hcu := Lib.hid (fun x (hx : Upd NoB w x) => cut_any w0 xs p l (a + n) x (HK.out x hx) (by omega) hle.out.2 hp (fun z hz => Nat.lt_of_lt_of_le (hxs z hz) hx.size) (Nat.le_trans h0 hx.size))
  have HQ := Lib.hid hq
  have hS := Lib.hid hS0
  have hsz := Lib.hid hsz0
  have hpos := Lib.hid hpos0
  have hrise := Lib.hid hrise0
  rw [hf] at hfi
  rw [hn] at hsa
  obtain ⟨A, c, cs, rfl, d1, d2, d3, d4, d5⟩ := hq
  cases A with
  | none => have := d4 rfl; omega
  | some A0 =>
    obtain ⟨f1, f2, f3⟩ := d5 _ rfl
    obtain ⟨g, o, sp⟩ := A0
    simp only at f1
    subst f1
    have hcn : ¬ c = n := by omega
    have hnc : n ≤ c := by omega
    have hnq2 : n ≤ q.length := by omega
    have e1 : decide (n < q.length) = true := decide_eq_true hnq
    have hw1 : IntKind.i64.wrap ((a : Int) + n) = ((a + n : Nat) : Int) := by simp only [IntKind.wrap_i64]; omega
    clear h hf hn hS0 hsz0 hpos0 hrise0 d3 d4 d5 f2 f3 hnq
    by_cases hc1 : a + n < l.length
    · have e2 : decide ((a : Int) + n < (l.length : Int)) = true := decide_eq_true (by omega)
      clear hc1
      go_enter Try.func39, Try.ntmps39
      go_wp2_with fail
      refine hfi.out.mono ?_
      rintro e w1 ⟨rfl, hu⟩
      have HU1 := Lib.hid hu
      clear hu
      go_wp2_with fail
      refine (hsa.out _ HU1.out).mono ?_
      rintro e w2 ⟨rfl, hu⟩
      have HU2 := Lib.hid (HU1.out.trans hu)
      clear hu
      go_wp2_with fail
      refine (hln.out _ HU2.out).mono ?_
      rintro e w2b ⟨rfl, hu⟩
      have HU2b := Lib.hid (HU2.out.trans hu)
      clear hu
      go_wp2_with fail
      refine (hcu.out _ HU2b.out).mono ?_
      rintro e w3 ⟨rfl, hk3, hu⟩
      have HL := Lib.hid hk3
      have HUF := Lib.hid (stepF (HU2b.out.mono (fun _ _ h => h.elim)) hu)
      clear hu hk3
      go_wp2_with fail
      have hqb : q.length < 400 := by have := hsz.out; omega
      have HL0 := Lib.hid (show Ll w0 w3 xs p (l.take (a + n) ++ (q.drop n).take 0) by simpa using HL.out)
      go_loopw [41] (fun x41 wr => ∃ k : Nat, n + k ≤ q.length ∧ x41 = .int .i64 k ∧ Hid (Ll w0 wr xs p (l.take (a + n) ++ (q.drop n).take k)) ∧ Hid (Upd (fun b => b = p ∨ New w0 w xs b) w wr)) (fun x41 _ => q.length - (intOf x41).toNat)
      case atStart => exact ⟨0, by omega, rfl, HL0, HUF⟩
      case round =>
        obtain ⟨k, hk, rfl, hLk, hU⟩ := hrel
        by_cases hlt : n + k < q.length
        · have hdl : decide (k < q.length - n) = true := decide_eq_true (by omega)
          have hdl2 : k < q.length - n := by omega
          obtain ⟨g', o', cc, e', hr, hc, hSg⟩ := HQ.out.cellN (n + k) hlt
          cases e'
          have hr' : cc = finC (q[n + k]'hlt) := hr
          subst hr'
          have hnF : ¬ ((fun b => b = p ∨ New w0 w xs b) g) := fun e => e.elim (hS.out g hSg).2 (fun e => e.2.2 (hS.out g hSg).1)
          rw [show Rep.fin.sz = 10 from rfl, show o + (n + k) * 10 = o + n * 10 + k * 10 by rw [Nat.add_mul]; omega] at hc
          have hu := hU.out
          have c0 := hu.cell (hc 0 _ rfl) hnF
          have c1 := hu.cell (hc 1 _ rfl) hnF
          have c2 := hu.cell (hc 2 _ rfl) hnF
          have c3 := hu.cell (hc 3 _ rfl) hnF
          have c4 := hu.cell (hc 4 _ rfl) hnF
          have c5 := hu.cell (hc 5 _ rfl) hnF
          have c6 := hu.cell (hc 6 _ rfl) hnF
          have c7 := hu.cell (hc 7 _ rfl) hnF
          have c8 := hu.cell (hc 8 _ rfl) hnF
          have c9 := hu.cell (hc 9 _ rfl) hnF
          rw [Nat.add_zero] at c0
          have hget : q[n + k]? = some (q[n + k]'hlt) := List.getElem?_eq_getElem hlt
          have hln := Lib.hid (show l.take (a + n) ++ (q.drop n).take (k + 1) = (l.take (a + n) ++ (q.drop n).take k) ++ [q[n + k]'hlt] by
            rw [List.take_add_one, List.getElem?_drop, hget, List.append_assoc]; rfl)
          have hps := Lib.hid (hpos.out (n + k) _ hget)
          have hri := Lib.hid (hrise.out k _ hget)
          have hlen := Lib.hid (show (l.take (a + n) ++ (q.drop n).take k).length < 400 by rw [List.length_append, List.length_take, List.length_take]; have := hsz.out; omega)
          generalize q[n + k]'hlt = x at *
          generalize l.take (a + n) ++ (q.drop n).take k = L at *
          have hadd := Lib.hid (fun y (hy : Upd NoB wr y) => add_any w0 xs p L x.ep x.sq y (hLk.out.keep hy (fun h => h) (fun _ h => h.elim)) hps.out.1 hps.out.2 hri.out hlen.out hp (fun z hz => Nat.lt_of_lt_of_le (hxs z hz) (Nat.le_trans hU.out.size hy.size)) (Nat.le_trans h0 (Nat.le_trans hU.out.size hy.size)))
          unfold finV at hadd
          have HUa := Lib.hid (fun o => (Upd.refl NoB wr).alloc o)
          clear hc hr hu hget hnF
          go_wp2_with fail
          refine (hadd.out _ (HUa.out _)).mono ?_
          rintro e w5 ⟨rfl, hk5, hu5⟩
          have HK5 := Lib.hid hk5
          have HU5 := Lib.hid (stepF (hU.out.trans ((HUa.out _).mono (fun _ _ h => h.elim))) hu5)
          clear hk5 hu5 c0 c1 c2 c3 c4 c5 c6 c7 c8 c9
          go_wp2_with fail
          go_roundw
          case measure => simp [intOf]; omega
          case rel => exact ⟨k + 1, by omega, by go_num, Lib.hid (by rw [hln.out]; exact HK5.out), HU5⟩
        · have hdl : decide (k < q.length - n) = false := decide_eq_false (by omega)
          have hdl2 : ¬ k < q.length - n := by omega
          have fin := Lib.hid (show Ll w0 wr xs p (l.take (a + n) ++ q.drop n) by
            have h1 := hLk.out
            have h2 : (q.drop n).take k = q.drop n := List.take_of_length_le (by rw [List.length_drop]; omega)
            rw [h2] at h1
            exact h1)
          go_wp2_with fail
          refine bodyPost_end (results_none rfl _ _ _) rfl ?_
          exact ⟨rfl, fin.out, hU.out⟩
    · have e2 : decide ((a : Int) + n < (l.length : Int)) = false := decide_eq_false (by omega)
      have htk := Lib.hid (show l.take (a + n) = l from List.take_of_length_le (by omega))
      clear hc1
      go_enter Try.func39, Try.ntmps39
      go_wp2_with fail
      refine hfi.out.mono ?_
      rintro e w1 ⟨rfl, hu⟩
      have HU1 := Lib.hid hu
      clear hu
      go_wp2_with fail
      refine (hsa.out _ HU1.out).mono ?_
      rintro e w2 ⟨rfl, hu⟩
      have HU2 := Lib.hid (HU1.out.trans hu)
      clear hu
      go_wp2_with fail
      refine (hln.out _ HU2.out).mono ?_
      rintro e w3 ⟨rfl, hu⟩
      have HU3 := Lib.hid (HU2.out.trans hu)
      have HL := Lib.hid (show Ll w0 w3 xs p (l.take (a + n)) by rw [htk.out]; exact HK.out w3 HU3.out)
      have HUF := Lib.hid (show Upd (fun b => b = p ∨ New w0 w xs b) w w3 from HU3.out.mono (fun _ _ h => h.elim))
      clear hu
      go_wp2_with fail
      have hqb : q.length < 400 := by have := hsz.out; omega
      have HL0 := Lib.hid (show Ll w0 w3 xs p (l.take (a + n) ++ (q.drop n).take 0) by simpa using HL.out)
      go_loopw [41] (fun x41 wr => ∃ k : Nat, n + k ≤ q.length ∧ x41 = .int .i64 k ∧ Hid (Ll w0 wr xs p (l.take (a + n) ++ (q.drop n).take k)) ∧ Hid (Upd (fun b => b = p ∨ New w0 w xs b) w wr)) (fun x41 _ => q.length - (intOf x41).toNat)
      case atStart => exact ⟨0, by omega, rfl, HL0, HUF⟩
      case round =>
        obtain ⟨k, hk, rfl, hLk, hU⟩ := hrel
        by_cases hlt : n + k < q.length
        · have hdl : decide (k < q.length - n) = true := decide_eq_true (by omega)
          have hdl2 : k < q.length - n := by omega
          obtain ⟨g', o', cc, e', hr, hc, hSg⟩ := HQ.out.cellN (n + k) hlt
          cases e'
          have hr' : cc = finC (q[n + k]'hlt) := hr
          subst hr'
          have hnF : ¬ ((fun b => b = p ∨ New w0 w xs b) g) := fun e => e.elim (hS.out g hSg).2 (fun e => e.2.2 (hS.out g hSg).1)
          rw [show Rep.fin.sz = 10 from rfl, show o + (n + k) * 10 = o + n * 10 + k * 10 by rw [Nat.add_mul]; omega] at hc
          have hu := hU.out
          have c0 := hu.cell (hc 0 _ rfl) hnF
          have c1 := hu.cell (hc 1 _ rfl) hnF
          have c2 := hu.cell (hc 2 _ rfl) hnF
          have c3 := hu.cell (hc 3 _ rfl) hnF
          have c4 := hu.cell (hc 4 _ rfl) hnF
          have c5 := hu.cell (hc 5 _ rfl) hnF
          have c6 := hu.cell (hc 6 _ rfl) hnF
          have c7 := hu.cell (hc 7 _ rfl) hnF
          have c8 := hu.cell (hc 8 _ rfl) hnF
          have c9 := hu.cell (hc 9 _ rfl) hnF
          rw [Nat.add_zero] at c0
          have hget : q[n + k]? = some (q[n + k]'hlt) := List.getElem?_eq_getElem hlt
          have hln := Lib.hid (show l.take (a + n) ++ (q.drop n).take (k + 1) = (l.take (a + n) ++ (q.drop n).take k) ++ [q[n + k]'hlt] by
            rw [List.take_add_one, List.getElem?_drop, hget, List.append_assoc]; rfl)
          have hps := Lib.hid (hpos.out (n + k) _ hget)
          have hri := Lib.hid (hrise.out k _ hget)
          have hlen := Lib.hid (show (l.take (a + n) ++ (q.drop n).take k).length < 400 by rw [List.length_append, List.length_take, List.length_take]; have := hsz.out; omega)
          generalize q[n + k]'hlt = x at *
          generalize l.take (a + n) ++ (q.drop n).take k = L at *
          have hadd := Lib.hid (fun y (hy : Upd NoB wr y) => add_any w0 xs p L x.ep x.sq y (hLk.out.keep hy (fun h => h) (fun _ h => h.elim)) hps.out.1 hps.out.2 hri.out hlen.out hp (fun z hz => Nat.lt_of_lt_of_le (hxs z hz) (Nat.le_trans hU.out.size hy.size)) (Nat.le_trans h0 (Nat.le_trans hU.out.size hy.size)))
          unfold finV at hadd
          have HUa := Lib.hid (fun o => (Upd.refl NoB wr).alloc o)
          clear hc hr hu hget hnF
          go_wp2_with fail
          refine (hadd.out _ (HUa.out _)).mono ?_
          rintro e w5 ⟨rfl, hk5, hu5⟩
          have HK5 := Lib.hid hk5
          have HU5 := Lib.hid (stepF (hU.out.trans ((HUa.out _).mono (fun _ _ h => h.elim))) hu5)
          clear hk5 hu5 c0 c1 c2 c3 c4 c5 c6 c7 c8 c9
          go_wp2_with fail
          go_roundw
          case measure => simp [intOf]; omega
          case rel => exact ⟨k + 1, by omega, by go_num, Lib.hid (by rw [hln.out]; exact HK5.out), HU5⟩
        · have hdl : decide (k < q.length - n) = false := decide_eq_false (by omega)
          have hdl2 : ¬ k < q.length - n := by omega
          have fin := Lib.hid (show Ll w0 wr xs p (l.take (a + n) ++ q.drop n) by
            have h1 := hLk.out
            have h2 : (q.drop n).take k = q.drop n := List.take_of_length_le (by rw [List.length_drop]; omega)
            rw [h2] at h1
            exact h1)
          go_wp2_with fail
          refine bodyPost_end (results_none rfl _ _ _) rfl ?_
          exact ⟨rfl, fin.out, hU.out⟩
set_option maxHeartbeats 8000000 in
set_option maxRecDepth 100000 in
theorem take_full {S : Nat → Prop} (w0 : World) (xs : List Nat) (p : Nat) (l q : List Fin) (v : Value) (a : Nat) (E : Int) (w : World) (h : Ll w0 w xs p l) (hq : RSl Rep.fin w S v q) (hf : fitB l a E = true) (hn : sameN l a q = q.length)
    (hl : l.length ≤ 1000) (hql : q.length ≤ 1000) :
    Calls Try.prog 39 #[.pointer (some ⟨p, 0, none⟩), .int .i64 a, .int .u64 E, v] w fun e w' => e = .returned (.tuple #[]) ∧ Upd NoB w w' := by
  have hfi := Lib.hid (fits_any w0 xs p l a E w h (by omega))
  have hsa := Lib.hid (fun x (hx : Upd NoB w x) => same_any w0 xs p l q v a x (h.keep hx (fun h => h) (fun _ h => h.elim)) (hq.upd hx (fun _ _ h => h)) (by omega) (by omega))
  rw [hf] at hfi
  rw [hn] at hsa
  obtain ⟨A, c, cs, rfl, d1, d2, d3, d4, d5⟩ := hq
  clear h hf hn d3
  cases A with
  | none =>
    obtain rfl : c = 0 := d4 rfl
    obtain rfl : q = [] := List.eq_nil_of_length_eq_zero (by omega)
    clear d4 d5
    simp only [List.length_nil] at *
    skip
    go_enter Try.func39, Try.ntmps39
    go_wp2_with fail
    refine hfi.out.mono ?_
    rintro e w1 ⟨rfl, hu⟩
    have HU1 := Lib.hid hu
    clear hu
    go_wp2_with fail
    refine (hsa.out _ HU1.out).mono ?_
    rintro e w2 ⟨rfl, hu⟩
    have HU2 := Lib.hid (HU1.out.trans hu)
    clear hu
    go_wp2_with fail
    go_loopw [41] (fun x41 wr => x41 = .int .i64 0 ∧ Hid (Upd NoB w wr)) (fun _ _ => 0)
    case atStart => exact ⟨rfl, HU2⟩
    case round =>
      obtain ⟨rfl, hU⟩ := hrel
      go_wp2_with fail
      refine bodyPost_end (results_none rfl _ _ _) rfl ?_
      exact ⟨rfl, hU.out⟩
  | some A0 =>
    obtain ⟨f1, f2, f3⟩ := d5 _ rfl
    obtain ⟨g, o, sp⟩ := A0
    simp only at f1
    subst f1
    clear d4 d5 f2 f3
    by_cases hc : c = q.length
    · subst hc
      skip
      go_enter Try.func39, Try.ntmps39
      go_wp2_with fail
      refine hfi.out.mono ?_
      rintro e w1 ⟨rfl, hu⟩
      have HU1 := Lib.hid hu
      clear hu
      go_wp2_with fail
      refine (hsa.out _ HU1.out).mono ?_
      rintro e w2 ⟨rfl, hu⟩
      have HU2 := Lib.hid (HU1.out.trans hu)
      clear hu
      go_wp2_with fail
      go_loopw [41] (fun x41 wr => x41 = .int .i64 0 ∧ Hid (Upd NoB w wr)) (fun _ _ => 0)
      case atStart => exact ⟨rfl, HU2⟩
      case round =>
        obtain ⟨rfl, hU⟩ := hrel
        go_wp2_with fail
        refine bodyPost_end (results_none rfl _ _ _) rfl ?_
        exact ⟨rfl, hU.out⟩
    · have hle : q.length ≤ c := d1
      skip
      go_enter Try.func39, Try.ntmps39
      go_wp2_with fail
      refine hfi.out.mono ?_
      rintro e w1 ⟨rfl, hu⟩
      have HU1 := Lib.hid hu
      clear hu
      go_wp2_with fail
      refine (hsa.out _ HU1.out).mono ?_
      rintro e w2 ⟨rfl, hu⟩
      have HU2 := Lib.hid (HU1.out.trans hu)
      clear hu
      go_wp2_with fail
      go_loopw [41] (fun x41 wr => x41 = .int .i64 0 ∧ Hid (Upd NoB w wr)) (fun _ _ => 0)
      case atStart => exact ⟨rfl, HU2⟩
      case round =>
        obtain ⟨rfl, hU⟩ := hrel
        go_wp2_with fail
        refine bodyPost_end (results_none rfl _ _ _) rfl ?_
        exact ⟨rfl, hU.out⟩
end Go.Proofs.Ytobfolkcpfaplaa
