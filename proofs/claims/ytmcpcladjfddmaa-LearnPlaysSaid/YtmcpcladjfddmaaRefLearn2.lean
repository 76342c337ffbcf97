/- The document's learner, function by function (2): how far it goes, what it hands out. -/
import Derived.Test.YtmcpcladjfddmaaRefLearn
namespace Go.Proofs.Ytmcpcladjfddmaa
open Go.RowKit Kit
set_option linter.unusedVariables false

theorem adv_from {f : Nat → Option ByteArray} (k : Nat) (hk : k ≤ 400) (h : ∀ j, j < k → (f j).isSome = true) : adv f 0 = adv f k := by
  induction k with
  | zero => rfl
  | succ k ih => rw [ih (by omega) (fun j hj => h j (by omega)), adv_step (by omega) (h k (by omega))]
set_option maxHeartbeats 2000000 in
set_option maxRecDepth 100000 in
theorem refprefix_any (w0 : World) (xs : List Nat) (q : Nat) (l : List Rw) (w : World) (h : RLn w0 w xs q l) (hl : l.length ≤ 1000) :
    Calls Try.prog 18 #[.pointer (some ⟨q, 0, none⟩)] w fun e w' => e = .returned (.int .i64 (adv (fun k => rfind l (k : Int)) 0)) ∧ Upd NoB w w' := by
  have hV := Lib.hid (fun (k : Nat) w1 (hu : Upd NoB w w1) => refval_any w0 xs q l k w1 (h.keep hu (fun h => h) (fun b hb => hb.elim)) hl)
  have hend := Lib.hid (fun k hk h => adv_from (f := fun k => rfind l (k : Int)) k hk h)
  have hstop := Lib.hid (fun k h => adv_stop (f := fun k => rfind l (k : Int)) (k := k) h)
  go_enter Try.func18, Try.ntmps18
  go_wp2_with fail
  go_loopw [3, 4, 5] (fun i x4 x5 wr => ∃ k : Nat, k ≤ 400 ∧ i = .int .i64 k ∧ Hid (∀ j, j < k → (rfind l (j : Int)).isSome = true) ∧ Hid (Upd NoB w wr)) (fun i _ _ _ => 400 - (intOf i).toNat)
  case atStart => exact ⟨0, by omega, rfl, Lib.hid (fun j hj => by omega), Lib.hid (Upd.refl _ _)⟩
  case round =>
    obtain ⟨k, hk, rfl, hA, hU⟩ := hrel
    by_cases hlt : k < 400
    · have hlI : (k : Int) < 400 := by omega
      have hdl : decide ((k : Int) < 400) = true := decide_eq_true hlI
      have hv := hV.out k wr hU.out
      cases hf : rfind l (k : Int) with
      | some u =>
        rw [hf] at hv
        have HV := Lib.hid (show Calls Try.prog 22 #[.pointer (some ⟨q, 0, none⟩), .int .i64 k] wr fun e w' => e = .returned (.tuple #[.string u, .bool true]) ∧ Upd NoB wr w' from hv)
        have hA2 : Hid (∀ j, j < k + 1 → (rfind l (j : Int)).isSome = true) := Lib.hid (fun j hj => by
          by_cases e : j = k
          · rw [e, hf]; rfl
          · exact hA.out j (by omega))
        clear hv hf
        go_wp2_with fail
        refine HV.out.mono ?_
        rintro e w2 ⟨rfl, hu⟩
        have hU2 := Lib.hid (hU.out.trans hu)
        clear hu
        go_wp2_with fail
        go_roundw
        case measure => simp [intOf]; omega
        case rel => exact ⟨k + 1, by omega, by go_num, hA2, hU2⟩
      | none =>
        rw [hf] at hv
        have HV := Lib.hid (show Calls Try.prog 22 #[.pointer (some ⟨q, 0, none⟩), .int .i64 k] wr fun e w' => e = .returned (.tuple #[.string ⟨#[]⟩, .bool false]) ∧ Upd NoB wr w' from hv)
        have hfin := Lib.hid ((hend.out k hk hA.out).trans (hstop.out k (fun h => by have := h.2; simp only [hf] at this; cases this)))
        clear hv hf
        go_wp2_with fail
        refine HV.out.mono ?_
        rintro e w2 ⟨rfl, hu⟩
        have hU2 := Lib.hid (hU.out.trans hu)
        clear hu
        go_wp2_with fail
        go_ret
        exact ⟨by rw [hfin.out]; rfl, hU2.out⟩
    · obtain rfl : k = 400 := by omega
      have hfin := Lib.hid ((hend.out 400 hk hA.out).trans (hstop.out 400 (by omega)))
      go_wp2_with fail
      go_ret
      exact ⟨by rw [hfin.out]; rfl, hU.out⟩

theorem rtop_take (l : List Rw) (k : Nat) (h : k < l.length) : rtop (l.take (k + 1)) = if rtop (l.take k) ≤ l[k].1 then l[k].1 + 1 else rtop (l.take k) := by
  rw [List.take_succ_eq_append_getElem h, rtop_app]
theorem rtop_range (l : List Rw) (h : ∀ x ∈ l, 0 ≤ x.1 ∧ x.1 < 400) : ∀ k, k ≤ l.length → 0 ≤ rtop (l.take k) ∧ rtop (l.take k) ≤ 400 := by
  intro k
  induction k with
  | zero => intro _; simp [rtop]
  | succ k ih =>
    intro hk
    have := ih (by omega)
    have hx := h l[k] (List.getElem_mem (by omega))
    rw [rtop_take l k (by omega)]
    split <;> omega
set_option maxHeartbeats 2000000 in
set_option maxRecDepth 100000 in
theorem reftop_any (w0 : World) (xs : List Nat) (q : Nat) (l : List Rw) (w : World) (h : RLn w0 w xs q l) (hl : l.length ≤ 1000) (hr : ∀ x ∈ l, 0 ≤ x.1 ∧ x.1 < 400) :
    Calls Try.prog 20 #[.pointer (some ⟨q, 0, none⟩)] w fun e w' => e = .returned (.int .i64 (rtop l)) ∧ Upd NoB w w' := by
  obtain ⟨v, h1, h2⟩ := h
  have c0 : w.cell? ⟨q, 0, none⟩ = some v := by simp [World.cell?, h1]
  have HX := Lib.hid h2.read
  obtain ⟨A, c, cs, rfl, d1, d2, _⟩ := h2.read
  have d2' : c ≤ 9223372036854775807 := d2
  have hst := Lib.hid (fun k h => rtop_take l k h)
  have hrg := Lib.hid (fun k h => rtop_range l hr k h)
  have hxr := Lib.hid (fun k (h : k < l.length) => hr l[k] (List.getElem_mem h))
  have hfull := Lib.hid (show rtop (l.take l.length) = rtop l by rw [List.take_length])
  clear h1 h2 hr
  go_enter Try.func20, Try.ntmps20
  go_wp2_with fail
  go_loopw [3, 5, 11] (fun x3 x5 i wr => ∃ k : Nat, k ≤ l.length ∧ i = .int .i64 k ∧ ∃ N : Int, x3 = .int .i64 N ∧ Hid (N = rtop (l.take k)) ∧ Hid (Upd NoB w wr)) (fun _ _ i _ => l.length - (intOf i).toNat)
  case atStart => exact ⟨0, by omega, rfl, 0, rfl, Lib.hid rfl, Lib.hid (Upd.refl _ _)⟩
  case round =>
    obtain ⟨k, hk, rfl, N, rfl, hN, hU⟩ := hrel
    by_cases hlt : k < l.length
    · obtain ⟨g, o, rcs, rfl, hrep, hcs, hg⟩ := HX.out.cellN k hlt
      obtain ⟨hr1, hr2, hr3⟩ := hrep
      subst hr1
      have c0 : wr.cell? ⟨g, o + k * 2, none⟩ = some (.int .i64 l[k].1) := hU.out.cell (hcs 0 _ rfl) (fun h => h)
      have c1 : wr.cell? ⟨g, o + k * 2 + 1, none⟩ = some (.string l[k].2) := hU.out.cell (hcs 1 _ rfl) (fun h => h)
      have hUa := Lib.hid (hU.out.alloc (.cells #[.int .i64 l[k].1, .string l[k].2] 39))
      have hq := Lib.hid (hst.out k hlt)
      have hxk := hxr.out k hlt
      have hn := hrg.out k hk
      rw [← hN.out] at hn
      generalize l[k] = x at *
      obtain ⟨xs', xv⟩ := x
      simp only at c0 c1 hUa hq hxk
      clear hcs hr3
      by_cases hs : N ≤ xs'
      · have hN2 : Hid (xs' + 1 = rtop (l.take (k + 1))) := Lib.hid (by rw [hq.out, ← hN.out, if_pos hs])
        go_wp2_with fail
        go_roundw
        case measure => simp [intOf]; omega
        case rel => exact ⟨k + 1, by omega, by go_num, xs' + 1, rfl, hN2, hUa⟩
      · have hN2 : Hid (N = rtop (l.take (k + 1))) := Lib.hid (by rw [hq.out, ← hN.out, if_neg hs])
        go_wp2_with fail
        go_roundw
        case measure => simp [intOf]; omega
        case rel => exact ⟨k + 1, by omega, by go_num, N, rfl, hN2, hUa⟩
    · obtain rfl : k = l.length := by omega
      go_wp2_with fail
      go_ret
      exact ⟨by rw [← hfull.out, ← hN.out]; rfl, hU.out⟩

/-- What is handed out, up to a slot. -/
def rfrm (l : List Rw) (s most : Int) : Nat → List ByteArray
  | 0 => []
  | k + 1 => if 0 ≤ s ∧ s ≤ k ∧ ((rfrm l s most k).length : Int) < most then rfrm l s most k ++ [(rfind l (k : Int)).getD ⟨#[]⟩] else rfrm l s most k
theorem rfrm_len (l : List Rw) (s most : Int) : ∀ k, (rfrm l s most k).length ≤ k
  | 0 => Nat.le_refl _
  | k + 1 => by
    have := rfrm_len l s most k
    unfold rfrm
    split
    · simp; omega
    · omega
theorem rfrm_eq (l : List Rw) (g : Nat → ByteArray) (s most : Int) : ∀ k : Nat, (∀ j : Nat, j < k → (rfind l (j : Int)).getD ⟨#[]⟩ = g j) → rfrm l s most k = if s < 0 then [] else (((List.range k).drop s.toNat).map g).take most.toNat := by
  intro k
  induction k with
  | zero => intro _; split <;> simp [rfrm]
  | succ k ih =>
    intro hg
    have ih := ih (fun j hj => hg j (by omega))
    unfold rfrm
    rw [ih]
    by_cases h0 : s < 0
    · rw [if_pos h0, if_neg (by omega), if_pos h0]
    · rw [if_neg h0, if_neg h0, List.range_succ]
      by_cases hs : s ≤ k
      · have hlen : (((List.range k).drop s.toNat).map g).length = k - s.toNat := by simp
        rw [List.drop_append_of_le_length (by simp; omega), List.map_append, List.map_singleton]
        by_cases hm : ((k - s.toNat : Nat) : Int) < most
        · rw [List.take_of_length_le (l := ((List.range k).drop s.toNat).map g) (by rw [hlen]; omega), if_pos ⟨by omega, hs, by rw [hlen]; exact hm⟩, List.take_of_length_le (by rw [List.length_append, hlen]; simp; omega), hg k (by omega)]
        · rw [if_neg (by rw [List.length_take, hlen]; omega), List.take_append_of_le_length (by rw [hlen]; omega)]
      · rw [if_neg (by omega), List.drop_eq_nil_of_le (by simp; omega), List.drop_eq_nil_of_le (by simp; omega)]

set_option maxHeartbeats 2000000 in
set_option maxRecDepth 100000 in
theorem reffrom_any (w0 : World) (xs : List Nat) (q : Nat) (l : List Rw) (s most : Int) (P : Nat) (w : World) (h : RLn w0 w xs q l) (hl : l.length ≤ 1000) (hP : adv (fun k => rfind l (k : Int)) 0 = P) (hP4 : P ≤ 400) (hsz : ∀ k : Nat, ((rfind l (k : Int)).getD ⟨#[]⟩).size ≤ 64) :
    Calls Try.prog 23 #[.pointer (some ⟨q, 0, none⟩), .int .i64 s, .int .i64 most] w fun e w' => ∃ v', e = .returned v' ∧ Mine Rep.str 9 w w' v' (rfrm l s most P) := by
  have hV := Lib.hid (fun (k : Nat) w1 (hu : Upd NoB w w1) => refval_any w0 xs q l k w1 (h.keep hu (fun h => h) (fun b hb => hb.elim)) hl)
  have hpp := fun w1 (hu : Upd NoB w w1) => refprefix_any w0 xs q l w1 (h.keep hu (fun h => h) (fun b hb => hb.elim)) hl
  rw [hP] at hpp
  have hPf := Lib.hid hpp
  have hlen := Lib.hid (rfrm_len l s most)
  have hstep := Lib.hid (fun k => show rfrm l s most (k + 1) = if 0 ≤ s ∧ s ≤ k ∧ ((rfrm l s most k).length : Int) < most then rfrm l s most k ++ [(rfind l (k : Int)).getD ⟨#[]⟩] else rfrm l s most k from rfl)
  have h00 := Lib.hid (show rfrm l s most 0 = [] from rfl)
  have hsz := Lib.hid hsz
  clear hpp hP h
  generalize hFF : rfrm l s most = F at *
  have HFF := Lib.hid hFF
  clear hFF
  go_enter Try.func23, Try.ntmps23
  go_wp2_with fail
  go_loopw [7, 8, 9, 10] (fun v7 i x9 x10 wr => ∃ k : Nat, k ≤ P ∧ i = .int .i64 k ∧ Hid (Mine Rep.str 9 w wr v7 (F k))) (fun _ i _ _ _ => P - (intOf i).toNat)
  case atStart => exact ⟨0, by omega, rfl, Lib.hid (by rw [h00.out]; exact Mine.nil w (Upd.refl _ _))⟩
  case round =>
    obtain ⟨k, hk, rfl, hM⟩ := hrel
    obtain ⟨A7, c7, _, e7, _⟩ := hM.out.1.read
    have hlk := hlen.out k
    obtain ⟨n, hn⟩ : ∃ n, n = (F k).length := ⟨_, rfl⟩
    rw [← hn] at e7 hlk
    subst e7
    by_cases hlt : k < P
    · have hlI : (k : Int) < (P : Int) := by omega
      have hdl : decide ((k : Int) < (P : Int)) = true := decide_eq_true hlI
      have hst := hstep.out k
      rw [← hn] at hst
      have HST := Lib.hid hst
      have HN := Lib.hid hn
      have hszk := hsz.out k
      have hvk := Lib.hid (hV.out k)
      generalize (rfind l (k : Int)).getD ⟨#[]⟩ = y at *
      generalize (rfind l (k : Int)).isSome = B at *
      clear hst hn
      go_wp2_with fail
      refine (hPf.out _ hM.out.2).mono ?_
      rintro e w2 ⟨rfl, hu⟩
      have hM2 := Lib.hid (hM.out.upd hu)
      clear hu
      go_wp2_with fail
      refine (hvk.out _ hM2.out.2).mono ?_
      rintro e w3 ⟨rfl, hu⟩
      have hM3 := Lib.hid (hM2.out.upd hu)
      clear hu
      by_cases c1 : 0 ≤ s
      · by_cases c2 : s ≤ (k : Int)
        · by_cases c3 : (n : Int) < most
          · have hnext := Lib.hid (show F (k + 1) = F k ++ [y] by rw [HST.out, if_pos ⟨c1, c2, c3⟩])
            have hy := Lib.hid (show Rep.str.rep w3 NoB y #[.string y].toList from ⟨rfl, by show y.size ≤ 9223372036854775807; omega⟩)
            have HO := Lib.hid hM3.out.1
            have HB := Lib.hid hM3.out.bd
            have hall : ((F k).length + 1) * 16 ≤ 140737488355328 := by rw [← HN.out]; omega
            go_wp2_with (at_builtin; go_must (refine app_one (r := Rep.str) (y := y) rfl _ _ 22 9 (.string ⟨#[]⟩) 16 rfl Try.underlying22 i9 rfl (by decide) rfl rfl HO.out HB.out hy.out (fun b hb => hb.elim) hall ?_))
            intro v1 w4 ho2 hu2
            have fin := Lib.hid (hM3.out.app ho2 hu2)
            clear ho2 hu2
            go_wp2_with fail
            go_roundw
            case measure => simp [intOf]; omega
            case rel => exact ⟨k + 1, by omega, by go_num, Lib.hid (by rw [hnext.out]; exact fin.out)⟩
          · have hnext := Lib.hid (show F (k + 1) = F k by rw [HST.out, if_neg (fun h => c3 h.2.2)])
            have d3 : decide ((n : Int) < most) = false := decide_eq_false c3
            go_wp2_with fail
            go_roundw
            case measure => simp [intOf]; omega
            case rel => exact ⟨k + 1, by omega, by go_num, Lib.hid (by rw [hnext.out]; exact hM3.out)⟩
        · have hnext := Lib.hid (show F (k + 1) = F k by rw [HST.out, if_neg (fun h => c2 h.2.1)])
          have d2 : decide (s ≤ (k : Int)) = false := decide_eq_false c2
          go_wp2_with fail
          go_roundw
          case measure => simp [intOf]; omega
          case rel => exact ⟨k + 1, by omega, by go_num, Lib.hid (by rw [hnext.out]; exact hM3.out)⟩
      · have hnext := Lib.hid (show F (k + 1) = F k by rw [HST.out, if_neg (fun h => c1 h.1)])
        have d1 : decide (0 ≤ s) = false := decide_eq_false c1
        go_wp2_with fail
        go_roundw
        case measure => simp [intOf]; omega
        case rel => exact ⟨k + 1, by omega, by go_num, Lib.hid (by rw [hnext.out]; exact hM3.out)⟩
    · obtain rfl : k = P := by omega
      go_wp2_with fail
      refine (hPf.out _ hM.out.2).mono ?_
      rintro e w2 ⟨rfl, hu⟩
      have hM2 := Lib.hid (hM.out.upd hu)
      clear hu
      go_wp2_with fail
      go_ret
      exact ⟨_, rfl, by first | exact hM2.out | (rw [hn] at hM2; exact hM2.out)⟩
end Go.Proofs.Ytmcpcladjfddmaa
