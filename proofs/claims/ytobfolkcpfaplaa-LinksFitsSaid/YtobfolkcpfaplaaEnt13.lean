/- A log of entries, any, function by function (2): pieces of it, one of it. -/
import Derived.Test.YtobfolkcpfaplaaEnt12
namespace Go.Proofs.Ytobfolkcpfaplaa
open Go.RowKit Kit
set_option linter.unusedVariables false
/-- A piece behind a number. -/
def fromE (l : List Ent) (prev most : Int) : List Ent := if prev < 0 ∨ (l.length : Int) ≤ prev ∨ most < 1 then [] else (l.drop prev.toNat).take most.toNat
set_option maxHeartbeats 4000000 in
set_option maxRecDepth 100000 in
theorem efrom_any {S : Nat → Prop} (p : Nat) (l : List Ent) (prev most : Int) (w : World) (h : Rl S w p l) (hl : l.length ≤ 100000) (hs : ∀ x ∈ l, x.small) :
    Calls Try.prog 41 #[.pointer (some ⟨p, 0, none⟩), .int .i64 prev, .int .i64 most] w fun e w' => ∃ v', e = .returned v' ∧ Mine Rep.ent 65 w w' v' (fromE l prev most) := by
  have hln := Lib.hid (elen_any p l w h)
  have HS := Lib.hid hs
  have HK := Lib.hid (fun x (hx : Upd NoB w x) => h.keep hx)
  clear h
  unfold fromE
  by_cases h1 : prev < 0
  · rw [if_pos (.inl h1)]
    have e1 : decide (prev < 0) = true := decide_eq_true h1
    have fin := Lib.hid (show Mine Rep.ent 65 w w (.slice none 0 0) [] from Mine.nil _ (Upd.refl _ _))
    clear h1
    skip
    go_enter Try.func41, Try.ntmps41
    go_wp2_with fail
    go_ret
    exact ⟨_, rfl, fin.out⟩
  · have e1 : decide (prev < 0) = false := decide_eq_false h1
    obtain ⟨a, rfl⟩ : ∃ a : Nat, prev = a := Int.eq_ofNat_of_zero_le (by omega)
    by_cases h2 : l.length ≤ a
    · rw [if_pos (.inr (.inl (by omega)))]
      have e2 : decide (l.length ≤ a) = true := decide_eq_true h2
      have fin := Lib.hid (fun x (hx : Upd NoB w x) => show Mine Rep.ent 65 w x (.slice none 0 0) [] from Mine.nil _ hx)
      clear h1 h2
      skip
      go_enter Try.func41, Try.ntmps41
      go_wp2_with fail
      refine hln.out.mono ?_
      rintro e w1 ⟨rfl, hu⟩
      have HU1 := Lib.hid hu
      
      clear hu
      go_wp2_with fail
      go_ret
      exact ⟨_, rfl, fin.out _ HU1.out⟩
    · have e2 : decide (l.length ≤ a) = false := decide_eq_false h2
      by_cases h3 : most < 1
      · rw [if_pos (.inr (.inr h3))]
        have e3 : decide (most < 1) = true := decide_eq_true h3
        have fin := Lib.hid (fun x (hx : Upd NoB w x) => show Mine Rep.ent 65 w x (.slice none 0 0) [] from Mine.nil _ hx)
        clear h1 h2 h3
        skip
        go_enter Try.func41, Try.ntmps41
        go_wp2_with fail
        refine hln.out.mono ?_
        rintro e w1 ⟨rfl, hu⟩
        have HU1 := Lib.hid hu
        
        clear hu
        go_wp2_with fail
        go_ret
        exact ⟨_, rfl, fin.out _ HU1.out⟩
      · rw [if_neg (by omega)]
        have e3 : decide (most < 1) = false := decide_eq_false h3
        obtain ⟨m, rfl⟩ : ∃ m : Nat, most = m := Int.eq_ofNat_of_zero_le (by omega)
        have q1 : (a : Int).toNat = a := by omega
        have q2 : (m : Int).toNat = m := by omega
        rw [q1, q2]
        clear q1 q2
        have hm1 := Lib.hid (show 1 ≤ m by omega)
        have hal := Lib.hid (show a < l.length by omega)
        have hal2 : ¬ l.length ≤ a := h2
        have hal3 : a ≤ l.length := by omega
        clear h1 h2 h3
        by_cases hmn : m ≤ l.length - a
        · have hN := Lib.hid (show m ≤ l.length - a ∧ ∀ X : List Ent, X = (l.drop a).take m → X = (l.drop a).take m from ⟨by omega, fun _ h => h⟩)
          have m1 : ¬ l.length - a < m := by omega
          have m2 : decide (l.length - a < m) = false := decide_eq_false m1
          have m3 : ¬ l.length < a + m := by omega
          have m4 : ¬ l.length < m + a := by omega
          skip
          go_enter Try.func41, Try.ntmps41
          go_wp2_with fail
          refine hln.out.mono ?_
          rintro e w1 ⟨rfl, hu⟩
          have HU1 := Lib.hid hu
          obtain ⟨v, k1, k2⟩ := HK.out w1 hu
          have c0 := one_cell k1
          obtain ⟨A, c, cs, rfl, d1, d2, d3, d4, d5⟩ := id k2
          have HR := Lib.hid k2
          cases A with
          | none => have := d4 rfl; have := hal.out; omega
          | some A0 =>
            obtain ⟨f1, f2, f3⟩ := d5 _ rfl
            obtain ⟨g, o, sp⟩ := A0
            simp only at f1
            subst f1
            have hac : ¬ c = a := by have := hal.out; omega
            have hac2 : a ≤ c := by omega
            clear hu k1 k2 d3 d4 d5 f2 f3
            clear hmn
            go_wp2_with fail
            go_loopw [7, 36] (fun x7 x36 wr => ∃ k : Nat, k ≤ m ∧ x36 = .int .i64 k ∧ Hid (Mine Rep.ent 65 w1 wr x7 ((l.drop a).take k))) (fun _ x36 _ => m - (intOf x36).toNat)
            case atStart => exact ⟨0, by omega, rfl, Lib.hid (Mine.nil _ (Upd.refl _ _))⟩
            case round =>
              obtain ⟨k, hk, rfl, hM⟩ := hrel
              by_cases hlt : k < m
              · have hll := hal.out
                have hin : a + k < l.length := by have := hN.out.1; omega
                have hdl : decide (k < m) = true := decide_eq_true hlt
                obtain ⟨g', o', A1, B1, m1, m2, e', hr1, hr2, c0, c1, c2, c3, c4, c5, c6, c7, c8, c9⟩ := ten_at (v := .bool true) HR.out hM.out.2 (a + k) hin
                cases e'
                rw [show o + (a + k) * 10 = o + a * 10 + k * 10 by rw [Nat.add_mul]; omega] at c0 c1 c2 c3 c4 c5 c6 c7 c8 c9
                have hsm := HS.out _ (List.getElem_mem hin)
                have hln := Lib.hid (show (l.drop a).take (k + 1) = (l.drop a).take k ++ [l[a + k]'hin] by
                  rw [List.take_add_one, List.getElem?_drop, List.getElem?_eq_getElem hin]; rfl)
                have hlen : ((l.drop a).take k).length ≤ 100000 := by rw [List.length_take, List.length_drop]; omega
                generalize l[a + k]'hin = x at *
                clear hin hll
                have hall : (((l.drop a).take k).length + 1) * 112 ≤ 140737488355328 := by omega
                generalize (l.drop a).take k = L at *
                have hco := Lib.hid (fun z (hz : Upd NoB wr z) => ecopied_any x A1 B1 m1 m2 z (hr1.upd hz (fun _ _ h => h)) (hr2.upd hz (fun _ _ h => h)) hsm)
                have HA := Lib.hid (fun w2 (hu : Upd NoB wr w2) => hM.out.upd hu)
                have HUa := Lib.hid (fun o => (Upd.refl NoB wr).alloc o)
                clear hlen hr1 hr2 hsm
                go_wp2_with fail
                refine (hco.out _ (HUa.out _)).mono ?_
                rintro e w2 ⟨cs, rfl, hre, hu⟩
                have hM2 := Lib.hid (HA.out w2 ((HUa.out _).trans hu))
                have HO := Lib.hid hM2.out.1
                have HB := Lib.hid hM2.out.bd
                have HT := Lib.hid (fun b (hb : grow NoB wr w2 b) => show grow NoB w1 w2 b ∧ u7.ownBlock ≠ some b from ⟨⟨.inr (by have := (grow_old hb).1; have h9 := hM.out.2.size; omega), hb.2⟩, fun e => by have := (grow_old hb).1; have := Mine.own_lt hM.out b e; omega⟩)
                have hy := Lib.hid (Rep.ent_mono hre (fun b hb => grow_early (HUa.out _).size b hb))
                obtain ⟨A2, B2, n1, n2, rfl, _⟩ := ent_agg hre
                clear hu hre c0 c1 c2 c3 c4 c5 c6 c7 c8 c9
                go_wp2_with (at_builtin; go_must (refine app_one (r := Rep.ent) (v := u7) (y := x) rfl _ _ 59 65 (.agg #[.int .u64 0, .int .i64 0, .int .i64 0, .int .u64 0, .bool false, .slice none 0 0, .slice none 0 0, .int .i64 0, .int .u64 0, .int .i64 0]) 112 rfl Try.underlying59 (iEnt _ (by decide)) rfl (by decide) rfl rfl HO.out HB.out hy.out HT.out hall ?_))
                intro v1 w3 ho2 hu2
                have fin := Lib.hid (hM2.out.app ho2 hu2)
                clear ho2 hu2
                go_wp2_with fail
                go_roundw
                case measure => simp [intOf]; omega
                case rel => exact ⟨k + 1, by omega, by go_num, Lib.hid (by rw [hln.out]; exact fin.out)⟩
              · obtain rfl : m = k := by omega
                have hdl : decide (m < m) = false := by simp
                have fin := Lib.hid (show Mine Rep.ent 65 w wr u7 ((l.drop a).take m) by
                  rw [← hN.out.2 _ rfl]
                  exact ⟨hM.out.1.mono (fun b hb => ⟨.inr (Nat.le_trans HU1.out.size (hb.1.resolve_left (fun h => h))), hb.2⟩), HU1.out.trans hM.out.2⟩)
                go_wp2_with fail
                go_ret
                exact ⟨_, rfl, fin.out⟩
        · have hN := Lib.hid (show l.length - a ≤ l.length - a ∧ ∀ X : List Ent, X = (l.drop a).take (l.length - a) → X = (l.drop a).take m from ⟨by omega, fun X h => by rw [h, List.take_of_length_le (by rw [List.length_drop]; omega), List.take_of_length_le (by rw [List.length_drop]; omega)]⟩)
          have m1 : l.length - a < m := by omega
          have m2 : decide (l.length - a < m) = true := decide_eq_true m1
          have m3 : l.length < a + m := by omega
          have m4 : l.length < m + a := by omega
          skip
          go_enter Try.func41, Try.ntmps41
          go_wp2_with fail
          refine hln.out.mono ?_
          rintro e w1 ⟨rfl, hu⟩
          have HU1 := Lib.hid hu
          obtain ⟨v, k1, k2⟩ := HK.out w1 hu
          have c0 := one_cell k1
          obtain ⟨A, c, cs, rfl, d1, d2, d3, d4, d5⟩ := id k2
          have HR := Lib.hid k2
          cases A with
          | none => have := d4 rfl; have := hal.out; omega
          | some A0 =>
            obtain ⟨f1, f2, f3⟩ := d5 _ rfl
            obtain ⟨g, o, sp⟩ := A0
            simp only at f1
            subst f1
            have hac : ¬ c = a := by have := hal.out; omega
            have hac2 : a ≤ c := by omega
            clear hu k1 k2 d3 d4 d5 f2 f3
            clear hmn
            go_wp2_with fail
            go_loopw [7, 36] (fun x7 x36 wr => ∃ k : Nat, k ≤ (l.length - a) ∧ x36 = .int .i64 k ∧ Hid (Mine Rep.ent 65 w1 wr x7 ((l.drop a).take k))) (fun _ x36 _ => (l.length - a) - (intOf x36).toNat)
            case atStart => exact ⟨0, by omega, rfl, Lib.hid (Mine.nil _ (Upd.refl _ _))⟩
            case round =>
              obtain ⟨k, hk, rfl, hM⟩ := hrel
              by_cases hlt : k < (l.length - a)
              · have hll := hal.out
                have hin : a + k < l.length := by have := hN.out.1; omega
                have hdl : decide (k < (l.length - a)) = true := decide_eq_true hlt
                obtain ⟨g', o', A1, B1, m1, m2, e', hr1, hr2, c0, c1, c2, c3, c4, c5, c6, c7, c8, c9⟩ := ten_at (v := .bool true) HR.out hM.out.2 (a + k) hin
                cases e'
                rw [show o + (a + k) * 10 = o + a * 10 + k * 10 by rw [Nat.add_mul]; omega] at c0 c1 c2 c3 c4 c5 c6 c7 c8 c9
                have hsm := HS.out _ (List.getElem_mem hin)
                have hln := Lib.hid (show (l.drop a).take (k + 1) = (l.drop a).take k ++ [l[a + k]'hin] by
                  rw [List.take_add_one, List.getElem?_drop, List.getElem?_eq_getElem hin]; rfl)
                have hlen : ((l.drop a).take k).length ≤ 100000 := by rw [List.length_take, List.length_drop]; omega
                generalize l[a + k]'hin = x at *
                clear hin hll
                have hall : (((l.drop a).take k).length + 1) * 112 ≤ 140737488355328 := by omega
                generalize (l.drop a).take k = L at *
                have hco := Lib.hid (fun z (hz : Upd NoB wr z) => ecopied_any x A1 B1 m1 m2 z (hr1.upd hz (fun _ _ h => h)) (hr2.upd hz (fun _ _ h => h)) hsm)
                have HA := Lib.hid (fun w2 (hu : Upd NoB wr w2) => hM.out.upd hu)
                have HUa := Lib.hid (fun o => (Upd.refl NoB wr).alloc o)
                clear hlen hr1 hr2 hsm
                go_wp2_with fail
                refine (hco.out _ (HUa.out _)).mono ?_
                rintro e w2 ⟨cs, rfl, hre, hu⟩
                have hM2 := Lib.hid (HA.out w2 ((HUa.out _).trans hu))
                have HO := Lib.hid hM2.out.1
                have HB := Lib.hid hM2.out.bd
                have HT := Lib.hid (fun b (hb : grow NoB wr w2 b) => show grow NoB w1 w2 b ∧ u7.ownBlock ≠ some b from ⟨⟨.inr (by have := (grow_old hb).1; have h9 := hM.out.2.size; omega), hb.2⟩, fun e => by have := (grow_old hb).1; have := Mine.own_lt hM.out b e; omega⟩)
                have hy := Lib.hid (Rep.ent_mono hre (fun b hb => grow_early (HUa.out _).size b hb))
                obtain ⟨A2, B2, n1, n2, rfl, _⟩ := ent_agg hre
                clear hu hre c0 c1 c2 c3 c4 c5 c6 c7 c8 c9
                go_wp2_with (at_builtin; go_must (refine app_one (r := Rep.ent) (v := u7) (y := x) rfl _ _ 59 65 (.agg #[.int .u64 0, .int .i64 0, .int .i64 0, .int .u64 0, .bool false, .slice none 0 0, .slice none 0 0, .int .i64 0, .int .u64 0, .int .i64 0]) 112 rfl Try.underlying59 (iEnt _ (by decide)) rfl (by decide) rfl rfl HO.out HB.out hy.out HT.out hall ?_))
                intro v1 w3 ho2 hu2
                have fin := Lib.hid (hM2.out.app ho2 hu2)
                clear ho2 hu2
                go_wp2_with fail
                go_roundw
                case measure => simp [intOf]; omega
                case rel => exact ⟨k + 1, by omega, by go_num, Lib.hid (by rw [hln.out]; exact fin.out)⟩
              · obtain rfl : (l.length - a) = k := by omega
                have hdl : decide ((l.length - a) < (l.length - a)) = false := by simp
                have fin := Lib.hid (show Mine Rep.ent 65 w wr u7 ((l.drop a).take m) by
                  rw [← hN.out.2 _ rfl]
                  exact ⟨hM.out.1.mono (fun b hb => ⟨.inr (Nat.le_trans HU1.out.size (hb.1.resolve_left (fun h => h))), hb.2⟩), HU1.out.trans hM.out.2⟩)
                go_wp2_with fail
                go_ret
                exact ⟨_, rfl, fin.out⟩
theorem fromE_all (l : List Ent) : fromE l 0 l.length = l := by
  unfold fromE
  by_cases h : l.length = 0
  · rw [if_pos (.inr (.inl (by omega))), List.eq_nil_of_length_eq_zero h]
  · rw [if_neg (by omega)]
    simp
set_option maxHeartbeats 1000000 in
theorem eall_any {S : Nat → Prop} (p : Nat) (l : List Ent) (w : World) (h : Rl S w p l) (hl : l.length ≤ 100000) (hs : ∀ x ∈ l, x.small) :
    Calls Try.prog 45 #[.pointer (some ⟨p, 0, none⟩)] w fun e w' => ∃ v', e = .returned v' ∧ Mine Rep.ent 65 w w' v' l := by
  have hln := Lib.hid (elen_any p l w h)
  have hfr := Lib.hid (fun x (hx : Upd NoB w x) => efrom_any p l 0 l.length x (h.keep hx) hl hs)
  rw [fromE_all] at hfr
  clear h
  go_enter Try.func45, Try.ntmps45
  go_wp2_with fail
  refine hln.out.mono ?_
  rintro e w1 ⟨rfl, hu⟩
  have HU1 := Lib.hid hu
  clear hu
  go_wp2_with fail
  refine (hfr.out _ HU1.out).mono ?_
  rintro e w2 ⟨v', rfl, hM⟩
  have fin := Lib.hid (show Mine Rep.ent 65 w w2 v' l from ⟨hM.1.mono (fun b hb => ⟨.inr (Nat.le_trans HU1.out.size (hb.1.resolve_left (fun h => h))), hb.2⟩), HU1.out.trans hM.2⟩)
  clear hM
  go_wp2_with fail
  go_ret
  exact ⟨_, rfl, fin.out⟩
def zeroV : Value := .agg #[.int .u64 0, .int .i64 0, .int .i64 0, .int .u64 0, .bool false, .slice none 0 0, .slice none 0 0, .int .i64 0, .int .u64 0, .int .i64 0]
end Go.Proofs.Ytobfolkcpfaplaa
