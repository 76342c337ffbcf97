/- A learner, function by function (4): what it hands out; two rows of texts; one that is not there; chapter 19's example. -/
import Derived.Test.YtmcpcladjfddmaaLearn3
namespace Go.Proofs.Ytmcpcladjfddmaa
open Go.RowKit Kit
set_option linter.unusedVariables false

theorem i9 : (Try.prog.info? 9).map (fun i => (i.zero, i.size, i.bytes)) = some (some (.string ⟨#[]⟩), 1, 16) := by kernel_rfl
def Ln.val0 (m : Ln) (k : Nat) : ByteArray := (m.f k).getD ⟨#[]⟩
/-- The values from a slot on, as far as it goes. -/
def Ln.rest (m : Ln) (s : Nat) : List ByteArray := ((List.range m.pre).drop s).map m.val0
def Ln.frm (m : Ln) (s most : Int) : List ByteArray := if s < 0 then [] else (m.rest s.toNat).take most.toNat
theorem Ln.rest_len (m : Ln) (s : Nat) : (m.rest s).length = m.pre - s := by simp [Ln.rest]
theorem Ln.rest_at (m : Ln) (s j : Nat) (h : s + j < m.pre) : (m.rest s)[j]? = some (m.val0 (s + j)) := by
  simp [Ln.rest, List.getElem?_drop, List.getElem?_range h]
theorem Ln.val0_size {m : Ln} (h : m.ok) (k : Nat) : (m.val0 k).size ≤ 64 := by
  unfold Ln.val0
  cases e : m.f k with
  | none => show (0 : Nat) ≤ 64; omega
  | some u => exact h.2.2.1 k u e

set_option maxHeartbeats 2000000 in
set_option maxRecDepth 100000 in
theorem from_any (p : Nat) (m : Ln) (s most : Int) (w : World) (h : Lrn w p m) (hok : m.ok) :
    Calls Try.prog 15 #[.pointer (some ⟨p, 0, none⟩), .int .i64 s, .int .i64 most] w fun e w' => ∃ v', e = .returned v' ∧ Mine Rep.str 9 w w' v' (m.frm s most) := by
  by_cases h0 : s < 0
  · have e : m.frm s most = [] := by unfold Ln.frm; rw [if_pos h0]
    rw [e]
    clear e
    go_enter Try.func15, Try.ntmps15
    go_wp2_with fail
    go_ret
    exact ⟨_, rfl, Mine.nil _ (Upd.refl _ _)⟩
  · obtain ⟨S, rfl⟩ : ∃ S : Nat, s = S := Int.eq_ofNat_of_zero_le (by omega)
    have e : m.frm S most = (m.rest S).take most.toNat := by unfold Ln.frm; rw [if_neg h0]; rfl
    rw [e]
    have hlen := m.rest_len S
    have hat := Lib.hid (fun j => m.rest_at S j)
    have hp1 := hok.1
    have hv0 := Lib.hid (fun k => Ln.val0_size hok k)
    have H := Lib.hid h
    have hpr := Lib.hid (fun w1 (hu : Upd NoB w w1) => prefix_any p m w1 (h.keep hu (fun h => h)))
    clear e h0 hok h
    generalize hL : m.rest S = L at *
    clear hL
    have h0 : (0 : Int) ≤ (S : Int) := by omega
    go_enter Try.func15, Try.ntmps15
    go_wp2_with fail
    go_loopw [7, 8] (fun v7 x8 wr => ∃ K : Nat, S ≤ K ∧ x8 = .int .i64 K ∧ (K = S ∨ K ≤ m.pre) ∧ (K = S ∨ (K : Int) - S ≤ most) ∧ Hid (Mine Rep.str 9 w wr v7 (L.take (K - S)))) (fun _ x8 _ => 400 - (intOf x8).toNat)
    case atStart => exact ⟨S, Nat.le_refl _, rfl, .inl rfl, .inl rfl, Lib.hid (by rw [Nat.sub_self]; exact Mine.nil w (Upd.refl _ _))⟩
    case round =>
      obtain ⟨K, hK, rfl, hK1, hK2, hM⟩ := hrel
      have hll : (L.take (K - S)).length = K - S := by rw [List.length_take]; omega
      obtain ⟨A7, c7, _, e7, _⟩ := hM.out.1.read
      rw [hll] at e7
      subst e7
      have hKS : ((K - S : Nat) : Int) = (K : Int) - S := by omega
      have hc := Lib.hid (H.out.keep hM.out.2 (fun h => h)).cells
      by_cases hlt : K < m.pre
      · by_cases hmo : ((K - S : Nat) : Int) < most
        · have hq := Lib.hid (hat.out (K - S) (by omega))
          rw [show S + (K - S) = K by omega] at hq
          have hcell : wr.cell? ⟨p, K * 2, none⟩ = some (.string (m.val0 K)) := (hc.out.1 K (by omega)).1
          have hsz := hv0.out K
          generalize m.val0 K = g at *
          have hy := Lib.hid (show Rep.str.rep wr NoB g #[.string g].toList from ⟨rfl, by show g.size ≤ 9223372036854775807; omega⟩)
          have HO := Lib.hid hM.out.1
          have HB := Lib.hid hM.out.bd
          have hall : ((L.take (K - S)).length + 1) * 16 ≤ 140737488355328 := by omega
          have hln := Lib.hid (show L.take (K + 1 - S) = L.take (K - S) ++ [g] by
            rw [show K + 1 - S = (K - S) + 1 by omega, List.take_add_one, hq.out]; rfl)
          clear hKS hll
          have hK4 : (K : Int) < 400 := by omega
          have hltI : (K : Int) < (m.pre : Int) := by omega
          have hdl : decide ((K : Int) < (m.pre : Int)) = true := decide_eq_true hltI
          clear hK1 hK2 hlen
          go_wp2_with fail
          refine (hpr.out _ hM.out.2).mono ?_
          rintro e w2 ⟨rfl, rfl⟩
          go_wp2_with (at_builtin; go_must (refine app_one (r := Rep.str) (y := g) rfl _ _ 22 9 (.string ⟨#[]⟩) 16 rfl Try.underlying22 i9 rfl (by decide) rfl rfl HO.out HB.out hy.out (fun b hb => hb.elim) hall ?_))
          intro v1 w3 ho2 hu2
          have fin := Lib.hid (hM.out.app ho2 hu2)
          clear ho2 hu2
          go_wp2_with fail
          go_roundw
          case measure => simp [intOf]; omega
          case rel => exact ⟨K + 1, by omega, by go_num, .inr (by omega), .inr (by omega), Lib.hid (by rw [hln.out]; exact fin.out)⟩
        · have hfin := Lib.hid (show L.take (K - S) = L.take most.toNat by
            rcases hK2 with e | e
            · rw [show K - S = 0 by omega, show most.toNat = 0 by omega]
            · rw [show K - S = most.toNat by omega])
          have hmo' : ¬ ((K : Int) - S) < most := by omega
          have hltI : (K : Int) < (m.pre : Int) := by omega
          clear hK1 hK2 hlen hll
          go_wp2_with fail
          refine (hpr.out _ hM.out.2).mono ?_
          rintro e w2 ⟨rfl, rfl⟩
          go_wp2_with fail
          go_ret
          exact ⟨_, rfl, by rw [← hfin.out]; exact hM.out⟩
      · have hfin := Lib.hid (show L.take (K - S) = L.take most.toNat by
          by_cases e : K = S
          · rw [show K - S = 0 by omega, List.eq_nil_of_length_eq_zero (show L.length = 0 by omega)]; simp
          · rw [List.take_of_length_le (by omega), List.take_of_length_le (by omega)])
        have hltI : ¬ (K : Int) < (m.pre : Int) := by omega
        have hltB : decide ((K : Int) < (m.pre : Int)) = false := decide_eq_false hltI
        clear hK1 hK2 hlen hll
        go_wp2_with fail
        refine (hpr.out _ hM.out.2).mono ?_
        rintro e w2 ⟨rfl, rfl⟩
        go_wp2_with fail
        go_ret
        exact ⟨_, rfl, by rw [← hfin.out]; exact hM.out⟩
end Go.Proofs.Ytmcpcladjfddmaa
