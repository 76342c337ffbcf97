/- Bytes that are read as a number, to their end, are just that number's (OctetOne): the law's walk. -/
import Derived.Test.YtflifeelgamaaaaOctet3
import Derived.Deep.RegionWith
namespace Go.Proofs.Ytflifeelgamaaaa
open Go.RowKit Kit Oct
set_option linter.unusedVariables false

set_option maxHeartbeats 1000000 in
set_option maxRecDepth 100000 in
theorem few_any {S : Nat → Prop} (v : Value) (l : List UInt8) (w : World) (h : RSl Rep.byte w S v l) :
    Calls Try.prog 38 #[v] w fun e w' => ∃ v', e = .returned v' ∧ RSl Rep.byte w S v' (l.take 200) ∧ w = w' := by
  obtain ⟨A, c, cs, rfl, h1, h2, h3, h4, h5⟩ := id h
  have h2' : c ≤ 9223372036854775807 := h2
  by_cases hl : 200 < l.length
  · cases A with
    | none => have := h4 rfl; omega
    | some a =>
      obtain ⟨q1, q2, q3⟩ := h5 a rfl
      obtain ⟨g, o, sp⟩ := a
      simp only at q1
      subst q1
      have fin := h.pre 200 (by omega) (show 200 ≤ c by omega) (Nat.le_refl _)
      have Fin := Lib.hid fin
      clear h h3 h4 h5 q3 fin
      go_enter Try.func38, Try.ntmps38
      go_wp2_with fail
      go_ret
      exact ⟨_, rfl, Fin.out, rfl⟩
  · have fin := Lib.hid (show RSl Rep.byte w S (.slice A l.length c) (l.take 200) by rw [List.take_of_length_le (by omega)]; exact h)
    clear h h3 h4 h5
    go_enter Try.func38, Try.ntmps38
    go_wp2_with fail
    go_ret
    exact ⟨_, rfl, fin.out, rfl⟩

theorem most_all (b : List UInt8) (h : (!((Rd.most ⟨b, false⟩ (2 ^ 64 - 1)).2.bad) && decide ((Rd.most ⟨b, false⟩ (2 ^ 64 - 1)).2.bs.length = 0)) = true) :
    enc (Rd.most ⟨b, false⟩ (2 ^ 64 - 1)).1 = b ∧ (Rd.most ⟨b, false⟩ (2 ^ 64 - 1)).1 < 2 ^ 64 := by
  have hle := most_le ⟨b, false⟩ (2 ^ 64 - 1)
  refine ⟨?_, by omega⟩
  revert h
  unfold Rd.most
  simp only [Bool.false_eq_true, if_false]
  by_cases c : (num 0 0 b).2 = 0 ∨ 2 ^ 64 - 1 < (num 0 0 b).1
  · rw [if_pos c]; simp
  · rw [if_neg c]
    intro h
    simp at h
    obtain ⟨_, e1, e2⟩ := num_some (l := b) rfl (show 0 < (num 0 0 b).2 by omega)
    simp only
    rw [List.drop_eq_nil_of_le (by omega), List.append_nil] at e2
    exact e2.symm

set_option maxHeartbeats 4000000 in
set_option maxRecDepth 100000 in
theorem octetOne_walk {S : Nat → Prop} (v : Value) (l : List UInt8) (w : World) (h : RSl Rep.byte w S v l) :
    Calls Try.prog 9 #[v] w fun e w' => e = .returned (.bool true) ∧ Upd NoB w w' := by
  have hf := Lib.hid (few_any v l w h)
  clear h
  go_enter Try.func9, Try.ntmps9
  go_wp2_with fail
  refine hf.out.mono ?_
  rintro e w' ⟨v1, rfl, h1, rfl⟩
  have hl : (l.take 200).length ≤ 200 := by rw [List.length_take]; omega
  generalize l.take 200 = b at *
  have hn := Lib.hid (new_any v1 b w h1 (by omega))
  have H1 := Lib.hid h1
  clear h1 hf
  go_wp2_with fail
  refine hn.out.mono ?_
  rintro e w1 ⟨p, rfl, hp1, hp2, hr, hu⟩
  have hN := Lib.hid (n_any p _ w1 hr)
  have HU := Lib.hid hu
  clear hr hu hn
  go_wp2_with fail
  refine hN.out.mono ?_
  rintro e w2 ⟨rfl, ha⟩
  have hD := Lib.hid (done_any p _ w2 ha.1)
  have HA := Lib.hid ha
  clear ha hN
  go_wp2_with fail
  refine hD.out.mono ?_
  rintro e w' ⟨rfl, rfl⟩
  have HU2 := Lib.hid (show Upd NoB w w2 from HU.out.then HA.out.2 (fun i hi e => by have : i = p := e; omega))
  have hAw := Lib.hid (awake_any w2)
  clear HU HA hD
  cases hd : (!((Rd.most ⟨b, false⟩ (2 ^ 64 - 1)).2.bad) && decide ((Rd.most ⟨b, false⟩ (2 ^ 64 - 1)).2.bs.length = 0)) with
  | false =>
    go_wp2_with fail
    refine hAw.out.mono ?_
    rintro e w3 ⟨rfl, hu3⟩
    have HU3 := Lib.hid hu3
    clear hu3
    go_wp2_with fail
    go_ret
    exact ⟨rfl, HU2.out.trans HU3.out⟩
  | true =>
    obtain ⟨he, hn64⟩ := most_all b hd
    generalize (Rd.most ⟨b, false⟩ (2 ^ 64 - 1)).1 = n at *
    clear hd
    have hcv0 := conv_str (P := Try.prog) ((H1.out.upd HU2.out (fun _ _ h => h)).upd ((Upd.refl NoB w2).drew) (fun _ _ h => h)) (src := 53) (e := 5) (dst := 9) Try.underlying53 Try.underlying5 Try.underlying9
    have HP := Lib.hid (fun w' => put_any (S := NoB) (.slice none 0 0) [] n w' (RSl.nil w' NoB) (by decide) hn64)
    have HE := Lib.hid he
    have hee : strOf (enc n) = strOf b := by rw [he]
    clear he
    go_wp2_with fail
    go_region_with (first
      | (go_at_call 43; refine (HP.out _).mono ?_; rintro e w3 ⟨v3, rfl, ho, hu⟩; have hc3 := conv_str (P := Try.prog) ho.read (src := 53) (e := 5) (dst := 9) Try.underlying53 Try.underlying5 Try.underlying9; have hcb := conv_str (P := Try.prog) ((H1.out.upd HU2.out (fun _ _ h => h)).upd (((Upd.refl NoB w2).drew).trans hu) (fun _ _ h => h)) (src := 53) (e := 5) (dst := 9) Try.underlying53 Try.underlying5 Try.underlying9; have Hu := Lib.hid hu; clear hu ho)
      | (go_at_call 42; refine (awake_any _).mono ?_; rintro e w4 ⟨rfl, hu4⟩; have HU4 := Lib.hid hu4; clear hu4))
    all_goals (go_wp2_with fail; go_ret; exact ⟨rfl, HU2.out.trans ((((Upd.refl NoB w2).drew).trans Hu.out).trans HU4.out)⟩)
end Go.Proofs.Ytflifeelgamaaaa
