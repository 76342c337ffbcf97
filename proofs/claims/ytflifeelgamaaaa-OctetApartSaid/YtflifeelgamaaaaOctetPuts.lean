/- A number and a text as bytes are as the chapter says, and read as they were (OctetPuts): the law's walk. -/
import Derived.Test.YtflifeelgamaaaaOctRef1
import Derived.Test.YtflifeelgamaaaaOctetOne
import Derived.Test.YtflifeelgamaaaaSched
namespace Go.Proofs.Ytflifeelgamaaaa
open Go.RowKit Kit Oct
set_option linter.unusedVariables false

theorem strOf_append (a b : List UInt8) : strOf (a ++ b) = strOf a ++ strOf b := by
  apply ByteArray.ext
  simp [strOf]
theorem conv9 {w : World} {S : Nat → Prop} {v : Value} {l : List UInt8} (h : RSl Rep.byte w S v l) : (convert 53 9 v).run Try.prog w = .ok (.string (strOf l)) w :=
  conv_str h Try.underlying53 Try.underlying5 Try.underlying9

theorem most_enc (n : Nat) (r : List UInt8) (hn : n < 2 ^ 64) : Rd.most ⟨enc n ++ r, false⟩ (2 ^ 64 - 1) = (n, ⟨r, false⟩) := by
  have e := num_enc r n 0 0 (by omega) (by omega)
  have hp := enc_pos n
  have e' : num 0 0 (enc n ++ r) = (n, (enc n).length) := by rw [e]; simp
  unfold Rd.most
  rw [if_neg (by simp), e']
  simp only
  rw [if_neg (by omega), List.drop_left]
theorem text_enc (s : ByteArray) (r : List UInt8) (hs : s.size ≤ 200) : Rd.text ⟨encText s ++ r, false⟩ 200 = (s.data.toList, ⟨r, false⟩) := by
  have e := num_enc (s.data.toList ++ r) s.size 0 0 (by omega) (by omega)
  have hp := enc_pos s.size
  have e' : num 0 0 (encText s ++ r) = (s.size, (enc s.size).length) := by
    unfold encText; rw [List.append_assoc, e]; simp
  have hl : s.data.toList.length = s.size := by rw [Array.length_toList]; rfl
  have hi : Rd.int ⟨encText s ++ r, false⟩ 200 = (s.size, ⟨s.data.toList ++ r, false⟩) := by
    unfold Rd.int Rd.most
    rw [if_neg (show ¬ (200 : Int) < 0 by omega), if_neg (by simp), e']
    rw [if_neg (show ¬ ((s.size, (enc s.size).length).2 = 0 ∨ (200 : Int).toNat < (s.size, (enc s.size).length).1) from by
      rintro (h | h)
      · have : (enc s.size).length = 0 := h
        omega
      · have : 200 < s.size := h
        omega)]
    unfold encText
    rw [List.append_assoc]
    simp only [List.drop_left]
  unfold Rd.text
  rw [hi]
  unfold Rd.cutText
  rw [if_neg (by simp [hl])]
  simp only
  rw [← hl, List.take_left, List.drop_left]

set_option maxHeartbeats 8000000 in
set_option maxRecDepth 100000 in
theorem octetPuts_walk {S : Nat → Prop} (v : Value) (l : List UInt8) (n : Nat) (s : ByteArray) (w : World) (h : RSl Rep.byte w S v l) (hn : n < 2 ^ 64) (hs : s.size ≤ 9223372036854775807) :
    Calls Try.prog 11 #[v, .int .u64 n, .string s] w fun e w' => e = .returned (.bool true) ∧ Upd NoB w w' := by
  have hf := Lib.hid (few_any v l w h)
  clear h
  by_cases hc : 200 < s.size
  ·
    go_enter Try.func11, Try.ntmps11
    go_wp2_with fail
    refine hf.out.mono ?_
    rintro e w' ⟨v1, rfl, h1, rfl⟩
    have hl : (l.take 200).length ≤ 200 := by rw [List.length_take]; omega
    generalize l.take 200 = b at *
    have hp := Lib.hid (put_any v1 b n w h1 (by omega) hn)
    have H1 := Lib.hid h1
    clear h1 hf
    go_wp2_with fail
    have ht : (s.extract 0 200).size ≤ 200 := by simp; omega
    generalize s.extract 0 200 = t at *
    refine hp.out.mono ?_
    rintro e w1 ⟨v2, rfl, ho, hu⟩
    have hen := enc_len10 hn
    have hp2 := Lib.hid (puttext_any v2 (b ++ enc n) t w1 ho.read (by rw [List.length_append]; omega) (by omega))
    have HU := Lib.hid hu
    clear ho hu hp hc
    go_wp2_with fail
    refine hp2.out.mono ?_
    rintro e w2 ⟨v3, rfl, ho, hu⟩
    have HU2 := Lib.hid ((HU.out.trans hu).drew)
    have HX := Lib.hid (ho.read.upd ((Upd.refl NoB w2).drew) (fun _ _ h => h))
    have H1' := Lib.hid (H1.out.upd HU2.out (fun _ _ h => h))
    clear ho hu hp2 HU
    go_wp2_with fail
    have z1 : (strOf b).size ≤ 200 := hl
    have z2 : (strOf (enc n)).size ≤ 10 := hen
    have z3 : (strOf (encText t)).size ≤ 210 := by
      have := enc_len10 (show t.size < 2 ^ 64 by omega)
      have e1 : t.data.toList.length = t.size := by rw [Array.length_toList]; rfl
      rw [strOf_size]
      unfold encText
      rw [List.length_append]
      omega
    have y1 : ¬ 9223372036854775807 < (strOf b).size + (strOf (enc n)).size := by omega
    have y2 : ¬ 9223372036854775807 < (strOf b).size + (strOf (enc n)).size + (strOf (encText t)).size := by omega
    refine sched_begin NoB (by kernel_rfl) ?_
    refine sched_take 0 rfl (by kernel_rfl) (by kernel_rfl) (by kernel_rfl) (fun _ _ _ h => h) rfl (fun x hx => by go_simp; rfl) ?_
    go_simp
    refine sched_take 1 rfl (by kernel_rfl) (by kernel_rfl) (by kernel_rfl) (fun _ _ _ h => h) rfl (fun x hx => by have hcv := conv9 (HX.out.upd hx (fun _ _ h => h)); rw [strOf_append, strOf_append] at hcv; go_simp; rfl) ?_
    go_simp
    refine sched_take 2 rfl (by kernel_rfl) (by kernel_rfl) (by kernel_rfl) (fun _ _ _ h => h) rfl (fun x hx => by go_simp; rfl) ?_
    go_simp
    refine sched_take 3 rfl (by kernel_rfl) (by kernel_rfl) (by kernel_rfl) (fun _ _ _ h => h) rfl (fun x hx => by have hcv := conv9 (H1'.out.upd hx (fun _ _ h => h)); go_simp; rfl) ?_
    go_simp
    refine sched_take 4 rfl (by kernel_rfl) (by kernel_rfl) (by kernel_rfl) (fun _ _ _ h => h) rfl (fun x hx => by go_simp; rfl) ?_
    go_simp
    refine sched_take 8 rfl (by kernel_rfl) (by kernel_rfl) (by kernel_rfl) (fun _ _ _ h => h) rfl (fun x hx => by go_simp; rfl) ?_
    go_simp
    refine sched_alone 5 (by kernel_rfl) rfl rfl ?_
    go_simp
    refine (refput_any n _ hn).mono ?_
    rintro e w3 ⟨v4, rfl, ho4, hu4⟩
    refine ⟨hu4, ?_⟩
    have HO4 := Lib.hid ho4.read
    have HU4 := Lib.hid hu4
    clear ho4 hu4
    go_simp
    refine sched_take 6 rfl (by kernel_rfl) (by kernel_rfl) (by kernel_rfl) (fun _ _ _ h => h) rfl (fun x hx => by have hcv := conv9 (HO4.out.upd hx (fun _ _ h => h)); go_simp; rfl) ?_
    go_simp
    refine sched_take 7 rfl (by kernel_rfl) (by kernel_rfl) (by kernel_rfl) (fun _ _ _ h => h) rfl (fun x hx => by go_simp; rfl) ?_
    go_simp
    refine sched_alone 9 (by kernel_rfl) rfl rfl ?_
    go_simp
    refine (reftext_any t _ (by omega)).mono ?_
    rintro e w4 ⟨v5, rfl, ho5, hu5⟩
    refine ⟨hu5, ?_⟩
    have HO5 := Lib.hid ho5.read
    have HU4w := Lib.hid hu5
    have HU5 := Lib.hid ((HU2.out.trans HU4.out).trans hu5)
    clear ho5 hu5
    go_simp
    refine sched_take 10 rfl (by kernel_rfl) (by kernel_rfl) (by kernel_rfl) (fun _ _ _ h => h) rfl (fun x hx => by have hcv := conv9 (HO5.out.upd hx (fun _ _ h => h)); go_simp; rfl) ?_
    go_simp
    refine sched_take 11 rfl (by kernel_rfl) (by kernel_rfl) (by kernel_rfl) (fun _ _ _ h => h) rfl (fun x hx => by go_simp; rfl) ?_
    go_simp
    refine sched_take 12 rfl (by kernel_rfl) (by kernel_rfl) (by kernel_rfl) (fun _ _ _ h => h) rfl (fun x hx => by go_simp; rfl) ?_
    go_simp
    refine sched_done (by kernel_rfl) ?_
    clear y1 y2 z1 z2 z3
    have hX4 := HX.out.upd (HU4.out.trans (HU4w.out)) (fun _ _ h => h)
    have hpos := enc_pos n
    obtain ⟨A1, c1, cs1, e1, d1, d2, _⟩ := H1'.out
    obtain ⟨A3, c3, cs3, e3, q1, q2, q3, q4, q5⟩ := id hX4
    have hlen3 : (b ++ enc n ++ encText t).length = b.length + (enc n).length + (encText t).length := by rw [List.length_append, List.length_append]
    have d2' : c1 ≤ 9223372036854775807 := d2
    have q2' : c3 ≤ 9223372036854775807 := q2
    cases A3 with
    | none => have := q4 rfl; omega
    | some a3 =>
      obtain ⟨f1, f2, f3⟩ := q5 a3 rfl
      obtain ⟨g3, o3, sp3⟩ := a3
      simp only at f1
      subst f1
      rw [e3] at hX4
      have hcut := hX4.post b.length (by omega)
      rw [if_neg (show ¬ c3 = b.length by omega)] at hcut
      have hdrop : (b ++ enc n ++ encText t).drop b.length = enc n ++ encText t := by rw [List.append_assoc, List.drop_left]
      rw [hdrop, show o3 + b.length * Rep.byte.sz = o3 + b.length from by simp [Rep.byte]] at hcut
      have hnew := Lib.hid (new_any _ _ w4 hcut (by rw [List.length_append]; have := enc_len10 (show t.size < 2 ^ 64 by omega); have e1 : t.data.toList.length = t.size := by rw [Array.length_toList]; rfl
                                                    unfold encText; rw [List.length_append]; omega))
      have hb3 : b.length ≤ (b ++ enc n ++ encText t).length := by omega
      have hbc : b.length ≤ c3 := by omega
      have hne : ¬ c3 = b.length := by omega
      generalize (b ++ enc n ++ encText t).length = L at *
      clear hcut hX4 q3 q4 q5 f2 f3 HX H1' HO4 HO5 hdrop hlen3
      subst e1 e3
      go_wp2_with fail
      refine hnew.out.mono ?_
      rintro e w5 ⟨p, rfl, hp1, hp2, hr, hu⟩
      have hN := n_any p _ w5 hr
      rw [most_enc n _ hn] at hN
      have HN := Lib.hid hN
      have HU6 := Lib.hid (HU5.out.trans hu)
      have hp0 : w.heap.size ≤ p := Nat.le_trans HU5.out.size hp1
      clear hr hu hN hnew
      go_wp2_with fail
      refine HN.out.mono ?_
      rintro e w6 ⟨rfl, ha⟩
      have hT := text_any p 200 ⟨encText t, false⟩ w6 ha.1 (by decide)
      have et := text_enc t [] ht
      rw [List.append_nil] at et
      rw [et] at hT
      have HT := Lib.hid hT
      have HU7 := Lib.hid (show Upd NoB w w6 from HU6.out.then ha.2 (fun i hi e => by have : i = p := e; omega))
      clear ha hT et HN
      go_wp2_with fail
      refine HT.out.mono ?_
      rintro e w7 ⟨rfl, ha⟩
      have hD := Lib.hid (done_any p _ w7 ha.1)
      have HU8 := Lib.hid (show Upd NoB w w7 from HU7.out.then ha.2 (fun i hi e => by have : i = p := e; omega))
      have hst : strOf t.data.toList = t := rfl
      clear ha HT
      go_wp2_with fail
      refine hD.out.mono ?_
      rintro e w8 ⟨rfl, rfl⟩
      clear hD
      go_wp2_with fail
      refine (awake_any _).mono ?_
      rintro e w9 ⟨rfl, hu9⟩
      have HU9 := Lib.hid hu9
      clear hu9
      go_wp2_with fail
      go_ret
      exact ⟨rfl, HU8.out.trans HU9.out⟩
  ·
    go_enter Try.func11, Try.ntmps11
    go_wp2_with fail
    refine hf.out.mono ?_
    rintro e w' ⟨v1, rfl, h1, rfl⟩
    have hl : (l.take 200).length ≤ 200 := by rw [List.length_take]; omega
    generalize l.take 200 = b at *
    have hp := Lib.hid (put_any v1 b n w h1 (by omega) hn)
    have H1 := Lib.hid h1
    clear h1 hf
    go_wp2_with fail
    have ht : s.size ≤ 200 := by omega
    obtain ⟨t, rfl⟩ : ∃ t, t = s := ⟨_, rfl⟩
    refine hp.out.mono ?_
    rintro e w1 ⟨v2, rfl, ho, hu⟩
    have hen := enc_len10 hn
    have hp2 := Lib.hid (puttext_any v2 (b ++ enc n) t w1 ho.read (by rw [List.length_append]; omega) (by omega))
    have HU := Lib.hid hu
    clear ho hu hp hc
    go_wp2_with fail
    refine hp2.out.mono ?_
    rintro e w2 ⟨v3, rfl, ho, hu⟩
    have HU2 := Lib.hid ((HU.out.trans hu).drew)
    have HX := Lib.hid (ho.read.upd ((Upd.refl NoB w2).drew) (fun _ _ h => h))
    have H1' := Lib.hid (H1.out.upd HU2.out (fun _ _ h => h))
    clear ho hu hp2 HU
    go_wp2_with fail
    have z1 : (strOf b).size ≤ 200 := hl
    have z2 : (strOf (enc n)).size ≤ 10 := hen
    have z3 : (strOf (encText t)).size ≤ 210 := by
      have := enc_len10 (show t.size < 2 ^ 64 by omega)
      have e1 : t.data.toList.length = t.size := by rw [Array.length_toList]; rfl
      rw [strOf_size]
      unfold encText
      rw [List.length_append]
      omega
    have y1 : ¬ 9223372036854775807 < (strOf b).size + (strOf (enc n)).size := by omega
    have y2 : ¬ 9223372036854775807 < (strOf b).size + (strOf (enc n)).size + (strOf (encText t)).size := by omega
    refine sched_begin NoB (by kernel_rfl) ?_
    refine sched_take 0 rfl (by kernel_rfl) (by kernel_rfl) (by kernel_rfl) (fun _ _ _ h => h) rfl (fun x hx => by go_simp; rfl) ?_
    go_simp
    refine sched_take 1 rfl (by kernel_rfl) (by kernel_rfl) (by kernel_rfl) (fun _ _ _ h => h) rfl (fun x hx => by have hcv := conv9 (HX.out.upd hx (fun _ _ h => h)); rw [strOf_append, strOf_append] at hcv; go_simp; rfl) ?_
    go_simp
    refine sched_take 2 rfl (by kernel_rfl) (by kernel_rfl) (by kernel_rfl) (fun _ _ _ h => h) rfl (fun x hx => by go_simp; rfl) ?_
    go_simp
    refine sched_take 3 rfl (by kernel_rfl) (by kernel_rfl) (by kernel_rfl) (fun _ _ _ h => h) rfl (fun x hx => by have hcv := conv9 (H1'.out.upd hx (fun _ _ h => h)); go_simp; rfl) ?_
    go_simp
    refine sched_take 4 rfl (by kernel_rfl) (by kernel_rfl) (by kernel_rfl) (fun _ _ _ h => h) rfl (fun x hx => by go_simp; rfl) ?_
    go_simp
    refine sched_take 8 rfl (by kernel_rfl) (by kernel_rfl) (by kernel_rfl) (fun _ _ _ h => h) rfl (fun x hx => by go_simp; rfl) ?_
    go_simp
    refine sched_alone 5 (by kernel_rfl) rfl rfl ?_
    go_simp
    refine (refput_any n _ hn).mono ?_
    rintro e w3 ⟨v4, rfl, ho4, hu4⟩
    refine ⟨hu4, ?_⟩
    have HO4 := Lib.hid ho4.read
    have HU4 := Lib.hid hu4
    clear ho4 hu4
    go_simp
    refine sched_take 6 rfl (by kernel_rfl) (by kernel_rfl) (by kernel_rfl) (fun _ _ _ h => h) rfl (fun x hx => by have hcv := conv9 (HO4.out.upd hx (fun _ _ h => h)); go_simp; rfl) ?_
    go_simp
    refine sched_take 7 rfl (by kernel_rfl) (by kernel_rfl) (by kernel_rfl) (fun _ _ _ h => h) rfl (fun x hx => by go_simp; rfl) ?_
    go_simp
    refine sched_alone 9 (by kernel_rfl) rfl rfl ?_
    go_simp
    refine (reftext_any t _ (by omega)).mono ?_
    rintro e w4 ⟨v5, rfl, ho5, hu5⟩
    refine ⟨hu5, ?_⟩
    have HO5 := Lib.hid ho5.read
    have HU4w := Lib.hid hu5
    have HU5 := Lib.hid ((HU2.out.trans HU4.out).trans hu5)
    clear ho5 hu5
    go_simp
    refine sched_take 10 rfl (by kernel_rfl) (by kernel_rfl) (by kernel_rfl) (fun _ _ _ h => h) rfl (fun x hx => by have hcv := conv9 (HO5.out.upd hx (fun _ _ h => h)); go_simp; rfl) ?_
    go_simp
    refine sched_take 11 rfl (by kernel_rfl) (by kernel_rfl) (by kernel_rfl) (fun _ _ _ h => h) rfl (fun x hx => by go_simp; rfl) ?_
    go_simp
    refine sched_take 12 rfl (by kernel_rfl) (by kernel_rfl) (by kernel_rfl) (fun _ _ _ h => h) rfl (fun x hx => by go_simp; rfl) ?_
    go_simp
    refine sched_done (by kernel_rfl) ?_
    clear y1 y2 z1 z2 z3
    have hX4 := HX.out.upd (HU4.out.trans (HU4w.out)) (fun _ _ h => h)
    have hpos := enc_pos n
    obtain ⟨A1, c1, cs1, e1, d1, d2, _⟩ := H1'.out
    obtain ⟨A3, c3, cs3, e3, q1, q2, q3, q4, q5⟩ := id hX4
    have hlen3 : (b ++ enc n ++ encText t).length = b.length + (enc n).length + (encText t).length := by rw [List.length_append, List.length_append]
    have d2' : c1 ≤ 9223372036854775807 := d2
    have q2' : c3 ≤ 9223372036854775807 := q2
    cases A3 with
    | none => have := q4 rfl; omega
    | some a3 =>
      obtain ⟨f1, f2, f3⟩ := q5 a3 rfl
      obtain ⟨g3, o3, sp3⟩ := a3
      simp only at f1
      subst f1
      rw [e3] at hX4
      have hcut := hX4.post b.length (by omega)
      rw [if_neg (show ¬ c3 = b.length by omega)] at hcut
      have hdrop : (b ++ enc n ++ encText t).drop b.length = enc n ++ encText t := by rw [List.append_assoc, List.drop_left]
      rw [hdrop, show o3 + b.length * Rep.byte.sz = o3 + b.length from by simp [Rep.byte]] at hcut
      have hnew := Lib.hid (new_any _ _ w4 hcut (by rw [List.length_append]; have := enc_len10 (show t.size < 2 ^ 64 by omega); have e1 : t.data.toList.length = t.size := by rw [Array.length_toList]; rfl
                                                    unfold encText; rw [List.length_append]; omega))
      have hb3 : b.length ≤ (b ++ enc n ++ encText t).length := by omega
      have hbc : b.length ≤ c3 := by omega
      have hne : ¬ c3 = b.length := by omega
      generalize (b ++ enc n ++ encText t).length = L at *
      clear hcut hX4 q3 q4 q5 f2 f3 HX H1' HO4 HO5 hdrop hlen3
      subst e1 e3
      go_wp2_with fail
      refine hnew.out.mono ?_
      rintro e w5 ⟨p, rfl, hp1, hp2, hr, hu⟩
      have hN := n_any p _ w5 hr
      rw [most_enc n _ hn] at hN
      have HN := Lib.hid hN
      have HU6 := Lib.hid (HU5.out.trans hu)
      have hp0 : w.heap.size ≤ p := Nat.le_trans HU5.out.size hp1
      clear hr hu hN hnew
      go_wp2_with fail
      refine HN.out.mono ?_
      rintro e w6 ⟨rfl, ha⟩
      have hT := text_any p 200 ⟨encText t, false⟩ w6 ha.1 (by decide)
      have et := text_enc t [] ht
      rw [List.append_nil] at et
      rw [et] at hT
      have HT := Lib.hid hT
      have HU7 := Lib.hid (show Upd NoB w w6 from HU6.out.then ha.2 (fun i hi e => by have : i = p := e; omega))
      clear ha hT et HN
      go_wp2_with fail
      refine HT.out.mono ?_
      rintro e w7 ⟨rfl, ha⟩
      have hD := Lib.hid (done_any p _ w7 ha.1)
      have HU8 := Lib.hid (show Upd NoB w w7 from HU7.out.then ha.2 (fun i hi e => by have : i = p := e; omega))
      have hst : strOf t.data.toList = t := rfl
      clear ha HT
      go_wp2_with fail
      refine hD.out.mono ?_
      rintro e w8 ⟨rfl, rfl⟩
      clear hD
      go_wp2_with fail
      refine (awake_any _).mono ?_
      rintro e w9 ⟨rfl, hu9⟩
      have HU9 := Lib.hid hu9
      clear hu9
      go_wp2_with fail
      go_ret
      exact ⟨rfl, HU8.out.trans HU9.out⟩
end Go.Proofs.Ytflifeelgamaaaa
