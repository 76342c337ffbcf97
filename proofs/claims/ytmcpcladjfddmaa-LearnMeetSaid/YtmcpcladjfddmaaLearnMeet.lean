/- Two that learned some of the same values have prefixes of which one begins the other one (LearnMeet): the law's walk. -/
import Derived.Test.YtmcpcladjfddmaaLearn5
namespace Go.Proofs.Ytmcpcladjfddmaa
open Go.RowKit Kit
set_option linter.unusedVariables false

/-- A text, cut. -/
def tv (s : ByteArray) : ByteArray := if 64 < s.size then s.extract 0 64 else s
def Agree (m : Ln) (l : List ByteArray) : Prop := ∀ k u, m.f k = some u → ∃ s, l[k]? = some s ∧ u = tv s
theorem agree_learn {m : Ln} {l : List ByteArray} (h : Agree m l) (k : Nat) (s : ByteArray) (hs : l[k]? = some s) : Agree (m.learn k (tv s)).2 l := by
  unfold Ln.learn
  split
  · exact h
  · split
    · split <;> exact h
    · intro j u hu
      simp only [setF] at hu
      split at hu
      · rename_i e
        cases hu
        exact ⟨s, by rw [e]; exact hs, rfl⟩
      · exact h j u hu
theorem meet_eq {m m' : Ln} {l : List ByteArray} (h : Agree m l) (h' : Agree m' l) (ho : m.ok) (ho' : m'.ok) (n : Nat) (hn : n ≤ m.pre) (hn' : n ≤ m'.pre) : m.frm 0 n = m'.frm 0 n ∧ (m.frm 0 n).length = n := by
  have e : ∀ m : Ln, m.frm 0 n = (m.rest 0).take n := fun m => by unfold Ln.frm; rw [if_neg (by omega)]; rfl
  rw [e, e]
  refine ⟨List.ext_getElem? fun j => ?_, by rw [List.length_take, Ln.rest_len]; omega⟩
  rw [List.getElem?_take, List.getElem?_take]
  split
  · rename_i hj
    rw [Ln.rest_at m 0 j (by omega), Ln.rest_at m' 0 j (by omega)]
    have a := ho.2.2.2.1 (0 + j) (by omega)
    have b := ho'.2.2.2.1 (0 + j) (by omega)
    unfold Ln.val0
    cases ea : m.f (0 + j) with
    | none => rw [ea] at a; cases a
    | some u =>
      cases eb : m'.f (0 + j) with
      | none => rw [eb] at b; cases b
      | some u' =>
        obtain ⟨s, h1, h2⟩ := h _ _ ea
        obtain ⟨s', h3, h4⟩ := h' _ _ eb
        rw [h1] at h3
        cases h3
        rw [h2, h4]
  · rfl

set_option maxHeartbeats 4000000 in
set_option maxRecDepth 100000 in
theorem learnMeet_walk {S : Nat → Prop} (v : Value) (l : List ByteArray) (a b : Int) (w : World) (h : RSl Rep.str w S v l) (ha : 0 ≤ a) (hb : 0 ≤ b) :
    Calls Try.prog 3 #[v, .int .u64 a, .int .u64 b] w fun e w' => e = .returned (.bool true) ∧ Upd NoB w w' := by
  have HX := Lib.hid h
  obtain ⟨A, c, cs, rfl, d1, d2, _⟩ := h
  have d2' : c ≤ 9223372036854775807 := d2
  go_enter Try.func3, Try.ntmps3
  go_wp2_with fail
  refine (new_any _).mono ?_
  rintro e w1 ⟨px, rfl, hpx, hl1, hu1⟩
  have HL1 := Lib.hid hl1
  have HU1 := Lib.hid hu1
  clear hl1 hu1
  go_wp2_with fail
  refine (new_any _).mono ?_
  rintro e w2 ⟨py, rfl, hpy, hl2, hu2⟩
  have HL2 := Lib.hid hl2
  have HLx := Lib.hid (HL1.out.keep hu2 (fun h => h))
  have HU2 := Lib.hid (HU1.out.trans hu2)
  have hpxy : px < py := Nat.lt_of_lt_of_le HL1.out.lt hpy
  clear hl2 hu2
  go_wp2_with fail
  go_loopw [9, 10, 16] (fun x9 x10 i wr => ∃ k : Nat, k ≤ l.length ∧ i = .int .i64 k ∧ ∃ mx my : Ln, Hid (Lrn wr px mx) ∧ Hid (Lrn wr py my) ∧ Hid mx.ok ∧ Hid my.ok ∧ Hid (Agree mx l) ∧ Hid (Agree my l) ∧ Hid (Upd NoB w wr)) (fun _ _ i _ => l.length - (intOf i).toNat)
  case atStart => exact ⟨0, by omega, rfl, Ln.new, Ln.new, HLx, HL2, Lib.hid new_ok, Lib.hid new_ok, Lib.hid (fun k u h => nomatch h), Lib.hid (fun k u h => nomatch h), HU2⟩
  case round =>
    obtain ⟨k, hk, rfl, mx, my, hLx, hLy, hoa, hob, hga, hgb, hU⟩ := hrel
    by_cases hlt : k < l.length
    · obtain ⟨g, o, u, rfl, hu, hc, hg⟩ := HX.out.cell1 rfl k hlt
      obtain ⟨hu1, hu2⟩ := hu
      obtain rfl := (List.cons.inj hu1).1
      have hc2 := hU.out.cell hc (fun h => h)
      have hs := Lib.hid (show l[k]? = some l[k] from List.getElem?_eq_getElem hlt)
      have hu2' : l[k].size ≤ 9223372036854775807 := hu2
      generalize l[k] = s at *
      clear hc hu1 hu2
      by_cases h40 : 40 ≤ k
      · have hd40 : (40 : Int) ≤ (k : Int) := by omega
        have hd1 : (k : Int) < (l.length : Int) := by omega
        by_cases hle : my.pre < mx.pre
        · skip
          have hmeet := meet_eq hga.out hgb.out hoa.out hob.out my.pre (by omega) (by omega)
          have hp1 := Lib.hid (prefix_any _ _ _ hLx.out)
          have hp2 := Lib.hid (prefix_any _ _ _ hLy.out)
          have hf1 := Lib.hid (fun w1 (hu : Upd NoB wr w1) n => from_any _ _ 0 n w1 (hLx.out.keep hu (fun h => h)) hoa.out)
          have hf2 := Lib.hid (fun w1 (hu : Upd NoB wr w1) n => from_any _ _ 0 n w1 (hLy.out.keep hu (fun h => h)) hob.out)
          have HME := Lib.hid hmeet
          clear hmeet
          go_wp2_with fail
          refine (hp1.out).mono ?_
          rintro e w2 ⟨rfl, rfl⟩
          go_wp2_with fail
          refine (hp2.out).mono ?_
          rintro e w2 ⟨rfl, rfl⟩
          go_wp2_with fail
          refine (hf1.out _ (Upd.refl _ _) _).mono ?_
          rintro e w2 ⟨va, rfl, hMa⟩
          have HMa := Lib.hid hMa
          clear hMa
          go_wp2_with fail
          refine (hf2.out _ HMa.out.2 _).mono ?_
          rintro e w3 ⟨vb, rfl, hMb⟩
          have HMb := Lib.hid hMb
          have HMa3 := Lib.hid (HMa.out.upd hMb.2)
          clear hMb
          have hk := keysEq_any va vb _ _ w3 HMa3.out.1.read HMb.out.1.read
          rw [decide_eq_true HME.out.1] at hk
          have HK := Lib.hid hk
          clear hk
          go_wp2_with fail
          refine (HK.out).mono ?_
          rintro e w4 ⟨rfl, hu⟩
          have U4 := Lib.hid (HMa3.out.2.trans hu)
          clear hu
          go_wp2_with fail
          refine (hf1.out _ U4.out _).mono ?_
          rintro e w5 ⟨vc, rfl, hMc⟩
          obtain ⟨Ac, cc, _, rfl, _⟩ := hMc.1.read
          have U5 := Lib.hid (U4.out.trans hMc.2)
          clear hMc
          rw [HME.out.2]
          go_wp2_with fail
          refine (awakeLearn_any _).mono ?_
          rintro e w6 ⟨rfl, hu⟩
          have U6 := Lib.hid ((hU.out.trans U5.out).trans hu)
          clear hu
          go_wp2_with fail
          go_ret
          exact ⟨rfl, U6.out⟩
        · skip
          have hmeet := meet_eq hga.out hgb.out hoa.out hob.out mx.pre (by omega) (by omega)
          have hp1 := Lib.hid (prefix_any _ _ _ hLx.out)
          have hp2 := Lib.hid (prefix_any _ _ _ hLy.out)
          have hf1 := Lib.hid (fun w1 (hu : Upd NoB wr w1) n => from_any _ _ 0 n w1 (hLx.out.keep hu (fun h => h)) hoa.out)
          have hf2 := Lib.hid (fun w1 (hu : Upd NoB wr w1) n => from_any _ _ 0 n w1 (hLy.out.keep hu (fun h => h)) hob.out)
          have HME := Lib.hid hmeet
          clear hmeet
          go_wp2_with fail
          refine (hp1.out).mono ?_
          rintro e w2 ⟨rfl, rfl⟩
          go_wp2_with fail
          refine (hp2.out).mono ?_
          rintro e w2 ⟨rfl, rfl⟩
          go_wp2_with fail
          refine (hf1.out _ (Upd.refl _ _) _).mono ?_
          rintro e w2 ⟨va, rfl, hMa⟩
          have HMa := Lib.hid hMa
          clear hMa
          go_wp2_with fail
          refine (hf2.out _ HMa.out.2 _).mono ?_
          rintro e w3 ⟨vb, rfl, hMb⟩
          have HMb := Lib.hid hMb
          have HMa3 := Lib.hid (HMa.out.upd hMb.2)
          clear hMb
          have hk := keysEq_any va vb _ _ w3 HMa3.out.1.read HMb.out.1.read
          rw [decide_eq_true HME.out.1] at hk
          have HK := Lib.hid hk
          clear hk
          go_wp2_with fail
          refine (HK.out).mono ?_
          rintro e w4 ⟨rfl, hu⟩
          have U4 := Lib.hid (HMa3.out.2.trans hu)
          clear hu
          go_wp2_with fail
          refine (hf1.out _ U4.out _).mono ?_
          rintro e w5 ⟨vc, rfl, hMc⟩
          obtain ⟨Ac, cc, _, rfl, _⟩ := hMc.1.read
          have U5 := Lib.hid (U4.out.trans hMc.2)
          clear hMc
          rw [HME.out.2]
          go_wp2_with fail
          refine (awakeLearn_any _).mono ?_
          rintro e w6 ⟨rfl, hu⟩
          have U6 := Lib.hid ((hU.out.trans U5.out).trans hu)
          clear hu
          go_wp2_with fail
          go_ret
          exact ⟨rfl, U6.out⟩
      · have hd40 : ¬ (40 : Int) ≤ (k : Int) := by omega
        have htv := Lib.hid (show tv s = if 64 < s.size then s.extract 0 64 else s from rfl)
        have hga2 := Lib.hid (agree_learn hga.out k s hs.out)
        have hgb2 := Lib.hid (agree_learn hgb.out k s hs.out)
        have hoa2 := Lib.hid (Ln.learn_ok hoa.out k (tv s))
        have hob2 := Lib.hid (Ln.learn_ok hob.out k (tv s))
        have htsz : (tv s).size ≤ 9223372036854775807 := by
          unfold tv
          split
          · simp; omega
          · omega
        have hla := Lib.hid (learn_any px mx k (tv s) wr hLx.out hoa.out htsz)
        have hlb := Lib.hid (fun w1 (h : Lrn w1 py my) => learn_any py my k (tv s) w1 h hob.out htsz)
        clear htsz
        by_cases h64 : 64 < s.size
        · have h64' : (64 : Int) < (s.size : Int) := by omega
          rw [if_pos h64] at htv
          rw [htv.out] at hga2 hgb2 hoa2 hob2 hla hlb
          clear htv
          generalize hra : mx.learn k _ = ra at *
          generalize hrb : my.learn k _ = rb at *
          clear hra hrb
          cases hBA : (bits .and .u64 (a / 2 ^ k) 1 == 1) <;> cases hBB : (bits .and .u64 (b / 2 ^ k) 1 == 1)
          · go_wp2_with fail
            go_roundw
            case measure => simp [intOf]; omega
            case rel => exact ⟨k + 1, by omega, by go_num, mx, my, hLx, hLy, hoa, hob, hga, hgb, hU⟩
          · go_wp2_with fail
            refine (hlb.out _ hLy.out).mono ?_
            rintro e w4 ⟨rfl, hl, hu⟩
            have hLx4 := Lib.hid (hLx.out.keep hu (by omega))
            have hLy4 := Lib.hid hl
            have U4 := Lib.hid (hU.out.then hu (fun i hi e => by omega))
            clear hl hu
            go_wp2_with fail
            go_roundw
            case measure => simp [intOf]; omega
            case rel => exact ⟨k + 1, by omega, by go_num, mx, rb.2, hLx4, hLy4, hoa, hob2, hga, hgb2, U4⟩
          · go_wp2_with fail
            refine (hla.out).mono ?_
            rintro e w3 ⟨rfl, hl, hu⟩
            have hLx3 := Lib.hid hl
            have hLy3 := Lib.hid (hLy.out.keep hu (by omega))
            have U3 := Lib.hid (hU.out.then hu (fun i hi e => by omega))
            clear hl hu
            go_wp2_with fail
            go_roundw
            case measure => simp [intOf]; omega
            case rel => exact ⟨k + 1, by omega, by go_num, ra.2, my, hLx3, hLy3, hoa2, hob, hga2, hgb, U3⟩
          · go_wp2_with fail
            refine (hla.out).mono ?_
            rintro e w3 ⟨rfl, hl, hu⟩
            have hLx3 := Lib.hid hl
            have hLy3 := Lib.hid (hLy.out.keep hu (by omega))
            have U3 := Lib.hid (hU.out.then hu (fun i hi e => by omega))
            clear hl hu
            go_wp2_with fail
            refine (hlb.out _ hLy3.out).mono ?_
            rintro e w4 ⟨rfl, hl, hu⟩
            have hLx4 := Lib.hid (hLx3.out.keep hu (by omega))
            have hLy4 := Lib.hid hl
            have U4 := Lib.hid (U3.out.then hu (fun i hi e => by omega))
            clear hl hu
            go_wp2_with fail
            go_roundw
            case measure => simp [intOf]; omega
            case rel => exact ⟨k + 1, by omega, by go_num, ra.2, rb.2, hLx4, hLy4, hoa2, hob2, hga2, hgb2, U4⟩
        · have h64' : ¬ (64 : Int) < (s.size : Int) := by omega
          rw [if_neg h64] at htv
          rw [htv.out] at hga2 hgb2 hoa2 hob2 hla hlb
          clear htv
          generalize hra : mx.learn k _ = ra at *
          generalize hrb : my.learn k _ = rb at *
          clear hra hrb
          cases hBA : (bits .and .u64 (a / 2 ^ k) 1 == 1) <;> cases hBB : (bits .and .u64 (b / 2 ^ k) 1 == 1)
          · go_wp2_with fail
            go_roundw
            case measure => simp [intOf]; omega
            case rel => exact ⟨k + 1, by omega, by go_num, mx, my, hLx, hLy, hoa, hob, hga, hgb, hU⟩
          · go_wp2_with fail
            refine (hlb.out _ hLy.out).mono ?_
            rintro e w4 ⟨rfl, hl, hu⟩
            have hLx4 := Lib.hid (hLx.out.keep hu (by omega))
            have hLy4 := Lib.hid hl
            have U4 := Lib.hid (hU.out.then hu (fun i hi e => by omega))
            clear hl hu
            go_wp2_with fail
            go_roundw
            case measure => simp [intOf]; omega
            case rel => exact ⟨k + 1, by omega, by go_num, mx, rb.2, hLx4, hLy4, hoa, hob2, hga, hgb2, U4⟩
          · go_wp2_with fail
            refine (hla.out).mono ?_
            rintro e w3 ⟨rfl, hl, hu⟩
            have hLx3 := Lib.hid hl
            have hLy3 := Lib.hid (hLy.out.keep hu (by omega))
            have U3 := Lib.hid (hU.out.then hu (fun i hi e => by omega))
            clear hl hu
            go_wp2_with fail
            go_roundw
            case measure => simp [intOf]; omega
            case rel => exact ⟨k + 1, by omega, by go_num, ra.2, my, hLx3, hLy3, hoa2, hob, hga2, hgb, U3⟩
          · go_wp2_with fail
            refine (hla.out).mono ?_
            rintro e w3 ⟨rfl, hl, hu⟩
            have hLx3 := Lib.hid hl
            have hLy3 := Lib.hid (hLy.out.keep hu (by omega))
            have U3 := Lib.hid (hU.out.then hu (fun i hi e => by omega))
            clear hl hu
            go_wp2_with fail
            refine (hlb.out _ hLy3.out).mono ?_
            rintro e w4 ⟨rfl, hl, hu⟩
            have hLx4 := Lib.hid (hLx3.out.keep hu (by omega))
            have hLy4 := Lib.hid hl
            have U4 := Lib.hid (U3.out.then hu (fun i hi e => by omega))
            clear hl hu
            go_wp2_with fail
            go_roundw
            case measure => simp [intOf]; omega
            case rel => exact ⟨k + 1, by omega, by go_num, ra.2, rb.2, hLx4, hLy4, hoa2, hob2, hga2, hgb2, U4⟩
    · obtain rfl : k = l.length := by omega
      by_cases hle : my.pre < mx.pre
      · skip
        have hmeet := meet_eq hga.out hgb.out hoa.out hob.out my.pre (by omega) (by omega)
        have hp1 := Lib.hid (prefix_any _ _ _ hLx.out)
        have hp2 := Lib.hid (prefix_any _ _ _ hLy.out)
        have hf1 := Lib.hid (fun w1 (hu : Upd NoB wr w1) n => from_any _ _ 0 n w1 (hLx.out.keep hu (fun h => h)) hoa.out)
        have hf2 := Lib.hid (fun w1 (hu : Upd NoB wr w1) n => from_any _ _ 0 n w1 (hLy.out.keep hu (fun h => h)) hob.out)
        have HME := Lib.hid hmeet
        clear hmeet
        go_wp2_with fail
        refine (hp1.out).mono ?_
        rintro e w2 ⟨rfl, rfl⟩
        go_wp2_with fail
        refine (hp2.out).mono ?_
        rintro e w2 ⟨rfl, rfl⟩
        go_wp2_with fail
        refine (hf1.out _ (Upd.refl _ _) _).mono ?_
        rintro e w2 ⟨va, rfl, hMa⟩
        have HMa := Lib.hid hMa
        clear hMa
        go_wp2_with fail
        refine (hf2.out _ HMa.out.2 _).mono ?_
        rintro e w3 ⟨vb, rfl, hMb⟩
        have HMb := Lib.hid hMb
        have HMa3 := Lib.hid (HMa.out.upd hMb.2)
        clear hMb
        have hk := keysEq_any va vb _ _ w3 HMa3.out.1.read HMb.out.1.read
        rw [decide_eq_true HME.out.1] at hk
        have HK := Lib.hid hk
        clear hk
        go_wp2_with fail
        refine (HK.out).mono ?_
        rintro e w4 ⟨rfl, hu⟩
        have U4 := Lib.hid (HMa3.out.2.trans hu)
        clear hu
        go_wp2_with fail
        refine (hf1.out _ U4.out _).mono ?_
        rintro e w5 ⟨vc, rfl, hMc⟩
        obtain ⟨Ac, cc, _, rfl, _⟩ := hMc.1.read
        have U5 := Lib.hid (U4.out.trans hMc.2)
        clear hMc
        rw [HME.out.2]
        go_wp2_with fail
        refine (awakeLearn_any _).mono ?_
        rintro e w6 ⟨rfl, hu⟩
        have U6 := Lib.hid ((hU.out.trans U5.out).trans hu)
        clear hu
        go_wp2_with fail
        go_ret
        exact ⟨rfl, U6.out⟩
      · skip
        have hmeet := meet_eq hga.out hgb.out hoa.out hob.out mx.pre (by omega) (by omega)
        have hp1 := Lib.hid (prefix_any _ _ _ hLx.out)
        have hp2 := Lib.hid (prefix_any _ _ _ hLy.out)
        have hf1 := Lib.hid (fun w1 (hu : Upd NoB wr w1) n => from_any _ _ 0 n w1 (hLx.out.keep hu (fun h => h)) hoa.out)
        have hf2 := Lib.hid (fun w1 (hu : Upd NoB wr w1) n => from_any _ _ 0 n w1 (hLy.out.keep hu (fun h => h)) hob.out)
        have HME := Lib.hid hmeet
        clear hmeet
        go_wp2_with fail
        refine (hp1.out).mono ?_
        rintro e w2 ⟨rfl, rfl⟩
        go_wp2_with fail
        refine (hp2.out).mono ?_
        rintro e w2 ⟨rfl, rfl⟩
        go_wp2_with fail
        refine (hf1.out _ (Upd.refl _ _) _).mono ?_
        rintro e w2 ⟨va, rfl, hMa⟩
        have HMa := Lib.hid hMa
        clear hMa
        go_wp2_with fail
        refine (hf2.out _ HMa.out.2 _).mono ?_
        rintro e w3 ⟨vb, rfl, hMb⟩
        have HMb := Lib.hid hMb
        have HMa3 := Lib.hid (HMa.out.upd hMb.2)
        clear hMb
        have hk := keysEq_any va vb _ _ w3 HMa3.out.1.read HMb.out.1.read
        rw [decide_eq_true HME.out.1] at hk
        have HK := Lib.hid hk
        clear hk
        go_wp2_with fail
        refine (HK.out).mono ?_
        rintro e w4 ⟨rfl, hu⟩
        have U4 := Lib.hid (HMa3.out.2.trans hu)
        clear hu
        go_wp2_with fail
        refine (hf1.out _ U4.out _).mono ?_
        rintro e w5 ⟨vc, rfl, hMc⟩
        obtain ⟨Ac, cc, _, rfl, _⟩ := hMc.1.read
        have U5 := Lib.hid (U4.out.trans hMc.2)
        clear hMc
        rw [HME.out.2]
        go_wp2_with fail
        refine (awakeLearn_any _).mono ?_
        rintro e w6 ⟨rfl, hu⟩
        have U6 := Lib.hid ((hU.out.trans U5.out).trans hu)
        clear hu
        go_wp2_with fail
        go_ret
        exact ⟨rfl, U6.out⟩
end Go.Proofs.Ytmcpcladjfddmaa
