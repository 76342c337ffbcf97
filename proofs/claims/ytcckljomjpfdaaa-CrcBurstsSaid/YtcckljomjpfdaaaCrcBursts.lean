/- Sealed bytes of which some bits within 32 next to one another are turned are not whole (CrcBursts): the law's walk. -/
import Derived.Test.YtcckljomjpfdaaaCrc3
import Derived.Deep.Cut
import Derived.Deep.CutRange
namespace Go.Proofs.Ytcckljomjpfdaaa
open Go.RowKit Kit
set_option linter.unusedVariables false

theorem xor_u8 (a b : UInt8) : bits .xor .u8 (a.toNat : Int) (b.toNat : Int) = (((a ^^^ b).toNat : Nat) : Int) := by
  have ha := a.toNat_lt
  have hb := b.toNat_lt
  have h1 : (BitVec.ofInt 8 (a.toNat : Int)).toNat = a.toNat := by rw [BitVec.ofInt_natCast, BitVec.toNat_ofNat]; exact Nat.mod_eq_of_lt (by omega)
  have h2 : (BitVec.ofInt 8 (b.toNat : Int)).toNat = b.toNat := by rw [BitVec.ofInt_natCast, BitVec.toNat_ofNat]; exact Nat.mod_eq_of_lt (by omega)
  have hx : a.toNat ^^^ b.toNat < 2 ^ 8 := Nat.xor_lt_two_pow (by omega) (by omega)
  show IntKind.u8.wrap ((BitVec.ofInt 8 (a.toNat : Int) ^^^ BitVec.ofInt 8 (b.toNat : Int)).toNat : Int) = _
  rw [BitVec.toNat_xor, h1, h2, UInt8.toNat_xor]
  simp [IntKind.wrap, IntKind.bits, IntKind.signed]
  omega
theorem pow_byte (j : Nat) (h : j < 8) : (2 : Int) ^ j % 256 = (((UInt8.ofNat (2 ^ j)).toNat : Nat) : Int) := by
  rcases (show j = 0 ∨ j = 1 ∨ j = 2 ∨ j = 3 ∨ j = 4 ∨ j = 5 ∨ j = 6 ∨ j = 7 by omega) with rfl | rfl | rfl | rfl | rfl | rfl | rfl | rfl <;> decide
theorem flip_byte (x : UInt8) (j : Nat) (h : j < 8) : bits .xor .u8 (x.toNat : Int) ((2 : Int) ^ j % 256) = (((x ^^^ UInt8.ofNat (2 ^ j)).toNat : Nat) : Int) := by
  rw [pow_byte j h, xor_u8]
theorem bit_at (p k : Nat) (hp : p < 4294967296) : bits .and .u32 ((p : Int) / 2 ^ k) 1 = ((p / 2 ^ k % 2 : Nat) : Int) := by
  have : p / 2 ^ k < 4294967296 := Nat.lt_of_le_of_lt (Nat.div_le_self _ _) hp
  rw [show (p : Int) / 2 ^ k = ((p / 2 ^ k : Nat) : Int) by simp, and_one _ this]
  simp
theorem flip_step (A p F k : Nat) (h : p / 2 ^ k % 2 = 1) : (A ^^^ (p % 2 ^ k * 2 ^ F)) ^^^ 2 ^ (F + k) = A ^^^ (p % 2 ^ (k + 1) * 2 ^ F) := by
  have e : p % 2 ^ (k + 1) = (p % 2 ^ k) ^^^ (1 * 2 ^ k) := by
    rw [xor_low (Nat.mod_lt _ (Nat.two_pow_pos k)), Nat.mod_pow_succ, h]
    omega
  rw [e, ← Nat.shiftLeft_eq _ F, ← Nat.shiftLeft_eq _ F, Nat.shiftLeft_xor_distrib, Nat.shiftLeft_eq (1 * 2 ^ k), Nat.one_mul, ← Nat.pow_add, Nat.add_comm k F, Nat.xor_assoc]
theorem flip_skip (p k : Nat) (h : ¬ p / 2 ^ k % 2 = 1) : p % 2 ^ (k + 1) = p % 2 ^ k := by
  rw [Nat.mod_pow_succ, show p / 2 ^ k % 2 = 0 by omega, Nat.mul_zero, Nat.add_zero]
theorem burst_bad (l L : List UInt8) (n F p : Nat) (hl : l.length = n) (hL : L.length = n) (h4 : 4 ≤ n) (hF : F + 32 ≤ 8 * n) (hp : p < 4294967296) (hp0 : p ≠ 0) (hw : crcm 4294967295 l = stps 32 4294967295) (he : le L = le l ^^^ (p % 2 ^ 32 * 2 ^ F)) : whB L = false := by
  rw [Nat.mod_eq_of_lt hp] at he
  have hne := bursts l L n F p hl hL hF hp hp0 he
  have hs : L = L.take (n - 4) ++ L.drop (n - 4) := (List.take_append_drop _ _).symm
  rw [hs, whB_iff _ _ (by rw [List.length_drop]; omega), ← hs]
  exact decide_eq_false (fun e => hne (e.trans hw.symm))

set_option maxHeartbeats 2000000 in
set_option maxRecDepth 100000 in
theorem crcBursts_walk {S : Nat → Prop} (v : Value) (l : List UInt8) (at_ pat : Nat) (w : World) (h : RSl Rep.byte w S v l) (hat : at_ < 65536) (hbits : pat < 4294967296) :
    Calls Try.prog 8 #[v, .int .u16 at_, .int .u32 pat] w fun e w' => e = .returned (.bool true) ∧ Upd NoB w w' := by
  have u0 : Upd NoB w (w.alloc (.cells #[] 5)) := (Upd.refl NoB w).alloc _
  have H0 := Lib.hid (show Mine Rep.byte 5 w (w.alloc (.cells #[] 5)) (.slice (some ⟨w.heap.size, 0, none⟩) 0 0) [] from
    ⟨OSl.made (r := Rep.byte) (e := 5) (w := w) (S := grow NoB w (w.alloc (.cells #[] 5))) #[] 0 (by simp) (by decide) ⟨.inr (Nat.le_refl _), by simp⟩, u0⟩)
  have hfa := Lib.hid (few_any v l _ (h.upd u0 (fun _ _ h => h)))
  clear u0
  obtain ⟨A0, c0, _, rfl, _⟩ := h
  generalize hv : Value.slice A0 l.length c0 = v at *
  clear hv
  go_enter Try.func8, Try.ntmps8
  go_wp2_with fail
  refine hfa.out.mono ?_
  rintro e w' ⟨v1, rfl, h1, rfl⟩
  have hla : (l.take 300).length ≤ 300 := by rw [List.length_take]; omega
  generalize l.take 300 = a at *
  have hse := Lib.hid (seal_any v1 a _ h1 (by omega))
  have hwh := Lib.hid (whB_iff a (four (crcOf a)) rfl)
  have hfl : (four (crcOf a)).length = 4 := rfl
  have hsealed := Lib.hid ((whole_iff a (four (crcOf a)) rfl).1 rfl)
  have hL4 : (a ++ four (crcOf a)).length = a.length + 4 := by rw [List.length_append]; rfl
  generalize four (crcOf a) = q at *
  obtain ⟨A1, c1, _, rfl, _⟩ := h1
  generalize hv : Value.slice A1 a.length c1 = v1 at *
  clear hv hfa
  go_wp2_with fail
  refine hse.out.mono ?_
  rintro e w1 ⟨v2, rfl, hM⟩
  have HM := Lib.hid hM
  clear hM hse
  have H1 := Lib.hid (H0.out.upd HM.out.2)
  have HO := Lib.hid H1.out.1
  have HB := Lib.hid H1.out.bd
  have Ha := Lib.hid HM.out.1.read
  go_wp2_with (at_builtin; go_must (refine app_all (r := Rep.byte) rfl _ _ 29 5 (.int .u8 0) 1 rfl Try.underlying29 i5 rfl (by decide) rfl rfl HO.out HB.out Ha.out (fun cs hc => Rows.flat flat_byte hc _ _) (by rw [hL4]; simp; omega) ?_))
  intro v3 w2 ho hu
  have M2 := Lib.hid (show Mine Rep.byte 5 w w2 v3 (a ++ q) by simpa using H1.out.app ho hu)
  clear ho hu H1 HO HB Ha H0
  obtain ⟨g, cap, rfl, s1, s2, s3, s4, s5⟩ := M2.out.shape (by omega)
  have s2' : cap ≤ 9223372036854775807 := s2
  clear s5 s2
  generalize hN : (a ++ q).length = N at *
  have HN := Lib.hid hN
  have hN4 : 4 ≤ N := by omega
  have hN3 : N ≤ 304 := by omega
  clear hN hL4
  by_cases hb0 : pat = 0
  · subst hb0
    go_wp2_with fail
    refine (awakeCrc_any _).mono ?_
    rintro e w6 ⟨rfl, hu⟩
    have U6 := Lib.hid (M2.out.2.trans hu)
    clear hu
    go_wp2_with fail
    go_ret
    exact ⟨rfl, U6.out⟩
  · have hb1 : ((pat : Int) == 0) = false := by simp; omega
    clear hfl
    obtain ⟨F, hF, hF2⟩ : ∃ F : Nat, (at_ : Int).tmod (8 * (N : Int) - 31) = (F : Int) ∧ F + 32 ≤ 8 * N := by
      refine ⟨at_ % (8 * N - 31), ?_, ?_⟩
      · rw [Int.tmod_eq_emod_of_nonneg (by omega), show 8 * (N : Int) - 31 = ((8 * N - 31 : Nat) : Int) by omega, ← Int.natCast_emod]
      · have := Nat.mod_lt at_ (show 0 < 8 * N - 31 by omega); omega
    have hF' : (at_ : Int) % (8 * (N : Int) - 31) = (F : Int) := by rw [← hF, Int.tmod_eq_emod_of_nonneg (by omega)]
    have ew : IntKind.i64.wrap (at_ : Int) = (at_ : Int) := by simp only [IntKind.wrap, IntKind.bits, IntKind.signed]; simp; omega
    have hd4 : decide ((N : Int) < 4) = false := by simp; omega
    go_wp2_with fail
    go_loopw [9] (fun i wr => ∃ k : Nat, k ≤ 32 ∧ i = .int .i64 k ∧ ∃ L : List UInt8, Hid (L.length = N) ∧ Hid (le L = le (a ++ q) ^^^ (pat % 2 ^ k * 2 ^ F)) ∧ Hid (Mine Rep.byte 5 w wr (.slice (some ⟨g, 0, none⟩) N cap) L)) (fun i _ => 32 - (intOf i).toNat)
    case atStart => exact ⟨0, by omega, rfl, a ++ q, HN, Lib.hid (by simp [Nat.mod_one]), M2⟩
    case round =>
      obtain ⟨k, hk, rfl, L, hL, hE, hM⟩ := hrel
      by_cases hlt : k < 32
      · have hP : (F + k) / 8 < N := by omega
        have hPL : (F + k) / 8 < L.length := by rw [hL.out]; exact hP
        have hM2 := hM.out
        rw [← hL.out] at hM2
        have hrd := RSl.cell1 rfl hM2.1.read ((F + k) / 8) hPL
        obtain ⟨g', o', u, e0, hu, hc, _⟩ := hrd
        cases e0
        obtain rfl := (List.cons.inj hu).1
        rw [Nat.zero_add] at hc
        have hfz : wr.frozen? ⟨g, (F + k) / 8, none⟩ = false := by
          obtain ⟨_, _, e, _, _, _, _, h⟩ := hM2.shape (by omega)
          cases e
          exact h _
        have hset := Lib.hid (le_set L ((F + k) / 8) ((F + k) % 8) hPL (Nat.mod_lt _ (by decide)))
        have hst := Lib.hid (fun u (hy : Rep.byte.rep wr NoB (L[(F + k) / 8] ^^^ UInt8.ofNat (2 ^ ((F + k) % 8))) [u]) => hM2.store flat_byte rfl ((F + k) / 8) hy)
        generalize L[(F + k) / 8] = x at *
        have hd32 : decide ((k : Int) < 32) = true := by simp; omega
        have hw1 : (0 : Int) ≤ (F : Int) + k := by omega
        clear hu hM2
        by_cases hb : pat / 2 ^ k % 2 = 1
        · have hbt : (Go.bits .and .u32 ((pat : Int) / 2 ^ k) 1 == 1) = true := by rw [bit_at pat k hbits, hb]; rfl
          have hv2 := Lib.hid (flip_byte x ((F + k) % 8) (Nat.mod_lt _ (by decide)))
          have hq := Lib.hid (flip_step (le (a ++ q)) pat F k hb)
          have hdm := Lib.hid (Nat.div_add_mod (F + k) 8)
          clear hb
          go_wp2_with fail
          go_roundw
          case measure => simp [intOf]; omega
          case rel =>
            refine ⟨k + 1, by omega, by go_num, L.set ((F + k) / 8) (x ^^^ UInt8.ofNat (2 ^ ((F + k) % 8))), Lib.hid (by rw [List.length_set]; exact hL.out), Lib.hid ?_, Lib.hid ?_⟩
            · rw [hset.out, hdm.out, hE.out]
              exact hq.out
            · rw [hv2.out]
              have := hst.out (.int .u8 ((x ^^^ UInt8.ofNat (2 ^ ((F + k) % 8))).toNat : Int)) rfl
              rw [hL.out] at this
              exact this
        · have hbt : (Go.bits .and .u32 ((pat : Int) / 2 ^ k) 1 == 1) = false := by
            rw [bit_at pat k hbits, show pat / 2 ^ k % 2 = 0 by omega]; rfl
          have hq := Lib.hid (flip_skip pat k hb)
          clear hb
          go_wp2_with fail
          go_roundw
          case measure => simp [intOf]; omega
          case rel => exact ⟨k + 1, by omega, by go_num, L, hL, Lib.hid (by rw [hq.out]; exact hE.out), hM⟩
      · obtain rfl : k = 32 := by omega
        have hbad := burst_bad (a ++ q) L N F pat HN.out hL.out hN4 hF2 hbits hb0 hsealed.out hE.out
        have hwo := whole_any _ L wr hM.out.1.read (by rw [hL.out]; omega)
        rw [hbad] at hwo
        have HWO := Lib.hid hwo
        clear hbad hwo
        go_wp2_with fail
        refine HWO.out.mono ?_
        rintro e w5 ⟨rfl, hu⟩
        have U5 := Lib.hid (hM.out.2.trans hu)
        clear hu
        go_wp2_with fail
        refine (awakeCrc_any _).mono ?_
        rintro e w6 ⟨rfl, hu⟩
        have U6 := Lib.hid (U5.out.trans hu)
        clear hu
        go_wp2_with fail
        go_ret
        exact ⟨rfl, U6.out⟩
end Go.Proofs.Ytcckljomjpfdaaa
