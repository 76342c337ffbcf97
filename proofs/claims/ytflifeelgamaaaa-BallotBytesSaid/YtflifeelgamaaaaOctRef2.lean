/- The reference of chapter 1, function by function (2): what Number reads. -/
import Derived.Test.YtflifeelgamaaaaOctRef1
import Derived.Test.YtflifeelgamaaaaRefPure
import Derived.Test.YtflifeelgamaaaaSched
namespace Go.Proofs.Ytflifeelgamaaaa
open Go.RowKit Kit Oct
set_option linter.unusedVariables false

theorem conv9 {w : World} {S : Nat → Prop} {v : Value} {l : List UInt8} (h : RSl Rep.byte w S v l) : (convert 53 9 v).run Try.prog w = .ok (.string (strOf l)) w :=
  conv_str h Try.underlying53 Try.underlying5 Try.underlying9

/-- The first j bytes are 128 or more. -/
def Lead (l : List UInt8) (j : Nat) : Prop := ∀ i, i < j → 128 ≤ (l.getD i 0).toNat
theorem Lead.next {l : List UInt8} {j : Nat} (h : Lead l j) (hx : 128 ≤ (l.getD j 0).toNat) : Lead l (j + 1) := by
  intro i hi
  by_cases e : i = j
  · rw [e]; exact hx
  · exact h i (by omega)

theorem wrap_u64 (x : Nat) : IntKind.u64.wrap (x : Int) = ((x % 2 ^ 64 : Nat) : Int) := by
  simp only [IntKind.wrap, IntKind.bits, IntKind.signed]
  simp

theorem val_step (t : List UInt8) (b : UInt8) : IntKind.u64.wrap (IntKind.u64.wrap ((valw t : Int) * 128) + (b.toNat : Int) % 128) = ((valw (b :: t) : Nat) : Int) := by
  rw [show (valw t : Int) * 128 = ((valw t * 128 : Nat) : Int) from by simp, wrap_u64, show (((valw t * 128 % 2 ^ 64 : Nat) : Int) + (b.toNat : Int) % 128) = ((valw t * 128 % 2 ^ 64 + b.toNat % 128 : Nat) : Int) from by simp, wrap_u64]
  simp only [valw]
  congr 1
  omega

set_option maxHeartbeats 4000000 in
set_option maxRecDepth 100000 in
theorem refnum_some {S : Nat → Prop} (g o c at_ : Nat) (B : List UInt8) (w : World) (h : RSl Rep.byte w S (.slice (some ⟨g, o, none⟩) B.length c) B) (ha : at_ ≤ B.length) (hB : B.length ≤ 1000000) :
    Calls Try.prog 72 #[.slice (some ⟨g, o, none⟩) B.length c, .int .i64 at_] w fun e w' => e = .returned (.tuple #[.int .u64 ((num 0 0 (B.drop at_)).1 : Int), .int .i64 ((num 0 0 (B.drop at_)).2 : Int)]) ∧ Upd NoB w w' := by
  have hm := h.length_le
  have hmx : maxLen = 9223372036854775807 := rfl
  obtain ⟨A', c', cs, e', k1, k2, k3, k4, k5⟩ := id h
  cases e'
  obtain ⟨q1, q2, q3⟩ := k5 _ rfl
  have k2' : c ≤ 9223372036854775807 := k2
  have hcell : ∀ i, i < B.length → w.cell? ⟨g, o + i, none⟩ = some (.int .u8 ((B.getD i 0).toNat : Int)) := fun i hi => q3 i _ (byte_cells k3 i hi)
  have hl : ∀ j, (B.drop at_).getD j 0 = B.getD (at_ + j) 0 := fun j => by simp [List.getD_eq_getElem?_getD, List.getElem?_drop]
  have hll : (B.drop at_).length = B.length - at_ := by simp
  have H := Lib.hid h
  have HL := Lib.hid hl
  have HLL := Lib.hid hll
  clear h k3 k4 k5 q3 hl hll hm hmx k2
  generalize hlg : B.drop at_ = l at *
  have HLG := Lib.hid hlg
  clear hlg
  go_enter Try.func72, Try.ntmps72
  go_wp2_with fail
  go_loop [6] (fun s => ∃ j : Nat, s = .int .i64 ((at_ + j : Nat) : Int) ∧ at_ + j ≤ B.length ∧ j ≤ 12 ∧ Hid (Lead l j)) (fun s => at_ + 13 - (intOf s).toNat)
  case atStart => exact ⟨0, rfl, by omega, by omega, fun i hi => by omega⟩
  case round =>
    obtain ⟨j, rfl, hj1, hj2, hlead⟩ := hrel
    by_cases hlt : at_ + j < B.length
    · have hx0 := hcell (at_ + j) hlt
      obtain ⟨x, hx⟩ : ∃ x : Nat, x = (B.getD (at_ + j) 0).toNat := ⟨_, rfl⟩
      rw [← hx] at hx0
      have HX := Lib.hid hx
      have hx256 : x < 256 := by rw [hx]; exact UInt8.toNat_lt _
      clear hx
      by_cases hxb : 128 ≤ x
      · by_cases hj12 : j < 12
        · have fin := Lib.hid (show Lead l (j + 1) from hlead.out.next (by rw [HL.out, ← HX.out]; exact hxb))
          have HC := Lib.hid hcell
          clear hcell
          go_wp2_with fail
          go_round
          case rel => exact ⟨j + 1, by go_num, by omega, by omega, fin.out⟩
          case measure => simp [intOf]; omega
        · have fin := Lib.hid (num_far l j hlead.out (.inr (by omega)))
          have HC := Lib.hid hcell
          clear hcell
          go_wp2_with fail
          go_ret2
          exact ⟨ret2_eq fin.out.symm, Upd.refl _ _⟩
      · by_cases hj9 : 9 < j
        · have fin := Lib.hid (num_far l j hlead.out (.inr hj9))
          have HC := Lib.hid hcell
          clear hcell
          go_wp2_with fail
          go_ret2
          exact ⟨ret2_eq fin.out.symm, Upd.refl _ _⟩
        · have HC := Lib.hid hcell
          clear hcell
          go_wp2_with fail
          go_loop [7, 8] (fun sn si => ∃ p : Nat, p ≤ j + 1 ∧ si = .int .i64 (((at_ + p : Nat) : Int) - 1) ∧ sn = .int .u64 (valw ((l.take (j + 1)).drop p))) (fun _ si => (intOf si + 1 - at_).toNat)
          case atStart =>
            refine ⟨j + 1, Nat.le_refl _, by congr 1; omega, ?_⟩
            rw [List.drop_eq_nil_of_le (by rw [List.length_take]; omega)]
            rfl
          case round =>
            obtain ⟨p, hp, rfl, rfl⟩ := hrel
            cases p with
            | zero =>
              have hcl : (B.drop at_).take (j + 1) = l.take (j + 1) := by rw [HLG.out]
              have hpost := H.out.post at_ ha
              rw [if_neg (show ¬ c = at_ by omega), show o + at_ * Rep.byte.sz = o + at_ from by simp [Rep.byte]] at hpost
              have hpre := hpost.pre (j + 1) (by rw [List.length_drop]; omega) (show j + 1 ≤ c - at_ by omega) (Nat.le_refl _)
              rw [hcl] at hpre
              have HPre := Lib.hid hpre
              have hvl := valw_lt (l.take (j + 1))
              have hd0 : (l.take (j + 1)).drop 0 = l.take (j + 1) := rfl
              have HN := Lib.hid (fun w => refput_any (valw (l.take (j + 1))) w hvl)
              have F1 := Lib.hid (fun he => num_is l j (by rw [HLL.out]; omega) he)
              have F2 := Lib.hid (fun he => num_not l j hlead.out (by rw [HL.out, ← HX.out]; omega) he)
              clear hcl hpost hpre
              generalize l.take (j + 1) = tk at *
              clear hd0
              have hne : ¬ c = at_ := by omega
              go_wp2_with fail
              refine sched_begin NoB (by kernel_rfl) ?_
              have hw1 : IntKind.i64.wrap ((at_ : Int) + (j : Int) + 1) = (at_ : Int) + (j : Int) + 1 := by
                simp only [IntKind.wrap, IntKind.bits, IntKind.signed]
                simp
                omega
              have hw2 : ((at_ : Int) + (j : Int) + 1).toNat = at_ + j + 1 := by omega
              have hw3 : (0 : Int) ≤ (at_ : Int) + (j : Int) + 1 := by omega
              have hw4 : (at_ : Int) + (j : Int) + 1 ≤ (c : Int) := by omega
              have hw5 : at_ ≤ at_ + j + 1 := by omega
              have hw6 : at_ + j + 1 - at_ = j + 1 := by omega
              refine sched_take 0 rfl (by kernel_rfl) (by kernel_rfl) (by kernel_rfl) (fun _ _ _ h => h) rfl (fun x hx => by go_simp; rfl) ?_
              go_simp
              refine sched_take 3 rfl (by kernel_rfl) (by kernel_rfl) (by kernel_rfl) (fun _ _ _ h => h) rfl (fun x hx => by go_simp; rfl) ?_
              go_simp
              refine sched_take 4 rfl (by kernel_rfl) (by kernel_rfl) (by kernel_rfl) (fun _ _ _ h => h) rfl (fun x hx => by go_simp; rfl) ?_
              go_simp
              refine sched_take 5 rfl (by kernel_rfl) (by kernel_rfl) (by kernel_rfl) (fun _ _ _ h => h) rfl (fun x hx => by go_simp; rfl) ?_
              go_simp
              refine sched_take 6 rfl (by kernel_rfl) (by kernel_rfl) (by kernel_rfl) (fun _ _ _ h => h) rfl (fun x hx => by go_simp; rfl) ?_
              go_simp
              refine sched_take 7 rfl (by kernel_rfl) (by kernel_rfl) (by kernel_rfl) (fun _ _ _ h => h) rfl (fun x hx => by go_simp; rfl) ?_
              go_simp
              refine sched_take 8 rfl (by kernel_rfl) (by kernel_rfl) (by kernel_rfl) (fun _ _ _ h => h) rfl (fun x hx => by have hcv := conv9 (HPre.out.upd (((Upd.refl NoB w).drew).trans hx) (fun _ _ h => h)); go_simp; rfl) ?_
              go_simp
              refine sched_alone 1 (by kernel_rfl) rfl rfl ?_
              go_simp
              refine (HN.out _).mono ?_
              rintro e w1 ⟨v4, rfl, ho, hu⟩
              refine ⟨hu, ?_⟩
              have HO := Lib.hid ho.read
              have HU := Lib.hid (((Upd.refl NoB w).drew).trans hu)
              clear ho hu
              go_simp
              refine sched_take 2 rfl (by kernel_rfl) (by kernel_rfl) (by kernel_rfl) (fun _ _ _ h => h) rfl (fun x hx => by have hcv := conv9 (HO.out.upd hx (fun _ _ h => h)); go_simp; rfl) ?_
              go_simp
              by_cases he : enc (valw tk) = tk
              · have fin := Lib.hid (F1.out he)
                have hst : ((strOf (enc (valw tk))).toList == (strOf tk).toList) = true := by rw [he]; simp
                clear he
                refine sched_take 9 rfl (by kernel_rfl) (by kernel_rfl) (by kernel_rfl) (fun _ _ _ h => h) rfl (fun x hx => by go_simp; rfl) ?_
                go_simp
                refine sched_done (by kernel_rfl) ?_
                clear hw1 hw2 hw3 hw4 hw5 hw6 hst
                go_wp2_with fail
                go_ret2
                exact ⟨ret2_of fin.out rfl (by omega), HU.out⟩
              · have fin := Lib.hid (F2.out he)
                have hst : ((strOf (enc (valw tk))).toList == (strOf tk).toList) = false := by
                  rw [beq_eq_false_iff_ne]
                  intro h
                  rw [ByteArray.toList_eq, ByteArray.toList_eq] at h
                  exact he h
                clear he
                refine sched_take 9 rfl (by kernel_rfl) (by kernel_rfl) (by kernel_rfl) (fun _ _ _ h => h) rfl (fun x hx => by go_simp; rfl) ?_
                go_simp
                refine sched_done (by kernel_rfl) ?_
                clear hw1 hw2 hw3 hw4 hw5 hw6 hst
                go_wp2_with fail
                go_ret2
                exact ⟨ret2_of fin.out rfl rfl, HU.out⟩
            | succ p =>
              rw [show ((at_ + (p + 1) : Nat) : Int) - 1 = ((at_ + p : Nat) : Int) from by omega]
              have hy0 := HC.out (at_ + p) (by omega)
              obtain ⟨y, hy⟩ : ∃ y : Nat, y = (B.getD (at_ + p) 0).toNat := ⟨_, rfl⟩
              rw [← hy] at hy0
              have HY := Lib.hid hy
              have hy256 : y < 256 := by rw [hy]; exact UInt8.toNat_lt _
              clear hy
              have hvl := valw_lt ((l.take (j + 1)).drop (p + 1))
              have fin := Lib.hid (show IntKind.u64.wrap (IntKind.u64.wrap ((valw ((l.take (j + 1)).drop (p + 1)) : Int) * 128) + (y : Int) % 128) = ((valw ((l.take (j + 1)).drop p) : Nat) : Int) by
                have hd : (l.take (j + 1)).drop p = l.getD p 0 :: (l.take (j + 1)).drop (p + 1) := by
                  rw [drop_at (l.take (j + 1)) p (by rw [List.length_take, HLL.out]; omega)]
                  congr 1
                  rw [List.getD_eq_getElem?_getD, List.getElem?_take, if_pos (by omega), ← List.getD_eq_getElem?_getD]
                rw [hd, HY.out, ← HL.out p]
                exact val_step _ _)
              go_wp2_with fail
              go_round
              case rel => exact ⟨p, by omega, by go_num, by rw [fin.out]⟩
              case measure => simp [intOf]; omega
    · have fin := Lib.hid (num_far l j hlead.out (.inl (by rw [HLL.out]; omega)))
      have HC := Lib.hid hcell
      clear hcell
      go_wp2_with fail
      go_ret2
      exact ⟨ret2_eq fin.out.symm, Upd.refl _ _⟩
theorem refnum_any {S : Nat → Prop} (v : Value) (at_ : Nat) (B : List UInt8) (w : World) (h : RSl Rep.byte w S v B) (ha : at_ ≤ B.length) (hB : B.length ≤ 1000000) :
    Calls Try.prog 72 #[v, .int .i64 at_] w fun e w' => e = .returned (.tuple #[.int .u64 ((num 0 0 (B.drop at_)).1 : Int), .int .i64 ((num 0 0 (B.drop at_)).2 : Int)]) ∧ Upd NoB w w' := by
  obtain ⟨A, c, cs, rfl, h1, h2, h3, h4, h5⟩ := id h
  cases A with
  | some a =>
    obtain ⟨q1, q2, q3⟩ := h5 a rfl
    obtain ⟨g, o, sp⟩ := a
    simp only at q1
    subst q1
    exact refnum_some g o c at_ B w h ha hB
  | none =>
    obtain rfl : c = 0 := h4 rfl
    obtain rfl : B = [] := List.eq_nil_of_length_eq_zero (by omega)
    obtain rfl : at_ = 0 := by simpa using ha
    clear h h3 h5
    go_enter Try.func72, Try.ntmps72
    go_wp2_with fail
    go_loop [6] (fun s => s = .int .i64 0) (fun s => 0)
    case atStart => rfl
    case round =>
      subst hrel
      go_wp2_with fail
      go_ret2
      exact ⟨rfl, Upd.refl _ _⟩
end Go.Proofs.Ytflifeelgamaaaa
