/- What was chosen stays so; the prefix never falls (LearnStays): the law's walk. -/
import Derived.Test.YtmcpcladjfddmaaLearn5
import Derived.Test.YtmcpcladjfddmaaOpen
namespace Go.Proofs.Ytmcpcladjfddmaa
open Go.RowKit Kit
set_option linter.unusedVariables false

/-- A slot, its value. -/
def Rep.row : Rep (Int × ByteArray) where
  sz := 2
  pos := by decide
  rep _ _ x cs := cs = [.int .i64 x.1, .string x.2] ∧ (Lit.int .i64 x.1).wf = true ∧ x.2.size ≤ maxLen
  len h := by rw [h.1]; rfl
  one h := by rw [h.1]; intro u hu; simp at hu; rcases hu with rfl | rfl <;> rfl
  keep h _ _ := h
theorem el_row {H : Type} {enc : TypeId × Value → H} {W : World} (n : Nat) (cs : List Value) (x : DataW H × List MemPlace) (h : DataW.trod enc Try.prog W 0 (fun _ => true) true n 39 cs = some x) :
    ∃ y, Rep.row.rep W (Old W) y cs := by
  obtain ⟨xs, m, _, _, hl, hlen, hf⟩ := DataW.trod_struct Try.underlying39 h
  have hl' : cs.length = 2 := by rw [hl]; kernel_rfl
  match cs, hl' with
  | [c0, c1], _ =>
    match xs, hlen with
    | [y0, y1], _ =>
      have f0 := hf 0 _ rfl
      have f1 := hf 1 _ rfl
      obtain ⟨a, e0, _, w0⟩ := DataW.trod_int Try.underlying3 f0
      obtain ⟨b, e1, _, w1⟩ := DataW.trod_string Try.underlying9 f1
      have q0 : Try.prog.cellsOf 3 = 1 := by kernel_rfl
      have q1 : Try.prog.cellsOf 9 = 1 := by kernel_rfl
      refine ⟨(a, b), ?_, w0, w1⟩
      simp at e0 e1
      rw [q0] at e0
      rw [q1] at e1
      simp at e0 e1
      rw [e0, e1]

theorem adv_ge (f : Nat → Option ByteArray) : ∀ (n k : Nat), 400 - k = n → k ≤ adv f k := by
  intro n
  induction n with
  | zero => intro k hn; rw [adv_stop (by omega)]; omega
  | succ n ih =>
    intro k hn
    by_cases h : k < 400 ∧ (f k).isSome = true
    · rw [adv_step h.1 h.2]; have := ih (k + 1) (by omega); omega
    · rw [adv_stop h]; omega
/-- What learning leaves. -/
theorem Ln.learn_cases {m : Ln} (h : m.ok) (s : Int) (v : ByteArray) :
    ((m.learn s v).1 ≠ 0 ∧ (m.learn s v).2 = m) ∨ ((m.learn s v).1 = 0 ∧ m.val s = none ∧ (m.learn s v).2.val s = some v ∧ m.pre ≤ (m.learn s v).2.pre ∧ ∀ k, (m.f k).isSome = true → (m.learn s v).2.f k = m.f k) := by
  unfold Ln.learn
  split
  · exact .inl ⟨by show (1 : Int) ≠ 0; decide, rfl⟩
  · rename_i hg
    have hr : 0 ≤ s ∧ s < 400 := by omega
    split
    · rename_i u hu
      split
      · exact .inl ⟨by show (7 : Int) ≠ 0; decide, rfl⟩
      · exact .inl ⟨by show (10 : Int) ≠ 0; decide, rfl⟩
    · rename_i hu
      refine .inr ⟨rfl, ?_, ?_, adv_ge _ _ _ rfl, fun k hk => ?_⟩
      · unfold Ln.val; rw [if_pos hr]; exact hu
      · unfold Ln.val; rw [if_pos hr]; show setF m.f s.toNat v s.toNat = _; unfold setF; rw [if_pos rfl]
      · show setF m.f s.toNat v k = _
        unfold setF
        split
        · rename_i e
          rw [e, hu] at hk
          cases hk
        · rfl
theorem Ln.frm_stays {m m2 : Ln} (h : m.ok) (hp : m.pre ≤ m2.pre) (hf : ∀ k, (m.f k).isSome = true → m2.f k = m.f k) : m2.frm 0 m.pre = m.frm 0 400 := by
  have e : ∀ (m : Ln) (n : Nat), m.frm 0 n = (m.rest 0).take n := fun m n => by unfold Ln.frm; rw [if_neg (by omega)]; rfl
  rw [show (400 : Int) = ((400 : Nat) : Int) from rfl, e, e]
  refine List.ext_getElem? fun j => ?_
  have h1 := h.1
  rw [List.take_of_length_le (l := m.rest 0) (by rw [Ln.rest_len]; omega), List.getElem?_take]
  by_cases hj : j < m.pre
  · rw [if_pos hj, Ln.rest_at m2 0 j (by omega), Ln.rest_at m 0 j (by omega)]
    unfold Ln.val0
    rw [hf _ (h.2.2.2.1 _ (by omega))]
  · rw [if_neg hj, List.getElem?_eq_none (by rw [Ln.rest_len]; omega)]

set_option maxHeartbeats 4000000 in
set_option maxRecDepth 100000 in
theorem learnStays_walk {S : Nat → Prop} (v : Value) (l : List (Int × ByteArray)) (slot : Int) (val : ByteArray) (w : World) (h : RSl Rep.row w S v l) (hv : val.size ≤ 9223372036854775807) :
    Calls Try.prog 5 #[v, .int .i64 slot, .string val] w fun e w' => e = .returned (.bool true) ∧ Upd NoB w w' := by
  have HX := Lib.hid h
  obtain ⟨A, c, cs, rfl, d1, d2, _⟩ := h
  have d2' : c ≤ 9223372036854775807 := d2
  go_enter Try.func5, Try.ntmps5
  go_wp2_with fail
  refine (new_any _).mono ?_
  rintro e w1 ⟨p, rfl, hp, hl1, hu1⟩
  have HL1 := Lib.hid hl1
  have HU1 := Lib.hid hu1
  clear hl1 hu1
  go_wp2_with fail
  go_loopw [8, 9, 20] (fun x8 x9 i wr => ∃ k : Nat, k ≤ l.length ∧ i = .int .i64 k ∧ ∃ m : Ln, Hid (Lrn wr p m) ∧ Hid m.ok ∧ Hid (Upd NoB w wr)) (fun _ _ i _ => l.length - (intOf i).toNat)
  case atStart => exact ⟨0, by omega, rfl, Ln.new, HL1, Lib.hid new_ok, HU1⟩
  case round =>
    obtain ⟨k, hk, rfl, m, hL, ho, hU⟩ := hrel
    by_cases hlt : k < l.length
    · obtain ⟨g, o, rcs, rfl, hrep, hcs, hg⟩ := HX.out.cellN k hlt
      obtain ⟨hr1, hr2, hr3⟩ := hrep
      subst hr1
      have c0 : wr.cell? ⟨g, o + k * 2, none⟩ = some (.int .i64 l[k].1) := hU.out.cell (hcs 0 _ rfl) (fun h => h)
      have c1 : wr.cell? ⟨g, o + k * 2 + 1, none⟩ = some (.string l[k].2) := hU.out.cell (hcs 1 _ rfl) (fun h => h)
      have hr3' : l[k].2.size ≤ 9223372036854775807 := hr3
      generalize l[k] = x at *
      obtain ⟨xs, xv⟩ := x
      simp only at c0 c1 hr3'
      clear hcs hr3
      have u0 : Upd NoB wr (wr.alloc (.cells #[.int .i64 xs, .string xv] 39)) := (Upd.refl NoB wr).alloc _
      have hLa := Lib.hid (hL.out.keep u0 (fun h => h))
      have hUa := Lib.hid (hU.out.trans u0)
      have hla := Lib.hid (learn_any p m xs xv _ hLa.out ho.out hr3')
      have ho2 := Lib.hid (Ln.learn_ok ho.out xs xv)
      generalize m.learn xs xv = r at *
      clear u0
      by_cases h30 : k < 30
      · have hd30 : decide ((k : Int) < 30) = true := by simp; omega
        have hI30 : (k : Int) < 30 := by omega
        go_wp2_with fail
        refine hla.out.mono ?_
        rintro e w3 ⟨rfl, hl, hu⟩
        have hL3 := Lib.hid hl
        have hU3 := Lib.hid (hUa.out.then hu (fun i hi e => by omega))
        clear hl hu
        go_wp2_with fail
        go_roundw
        case measure => simp [intOf]; omega
        case rel => exact ⟨k + 1, by omega, by go_num, r.2, hL3, ho2, hU3⟩
      · have hd30 : decide ((k : Int) < 30) = false := by simp; omega
        have hI30 : ¬ (k : Int) < 30 := by omega
        go_wp2_with fail
        go_roundw
        case measure => simp [intOf]; omega
        case rel => exact ⟨k + 1, by omega, by go_num, m, hLa, ho, hUa⟩
    · obtain rfl : k = l.length := by omega
      have hf0 := Lib.hid (from_any p m 0 400 wr hL.out ho.out)
      have hpr := Lib.hid (fun w1 (hu : Upd NoB wr w1) => prefix_any p m w1 (hL.out.keep hu (fun h => h)))
      have hva := Lib.hid (fun w1 (hu : Upd NoB wr w1) => val_any p m slot w1 (hL.out.keep hu (fun h => h)))
      have hle := Lib.hid (fun w1 (hu : Upd NoB wr w1) => learn_any p m slot val w1 (hL.out.keep hu (fun h => h)) ho.out hv)
      have ho2 := Ln.learn_ok ho.out slot val
      have hcs := Ln.learn_cases ho.out slot val
      generalize hr : m.learn slot val = r at *
      obtain ⟨E, m2⟩ := r
      simp only at ho2 hcs hle
      have hpre : m.pre ≤ m2.pre := by
        rcases hcs with ⟨_, rfl⟩ | ⟨_, _, _, h, _⟩
        · exact Nat.le_refl _
        · exact h
      have hfr : m2.frm 0 m.pre = m.frm 0 400 := by
        rcases hcs with ⟨_, rfl⟩ | ⟨_, _, _, h, hf⟩
        · exact Ln.frm_stays ho.out (Nat.le_refl _) (fun _ _ => rfl)
        · exact Ln.frm_stays ho.out h hf
      have HFR := Lib.hid hfr
      have hpr2 := Lib.hid (fun w1 (h : Lrn w1 p m2) => prefix_any p m2 w1 h)
      have hva2 := Lib.hid (fun w1 (h : Lrn w1 p m2) => val_any p m2 slot w1 h)
      have hf2 := Lib.hid (fun w1 (h : Lrn w1 p m2) n => from_any p m2 0 n w1 h ho2)
      have hpI : ¬ (m2.pre : Int) < (m.pre : Int) := by omega
      clear hr hfr ho2
      have hcase : (m.val slot = none ∧ E ≠ 0) ∨ (∃ u, m.val slot = some u ∧ m2 = m ∧ E ≠ 0) ∨ (E = 0 ∧ m.val slot = none ∧ m2.val slot = some val) := by
        rcases hcs with ⟨h1, h2⟩ | ⟨h1, h2, h3, _⟩
        · cases e : m.val slot with
          | none => exact .inl ⟨rfl, h1⟩
          | some u => exact .inr (.inl ⟨u, rfl, h2, h1⟩)
        · exact .inr (.inr ⟨h1, h2, h3⟩)
      clear hcs
      go_wp2_with fail
      refine hf0.out.mono ?_
      rintro e w2 ⟨va, rfl, hMa⟩
      have HMa := Lib.hid hMa
      clear hMa
      go_wp2_with fail
      refine (hpr.out _ HMa.out.2).mono ?_
      rintro e w3 ⟨rfl, rfl⟩
      go_wp2_with fail
      refine (hva.out _ HMa.out.2).mono ?_
      rintro e w3 ⟨rfl, hu⟩
      have HMa3 := Lib.hid (HMa.out.upd hu)
      clear hu
      go_wp2_with fail
      refine (hle.out _ HMa3.out.2).mono ?_
      rintro e w4 ⟨rfl, hl, hu⟩
      have HL4 := Lib.hid hl
      have HRa4 := Lib.hid (HMa3.out.1.read.upd hu (fun b hb e => by have h1 := hL.out.lt; have h2 := grow_ge b hb; omega))
      have HU4 := Lib.hid (hU.out.trans HMa3.out.2)
      have HU4' := Lib.hid (HU4.out.then hu (fun i hi e => by omega))
      clear hl hu HU4
      go_wp2_with fail
      refine (hva2.out _ HL4.out).mono ?_
      rintro e w5 ⟨rfl, hu⟩
      have HL5 := Lib.hid (HL4.out.keep hu (fun h => h))
      have HRa5 := Lib.hid (HRa4.out.upd hu (fun _ _ h => h))
      have HU5 := Lib.hid (HU4'.out.trans hu)
      clear hu
      rcases hcase with ⟨h1, h2⟩ | ⟨u, h1, h2, h3⟩ | ⟨h1, h2, h3⟩
      · have hE0 : (E == 0) = false := by simp [h2]
        rw [h1]
        clear h1 h2
        go_wp2_with fail
        refine (hpr2.out _ HL5.out).mono ?_
        rintro e w6 ⟨rfl, rfl⟩
        go_wp2_with fail
        refine (hf2.out _ HL5.out _).mono ?_
        rintro e w6 ⟨vb, rfl, hMb⟩
        have HMb := Lib.hid hMb
        clear hMb
        have hk := keysEq_any vb va _ _ w6 HMb.out.1.read (HRa5.out.upd HMb.out.2 (fun _ _ h => h))
        rw [decide_eq_true HFR.out] at hk
        have HK := Lib.hid hk
        clear hk
        go_wp2_with fail
        refine (HK.out).mono ?_
        rintro e w7 ⟨rfl, hu⟩
        have HU7 := Lib.hid ((HU5.out.trans HMb.out.2).trans hu)
        clear hu
        go_wp2_with fail
        refine (awakeLearn_any _).mono ?_
        rintro e w8 ⟨rfl, hu⟩
        have HU8 := Lib.hid (HU7.out.trans hu)
        clear hu
        go_wp2_with fail
        go_ret
        exact ⟨rfl, HU8.out⟩
      · have hE0 : (E == 0) = false := by simp [h3]
        have h4 : m2.val slot = some u := by rw [h2]; exact h1
        rw [h1, h4]
        clear h1 h2 h3 h4
        go_wp2_with fail
        refine (hpr2.out _ HL5.out).mono ?_
        rintro e w6 ⟨rfl, rfl⟩
        go_wp2_with fail
        refine (hf2.out _ HL5.out _).mono ?_
        rintro e w6 ⟨vb, rfl, hMb⟩
        have HMb := Lib.hid hMb
        clear hMb
        have hk := keysEq_any vb va _ _ w6 HMb.out.1.read (HRa5.out.upd HMb.out.2 (fun _ _ h => h))
        rw [decide_eq_true HFR.out] at hk
        have HK := Lib.hid hk
        clear hk
        go_wp2_with fail
        refine (HK.out).mono ?_
        rintro e w7 ⟨rfl, hu⟩
        have HU7 := Lib.hid ((HU5.out.trans HMb.out.2).trans hu)
        clear hu
        go_wp2_with fail
        refine (awakeLearn_any _).mono ?_
        rintro e w8 ⟨rfl, hu⟩
        have HU8 := Lib.hid (HU7.out.trans hu)
        clear hu
        go_wp2_with fail
        go_ret
        exact ⟨rfl, HU8.out⟩
      · rw [h2, h3]
        subst h1
        clear h2 h3
        go_wp2_with fail
        refine (hpr2.out _ HL5.out).mono ?_
        rintro e w6 ⟨rfl, rfl⟩
        go_wp2_with fail
        refine (hf2.out _ HL5.out _).mono ?_
        rintro e w6 ⟨vb, rfl, hMb⟩
        have HMb := Lib.hid hMb
        clear hMb
        have hk := keysEq_any vb va _ _ w6 HMb.out.1.read (HRa5.out.upd HMb.out.2 (fun _ _ h => h))
        rw [decide_eq_true HFR.out] at hk
        have HK := Lib.hid hk
        clear hk
        go_wp2_with fail
        refine (HK.out).mono ?_
        rintro e w7 ⟨rfl, hu⟩
        have HU7 := Lib.hid ((HU5.out.trans HMb.out.2).trans hu)
        clear hu
        go_wp2_with fail
        refine (awakeLearn_any _).mono ?_
        rintro e w8 ⟨rfl, hu⟩
        have HU8 := Lib.hid (HU7.out.trans hu)
        clear hu
        go_wp2_with fail
        go_ret
        exact ⟨rfl, HU8.out⟩
end Go.Proofs.Ytmcpcladjfddmaa
