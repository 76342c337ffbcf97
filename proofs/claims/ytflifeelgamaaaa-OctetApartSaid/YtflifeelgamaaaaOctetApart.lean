/- Two numbers that are not the same have not the same bytes, and none's begin another one's (OctetApart): the law's walk. -/
import Derived.Test.YtflifeelgamaaaaOctetPuts
namespace Go.Proofs.Ytflifeelgamaaaa
open Go.RowKit Kit Oct
set_option linter.unusedVariables false

theorem enc_apart {n m : Nat} (hn : n < 2 ^ 64) (hm : m < 2 ^ 64) (h : n ≠ m) : enc n ≠ (enc m).take (enc n).length := by
  intro e
  have e1 := most_enc n ((enc m).drop (enc n).length) hn
  have e2 := most_enc m [] hm
  rw [List.append_nil] at e2
  have e3 : enc n ++ (enc m).drop (enc n).length = enc m := by
    have := List.take_append_drop (enc n).length (enc m)
    rw [← e] at this
    exact this
  rw [e3, e2] at e1
  exact h (congrArg (fun x => x.1) e1).symm

set_option maxHeartbeats 8000000 in
set_option maxRecDepth 100000 in
theorem octetApart_walk {S : Nat → Prop} (n m : Nat) (v : Value) (l : List UInt8) (w : World) (hn : n < 2 ^ 64) (hm : m < 2 ^ 64) (h : RSl Rep.byte w S v l) :
    Calls Try.prog 10 #[.int .u64 n, .int .u64 m, v] w fun e w' => e = .returned (.bool true) ∧ Upd NoB w w' := by
  have hp1 := put_any (S := NoB) (.slice none 0 0) [] n w (RSl.nil w NoB) (by decide) hn
  have hp2 := fun w => put_any (S := NoB) (.slice none 0 0) [] m w (RSl.nil w NoB) (by decide) hm
  have hap := fun q => enc_apart hn hm q
  have hmost := fun r => most_enc n r hn
  have b1 := enc_len10 hn
  have b2 := enc_len10 hm
  have b3 := enc_pos n
  have b4 := enc_pos m
  rw [List.nil_append] at hp1
  simp only [List.nil_append] at hp2
  generalize enc n = en at *
  generalize enc m = em at *
  have HP1 := Lib.hid hp1
  have HP2 := Lib.hid hp2
  have HAP := Lib.hid hap
  have HM := Lib.hid hmost
  have HF := Lib.hid (fun w' (u : Upd NoB w w') => few_any v l w' (h.upd u (fun _ _ h => h)))
  clear hp1 hp2 hap hmost h
  go_enter Try.func10, Try.ntmps10
  go_wp2_with fail
  refine HP1.out.mono ?_
  rintro e w1 ⟨vx, rfl, ho1, hu1⟩
  have HX := Lib.hid ho1.read
  have HU1 := Lib.hid hu1
  obtain ⟨Ax, cx, csx, rfl, x1, x2, -, x4, x5⟩ := ho1.read
  clear ho1 hu1
  go_wp2_with fail
  refine (HP2.out w1).mono ?_
  rintro e w2 ⟨vy, rfl, ho2, hu2⟩
  have HY := Lib.hid ho2.read
  have HU2 := Lib.hid (HU1.out.trans hu2)
  have HX2 := Lib.hid (HX.out.upd hu2 (fun _ _ h => h))
  obtain ⟨Ay, cy, csy, rfl, y1, y2, -, y4, y5⟩ := ho2.read
  clear ho2 hu2 HP1 HP2
  have x2' : cx ≤ 9223372036854775807 := x2
  have y2' : cy ≤ 9223372036854775807 := y2
  rcases Ay with _ | ⟨g, o, sp⟩
  · have := y4 rfl; omega
  obtain ⟨rfl, -, -⟩ := y5 _ rfl
  clear x4 x5 y4 y5
  have HB := Lib.hid (show Bd (fun b => b = w2.drew.heap.size) (w2.drew.alloc (.cells #[] 5)) from fun b hb => by rw [show b = w2.drew.heap.size from hb]; simp)
  have H0 := Lib.hid (OSl.made (r := Rep.byte) (e := 5) (w := w2.drew) (S := fun b => b = w2.drew.heap.size) #[] 0 (by rfl) (by decide) rfl)
  have HX1 := Lib.hid (HX2.out.upd (((Upd.refl NoB w2).drew).alloc (.cells #[] 5)) (fun _ _ h => h))
  have i1 : (0 : Int) ≤ (en.length : Int) := by omega
  have i2 : (en.length : Int) ≤ (cy : Int) ∨ em.length < en.length := by omega
  go_wp2_with fail
  by_cases c1 : em.length < en.length
  · have c1' : ¬ (en.length : Int) ≤ (em.length : Int) := by omega
    refine sched_begin NoB (by kernel_rfl) ?_
    refine sched_take 0 rfl (by kernel_rfl) (by kernel_rfl) (by kernel_rfl) (fun _ _ _ h => h) rfl (fun x hx => by go_simp; rfl) ?_
    go_simp
    refine sched_take 1 rfl (by kernel_rfl) (by kernel_rfl) (by kernel_rfl) (fun _ _ _ h => h) rfl (fun x hx => by go_simp; rfl) ?_
    go_simp
    refine sched_take 2 rfl (by kernel_rfl) (by kernel_rfl) (by kernel_rfl) (fun _ _ _ h => h) rfl (fun x hx => by go_simp; rfl) ?_
    go_simp
    refine sched_take 3 rfl (by kernel_rfl) (by kernel_rfl) (by kernel_rfl) (fun _ _ _ h => h) rfl (fun x hx => by go_simp; rfl) ?_
    go_simp
    refine sched_take 4 rfl (by kernel_rfl) (by kernel_rfl) (by kernel_rfl) (fun _ _ _ h => h) rfl (fun x hx => by go_simp; rfl) ?_
    go_simp
    refine sched_take 5 rfl (by kernel_rfl) (by kernel_rfl) (by kernel_rfl) (fun _ _ _ h => h) rfl (fun x hx => by go_simp; rfl) ?_
    go_simp
    refine sched_skip 6 rfl (by kernel_rfl) (by kernel_rfl) (by kernel_rfl) (fun _ _ _ h => h) rfl ?_
    go_simp
    refine sched_skip 7 rfl (by kernel_rfl) (by kernel_rfl) (by kernel_rfl) (fun _ _ _ h => h) rfl ?_
    go_simp
    refine sched_skip 8 rfl (by kernel_rfl) (by kernel_rfl) (by kernel_rfl) (fun _ _ _ h => h) rfl ?_
    go_simp
    refine sched_take 9 rfl (by kernel_rfl) (by kernel_rfl) (by kernel_rfl) (fun _ _ _ h => h) rfl (fun x hx => by go_simp; rfl) ?_
    go_simp
    refine sched_take 10 rfl (by kernel_rfl) (by kernel_rfl) (by kernel_rfl) (fun _ _ _ h => h) rfl (fun x hx => by go_simp; rfl) ?_
    go_simp
    refine sched_skip 11 rfl (by kernel_rfl) (by kernel_rfl) (by kernel_rfl) (fun _ _ _ h => h) rfl ?_
    go_simp
    refine sched_skip 12 rfl (by kernel_rfl) (by kernel_rfl) (by kernel_rfl) (fun _ _ _ h => h) rfl ?_
    go_simp
    refine sched_skip 13 rfl (by kernel_rfl) (by kernel_rfl) (by kernel_rfl) (fun _ _ _ h => h) rfl ?_
    go_simp
    refine sched_skip 14 rfl (by kernel_rfl) (by kernel_rfl) (by kernel_rfl) (fun _ _ _ h => h) rfl ?_
    go_simp
    refine sched_skip 15 rfl (by kernel_rfl) (by kernel_rfl) (by kernel_rfl) (fun _ _ _ h => h) rfl ?_
    go_simp
    refine sched_skip 16 rfl (by kernel_rfl) (by kernel_rfl) (by kernel_rfl) (fun _ _ _ h => h) rfl ?_
    go_simp
    refine sched_skip 17 rfl (by kernel_rfl) (by kernel_rfl) (by kernel_rfl) (fun _ _ _ h => h) rfl ?_
    go_simp
    refine sched_skip 18 rfl (by kernel_rfl) (by kernel_rfl) (by kernel_rfl) (fun _ _ _ h => h) rfl ?_
    go_simp
    refine sched_take 19 rfl (by kernel_rfl) (by kernel_rfl) (by kernel_rfl) (fun _ _ _ h => h) rfl (fun x hx => by go_simp; rfl) ?_
    go_simp
    refine sched_done (by kernel_rfl) ?_
    go_wp2_with (first
      | (at_builtin; go_must (refine app_all (r := Rep.byte) rfl _ _ 53 5 (.int .u8 0) 1 rfl Try.underlying53 i5 rfl (by decide) rfl rfl H0.out HB.out HX1.out (fun cs hc => by rw [rows_bytes_eq hc]; exact Rows_bytes _ _ _) (by simp; omega) ?_)))
    intro v4 w4 ho4 hu4
    have ua : Upd NoB w2 (w2.alloc (.cells #[] 5)).drew := ((Upd.refl NoB w2).alloc _).drew
    have hu4' : Upd NoB w2 w4 := ua.then hu4 (fun i hi e => by simp [Value.ownBlock] at e; omega)
    have hob : OSl Rep.byte 5 w4 (grow NoB w2 w4) v4 en := ho4.mono (fun b hb => ⟨.inr (by
      rcases hb.1 with e | e
      · rw [show b = w2.heap.size from e]; exact Nat.le_refl _
      · exact Nat.le_trans ua.size e), hb.2⟩)
    have HO4 := Lib.hid hob
    have HU4 := Lib.hid (HU2.out.trans hu4')
    have HB4 := Lib.hid (Bd.grow NoB w2 w4)
    clear ho4 hu4 ua hu4' hob
    go_wp2_with fail
    refine (HF.out _ HU4.out).mono ?_
    rintro e w5 ⟨v5, rfl, h5, rfl⟩
    have hl5 : (l.take 200).length ≤ 200 := by rw [List.length_take]; omega
    generalize hL5 : l.take 200 = L5 at *
    have H5 := Lib.hid h5
    clear h5
    go_wp2_with (first
      | (at_builtin; go_must (refine app_all (r := Rep.byte) rfl _ _ 53 5 (.int .u8 0) 1 rfl Try.underlying53 i5 rfl (by decide) rfl rfl HO4.out HB4.out H5.out (fun cs hc => by rw [rows_bytes_eq hc]; exact Rows_bytes _ _ _) (by simp; omega) ?_)))
    intro v6 w6 ho6 hu6
    have hu6' : Upd NoB w w6 := HU4.out.then hu6 (fun i hi e => by
      obtain ⟨_, _, hset, _⟩ := HO4.out
      have := (hset i e).1.resolve_left (fun h => h)
      have := HU2.out.size
      omega)
    have hN := Lib.hid (new_any v6 (en ++ L5) w6 ho6.read (by rw [List.length_append]; omega))
    have HU6 := Lib.hid hu6'
    clear ho6 hu6 hu6' HO4 HU4 HB4 H5
    go_wp2_with fail
    refine hN.out.mono ?_
    rintro e w7 ⟨p, rfl, hp1, hp2, hr, hu⟩
    have hN2 := n_any p _ w7 hr
    rw [HM.out L5] at hN2
    have HN := Lib.hid hN2
    have HU7 := Lib.hid (HU6.out.trans hu)
    have hp0 : w.heap.size ≤ p := Nat.le_trans HU6.out.size hp1
    clear hr hu hN2 hN
    go_wp2_with fail
    refine HN.out.mono ?_
    rintro e w8 ⟨rfl, ha⟩
    have HL := Lib.hid (show Calls Try.prog 44 #[.pointer (some ⟨p, 0, none⟩)] w8 fun e w' => e = .returned (.int .i64 (L5.length : Int)) ∧ w8 = w' from left_any p _ w8 ha.1)
    have HU8 := Lib.hid (show Upd NoB w w8 from HU7.out.then ha.2 (fun i hi e => by have : i = p := e; omega))
    clear ha HN
    go_wp2_with fail
    refine HL.out.mono ?_
    rintro e w9 ⟨rfl, rfl⟩
    go_wp2_with fail
    refine (HF.out _ HU8.out).mono ?_
    rintro e w9 ⟨v9, rfl, h9, rfl⟩
    obtain ⟨A9, c9, cs9, rfl, p1, p2, _⟩ := id h9
    clear h9
    go_wp2_with fail
    refine (awake_any _).mono ?_
    rintro e w9 ⟨rfl, hu9⟩
    have HU9 := Lib.hid hu9
    clear hu9
    go_wp2_with fail
    go_ret
    exact ⟨rfl, HU8.out.trans HU9.out⟩
  · have c1' : (en.length : Int) ≤ (em.length : Int) := by omega
    by_cases c2 : n = m
    · have c2' : ((n : Int) == (m : Int)) = true := by simp [c2]
      have c3' : ((n : Int) != (m : Int)) = false := by simp [c2]
      refine sched_begin NoB (by kernel_rfl) ?_
      refine sched_take 0 rfl (by kernel_rfl) (by kernel_rfl) (by kernel_rfl) (fun _ _ _ h => h) rfl (fun x hx => by go_simp; rfl) ?_
      go_simp
      refine sched_take 1 rfl (by kernel_rfl) (by kernel_rfl) (by kernel_rfl) (fun _ _ _ h => h) rfl (fun x hx => by go_simp; rfl) ?_
      go_simp
      refine sched_take 2 rfl (by kernel_rfl) (by kernel_rfl) (by kernel_rfl) (fun _ _ _ h => h) rfl (fun x hx => by go_simp; rfl) ?_
      go_simp
      refine sched_take 3 rfl (by kernel_rfl) (by kernel_rfl) (by kernel_rfl) (fun _ _ _ h => h) rfl (fun x hx => by go_simp; rfl) ?_
      go_simp
      refine sched_take 4 rfl (by kernel_rfl) (by kernel_rfl) (by kernel_rfl) (fun _ _ _ h => h) rfl (fun x hx => by go_simp; rfl) ?_
      go_simp
      refine sched_take 5 rfl (by kernel_rfl) (by kernel_rfl) (by kernel_rfl) (fun _ _ _ h => h) rfl (fun x hx => by go_simp; rfl) ?_
      go_simp
      refine sched_take 6 rfl (by kernel_rfl) (by kernel_rfl) (by kernel_rfl) (fun _ _ _ h => h) rfl (fun x hx => by go_simp; rfl) ?_
      go_simp
      refine sched_take 7 rfl (by kernel_rfl) (by kernel_rfl) (by kernel_rfl) (fun _ _ _ h => h) rfl (fun x hx => by go_simp; rfl) ?_
      go_simp
      refine sched_take 8 rfl (by kernel_rfl) (by kernel_rfl) (by kernel_rfl) (fun _ _ _ h => h) rfl (fun x hx => by go_simp; rfl) ?_
      go_simp
      refine sched_take 9 rfl (by kernel_rfl) (by kernel_rfl) (by kernel_rfl) (fun _ _ _ h => h) rfl (fun x hx => by go_simp; rfl) ?_
      go_simp
      refine sched_take 10 rfl (by kernel_rfl) (by kernel_rfl) (by kernel_rfl) (fun _ _ _ h => h) rfl (fun x hx => by go_simp; rfl) ?_
      go_simp
      refine sched_skip 11 rfl (by kernel_rfl) (by kernel_rfl) (by kernel_rfl) (fun _ _ _ h => h) rfl ?_
      go_simp
      refine sched_skip 12 rfl (by kernel_rfl) (by kernel_rfl) (by kernel_rfl) (fun _ _ _ h => h) rfl ?_
      go_simp
      refine sched_skip 13 rfl (by kernel_rfl) (by kernel_rfl) (by kernel_rfl) (fun _ _ _ h => h) rfl ?_
      go_simp
      refine sched_skip 14 rfl (by kernel_rfl) (by kernel_rfl) (by kernel_rfl) (fun _ _ _ h => h) rfl ?_
      go_simp
      refine sched_skip 15 rfl (by kernel_rfl) (by kernel_rfl) (by kernel_rfl) (fun _ _ _ h => h) rfl ?_
      go_simp
      refine sched_skip 16 rfl (by kernel_rfl) (by kernel_rfl) (by kernel_rfl) (fun _ _ _ h => h) rfl ?_
      go_simp
      refine sched_skip 17 rfl (by kernel_rfl) (by kernel_rfl) (by kernel_rfl) (fun _ _ _ h => h) rfl ?_
      go_simp
      refine sched_skip 18 rfl (by kernel_rfl) (by kernel_rfl) (by kernel_rfl) (fun _ _ _ h => h) rfl ?_
      go_simp
      refine sched_take 19 rfl (by kernel_rfl) (by kernel_rfl) (by kernel_rfl) (fun _ _ _ h => h) rfl (fun x hx => by go_simp; rfl) ?_
      go_simp
      refine sched_done (by kernel_rfl) ?_
      go_wp2_with (first
        | (at_builtin; go_must (refine app_all (r := Rep.byte) rfl _ _ 53 5 (.int .u8 0) 1 rfl Try.underlying53 i5 rfl (by decide) rfl rfl H0.out HB.out HX1.out (fun cs hc => by rw [rows_bytes_eq hc]; exact Rows_bytes _ _ _) (by simp; omega) ?_)))
      intro v4 w4 ho4 hu4
      have ua : Upd NoB w2 (w2.alloc (.cells #[] 5)).drew := ((Upd.refl NoB w2).alloc _).drew
      have hu4' : Upd NoB w2 w4 := ua.then hu4 (fun i hi e => by simp [Value.ownBlock] at e; omega)
      have hob : OSl Rep.byte 5 w4 (grow NoB w2 w4) v4 en := ho4.mono (fun b hb => ⟨.inr (by
        rcases hb.1 with e | e
        · rw [show b = w2.heap.size from e]; exact Nat.le_refl _
        · exact Nat.le_trans ua.size e), hb.2⟩)
      have HO4 := Lib.hid hob
      have HU4 := Lib.hid (HU2.out.trans hu4')
      have HB4 := Lib.hid (Bd.grow NoB w2 w4)
      clear ho4 hu4 ua hu4' hob
      go_wp2_with fail
      refine (HF.out _ HU4.out).mono ?_
      rintro e w5 ⟨v5, rfl, h5, rfl⟩
      have hl5 : (l.take 200).length ≤ 200 := by rw [List.length_take]; omega
      generalize hL5 : l.take 200 = L5 at *
      have H5 := Lib.hid h5
      clear h5
      go_wp2_with (first
        | (at_builtin; go_must (refine app_all (r := Rep.byte) rfl _ _ 53 5 (.int .u8 0) 1 rfl Try.underlying53 i5 rfl (by decide) rfl rfl HO4.out HB4.out H5.out (fun cs hc => by rw [rows_bytes_eq hc]; exact Rows_bytes _ _ _) (by simp; omega) ?_)))
      intro v6 w6 ho6 hu6
      have hu6' : Upd NoB w w6 := HU4.out.then hu6 (fun i hi e => by
        obtain ⟨_, _, hset, _⟩ := HO4.out
        have := (hset i e).1.resolve_left (fun h => h)
        have := HU2.out.size
        omega)
      have hN := Lib.hid (new_any v6 (en ++ L5) w6 ho6.read (by rw [List.length_append]; omega))
      have HU6 := Lib.hid hu6'
      clear ho6 hu6 hu6' HO4 HU4 HB4 H5
      go_wp2_with fail
      refine hN.out.mono ?_
      rintro e w7 ⟨p, rfl, hp1, hp2, hr, hu⟩
      have hN2 := n_any p _ w7 hr
      rw [HM.out L5] at hN2
      have HN := Lib.hid hN2
      have HU7 := Lib.hid (HU6.out.trans hu)
      have hp0 : w.heap.size ≤ p := Nat.le_trans HU6.out.size hp1
      clear hr hu hN2 hN
      go_wp2_with fail
      refine HN.out.mono ?_
      rintro e w8 ⟨rfl, ha⟩
      have HL := Lib.hid (show Calls Try.prog 44 #[.pointer (some ⟨p, 0, none⟩)] w8 fun e w' => e = .returned (.int .i64 (L5.length : Int)) ∧ w8 = w' from left_any p _ w8 ha.1)
      have HU8 := Lib.hid (show Upd NoB w w8 from HU7.out.then ha.2 (fun i hi e => by have : i = p := e; omega))
      clear ha HN
      go_wp2_with fail
      refine HL.out.mono ?_
      rintro e w9 ⟨rfl, rfl⟩
      go_wp2_with fail
      refine (HF.out _ HU8.out).mono ?_
      rintro e w9 ⟨v9, rfl, h9, rfl⟩
      obtain ⟨A9, c9, cs9, rfl, p1, p2, _⟩ := id h9
      clear h9
      go_wp2_with fail
      refine (awake_any _).mono ?_
      rintro e w9 ⟨rfl, hu9⟩
      have HU9 := Lib.hid hu9
      clear hu9
      go_wp2_with fail
      go_ret
      exact ⟨rfl, HU8.out.trans HU9.out⟩
    · have c2' : ((n : Int) == (m : Int)) = false := by simp; omega
      have c3' : ((n : Int) != (m : Int)) = true := by simp; omega
      have i3 : (en.length : Int) ≤ (cy : Int) := by omega
      have hst := HAP.out c2
      refine sched_begin NoB (by kernel_rfl) ?_
      refine sched_take 0 rfl (by kernel_rfl) (by kernel_rfl) (by kernel_rfl) (fun _ _ _ h => h) rfl (fun x hx => by go_simp; rfl) ?_
      go_simp
      refine sched_take 1 rfl (by kernel_rfl) (by kernel_rfl) (by kernel_rfl) (fun _ _ _ h => h) rfl (fun x hx => by go_simp; rfl) ?_
      go_simp
      refine sched_take 2 rfl (by kernel_rfl) (by kernel_rfl) (by kernel_rfl) (fun _ _ _ h => h) rfl (fun x hx => by go_simp; rfl) ?_
      go_simp
      refine sched_take 3 rfl (by kernel_rfl) (by kernel_rfl) (by kernel_rfl) (fun _ _ _ h => h) rfl (fun x hx => by go_simp; rfl) ?_
      go_simp
      refine sched_take 4 rfl (by kernel_rfl) (by kernel_rfl) (by kernel_rfl) (fun _ _ _ h => h) rfl (fun x hx => by go_simp; rfl) ?_
      go_simp
      refine sched_take 5 rfl (by kernel_rfl) (by kernel_rfl) (by kernel_rfl) (fun _ _ _ h => h) rfl (fun x hx => by go_simp; rfl) ?_
      go_simp
      refine sched_take 6 rfl (by kernel_rfl) (by kernel_rfl) (by kernel_rfl) (fun _ _ _ h => h) rfl (fun x hx => by go_simp; rfl) ?_
      go_simp
      refine sched_take 7 rfl (by kernel_rfl) (by kernel_rfl) (by kernel_rfl) (fun _ _ _ h => h) rfl (fun x hx => by go_simp; rfl) ?_
      go_simp
      refine sched_take 8 rfl (by kernel_rfl) (by kernel_rfl) (by kernel_rfl) (fun _ _ _ h => h) rfl (fun x hx => by go_simp; rfl) ?_
      go_simp
      refine sched_take 9 rfl (by kernel_rfl) (by kernel_rfl) (by kernel_rfl) (fun _ _ _ h => h) rfl (fun x hx => by go_simp; rfl) ?_
      go_simp
      refine sched_take 10 rfl (by kernel_rfl) (by kernel_rfl) (by kernel_rfl) (fun _ _ _ h => h) rfl (fun x hx => by go_simp; rfl) ?_
      go_simp
      refine sched_take 11 rfl (by kernel_rfl) (by kernel_rfl) (by kernel_rfl) (fun _ _ _ h => h) rfl (fun x hx => by go_simp; rfl) ?_
      go_simp
      refine sched_take 12 rfl (by kernel_rfl) (by kernel_rfl) (by kernel_rfl) (fun _ _ _ h => h) rfl (fun x hx => by have hcv := conv9 (HX2.out.upd (((Upd.refl NoB w2).drew).trans hx) (fun _ _ h => h)); go_simp; rfl) ?_
      go_simp
      refine sched_take 13 rfl (by kernel_rfl) (by kernel_rfl) (by kernel_rfl) (fun _ _ _ h => h) rfl (fun x hx => by go_simp; rfl) ?_
      go_simp
      refine sched_take 14 rfl (by kernel_rfl) (by kernel_rfl) (by kernel_rfl) (fun _ _ _ h => h) rfl (fun x hx => by go_simp; rfl) ?_
      go_simp
      refine sched_take 15 rfl (by kernel_rfl) (by kernel_rfl) (by kernel_rfl) (fun _ _ _ h => h) rfl (fun x hx => by go_simp; rfl) ?_
      go_simp
      refine sched_take 16 rfl (by kernel_rfl) (by kernel_rfl) (by kernel_rfl) (fun _ _ _ h => h) rfl (fun x hx => by go_simp; rfl) ?_
      go_simp
      refine sched_take 17 rfl (by kernel_rfl) (by kernel_rfl) (by kernel_rfl) (fun _ _ _ h => h) rfl (fun x hx => by have hcv := conv9 ((HY.out.upd (((Upd.refl NoB w2).drew).trans hx) (fun _ _ h => h)).pre en.length (by omega) (c' := cy) (by omega) (Nat.le_refl _)); go_simp; rfl) ?_
      go_simp
      have hstb : ((strOf en).toList == (strOf (em.take en.length)).toList) = false := by
        rw [beq_eq_false_iff_ne]
        intro h
        rw [ByteArray.toList_eq, ByteArray.toList_eq] at h
        exact hst h
      refine sched_take 18 rfl (by kernel_rfl) (by kernel_rfl) (by kernel_rfl) (fun _ _ _ h => h) rfl (fun x hx => by go_simp; rfl) ?_
      go_simp
      refine sched_take 19 rfl (by kernel_rfl) (by kernel_rfl) (by kernel_rfl) (fun _ _ _ h => h) rfl (fun x hx => by go_simp; rfl) ?_
      go_simp
      refine sched_done (by kernel_rfl) ?_
      go_wp2_with (first
        | (at_builtin; go_must (refine app_all (r := Rep.byte) rfl _ _ 53 5 (.int .u8 0) 1 rfl Try.underlying53 i5 rfl (by decide) rfl rfl H0.out HB.out HX1.out (fun cs hc => by rw [rows_bytes_eq hc]; exact Rows_bytes _ _ _) (by simp; omega) ?_)))
      intro v4 w4 ho4 hu4
      have ua : Upd NoB w2 (w2.alloc (.cells #[] 5)).drew := ((Upd.refl NoB w2).alloc _).drew
      have hu4' : Upd NoB w2 w4 := ua.then hu4 (fun i hi e => by simp [Value.ownBlock] at e; omega)
      have hob : OSl Rep.byte 5 w4 (grow NoB w2 w4) v4 en := ho4.mono (fun b hb => ⟨.inr (by
        rcases hb.1 with e | e
        · rw [show b = w2.heap.size from e]; exact Nat.le_refl _
        · exact Nat.le_trans ua.size e), hb.2⟩)
      have HO4 := Lib.hid hob
      have HU4 := Lib.hid (HU2.out.trans hu4')
      have HB4 := Lib.hid (Bd.grow NoB w2 w4)
      clear ho4 hu4 ua hu4' hob
      go_wp2_with fail
      refine (HF.out _ HU4.out).mono ?_
      rintro e w5 ⟨v5, rfl, h5, rfl⟩
      have hl5 : (l.take 200).length ≤ 200 := by rw [List.length_take]; omega
      generalize hL5 : l.take 200 = L5 at *
      have H5 := Lib.hid h5
      clear h5
      go_wp2_with (first
        | (at_builtin; go_must (refine app_all (r := Rep.byte) rfl _ _ 53 5 (.int .u8 0) 1 rfl Try.underlying53 i5 rfl (by decide) rfl rfl HO4.out HB4.out H5.out (fun cs hc => by rw [rows_bytes_eq hc]; exact Rows_bytes _ _ _) (by simp; omega) ?_)))
      intro v6 w6 ho6 hu6
      have hu6' : Upd NoB w w6 := HU4.out.then hu6 (fun i hi e => by
        obtain ⟨_, _, hset, _⟩ := HO4.out
        have := (hset i e).1.resolve_left (fun h => h)
        have := HU2.out.size
        omega)
      have hN := Lib.hid (new_any v6 (en ++ L5) w6 ho6.read (by rw [List.length_append]; omega))
      have HU6 := Lib.hid hu6'
      clear ho6 hu6 hu6' HO4 HU4 HB4 H5
      go_wp2_with fail
      refine hN.out.mono ?_
      rintro e w7 ⟨p, rfl, hp1, hp2, hr, hu⟩
      have hN2 := n_any p _ w7 hr
      rw [HM.out L5] at hN2
      have HN := Lib.hid hN2
      have HU7 := Lib.hid (HU6.out.trans hu)
      have hp0 : w.heap.size ≤ p := Nat.le_trans HU6.out.size hp1
      clear hr hu hN2 hN
      go_wp2_with fail
      refine HN.out.mono ?_
      rintro e w8 ⟨rfl, ha⟩
      have HL := Lib.hid (show Calls Try.prog 44 #[.pointer (some ⟨p, 0, none⟩)] w8 fun e w' => e = .returned (.int .i64 (L5.length : Int)) ∧ w8 = w' from left_any p _ w8 ha.1)
      have HU8 := Lib.hid (show Upd NoB w w8 from HU7.out.then ha.2 (fun i hi e => by have : i = p := e; omega))
      clear ha HN
      go_wp2_with fail
      refine HL.out.mono ?_
      rintro e w9 ⟨rfl, rfl⟩
      go_wp2_with fail
      refine (HF.out _ HU8.out).mono ?_
      rintro e w9 ⟨v9, rfl, h9, rfl⟩
      obtain ⟨A9, c9, cs9, rfl, p1, p2, _⟩ := id h9
      clear h9
      go_wp2_with fail
      refine (awake_any _).mono ?_
      rintro e w9 ⟨rfl, hu9⟩
      have HU9 := Lib.hid hu9
      clear hu9
      go_wp2_with fail
      go_ret
      exact ⟨rfl, HU8.out.trans HU9.out⟩
end Go.Proofs.Ytflifeelgamaaaa
