/- Versions, function by function (2): are they an object's? -/
import Derived.Test.YtcckljomjpfdaaaObj1
namespace Go.Proofs.Ytcckljomjpfdaaa
open Go.RowKit Kit
set_option linter.unusedVariables false

/-- May x stand behind y? -/
def nextB (y x : Ver) : Bool := decide (y.at_ < x.at_) && decide (y.num + 1 = x.num)
def oneB (x : Ver) : Bool := decide (1 ≤ x.at_) && (decide (x.num ≠ 0) && mayB x.val x.gone)
def okAt (l : List Ver) (k : Nat) : Bool := match l[k]? with
  | none => true
  | some x => oneB x && (match k with
    | 0 => true
    | j + 1 => match l[j]? with
      | none => true
      | some y => nextB y x)
def rgp (l : List Ver) : Nat → Bool
  | 0 => true
  | k + 1 => rgp l k && okAt l k
def rightB (l : List Ver) : Bool := rgp l l.length
theorem rgp_no (l : List Ver) (k n : Nat) (h : rgp l k = false) (hn : k ≤ n) : rgp l n = false := by
  induction n with
  | zero => obtain rfl : k = 0 := by omega
            exact h
  | succ n ih =>
    by_cases e : k = n + 1
    · exact e ▸ h
    · unfold rgp
      rw [ih (by omega)]
      rfl
theorem okAt_zero (l : List Ver) (x : Ver) (h : l[0]? = some x) : okAt l 0 = oneB x := by
  unfold okAt
  rw [h]
  simp
theorem okAt_succ (l : List Ver) (j : Nat) (x y : Ver) (h : l[j + 1]? = some x) (h' : l[j]? = some y) : okAt l (j + 1) = (oneB x && nextB y x) := by
  unfold okAt
  rw [h]
  simp only [h']
/-- What the walk asks of the place k. -/
theorem right_cases (l : List Ver) (k : Nat) (x : Ver) (hk : l[k]? = some x) (hp : rgp l k = true) :
    (x.at_ < 1 ∧ rightB l = false) ∨ (1 ≤ x.at_ ∧ x.num = 0 ∧ rightB l = false) ∨ (1 ≤ x.at_ ∧ x.num ≠ 0 ∧ mayB x.val x.gone = false ∧ rightB l = false) ∨
    (1 ≤ x.at_ ∧ x.num ≠ 0 ∧ mayB x.val x.gone = true ∧ k = 0 ∧ rgp l (k + 1) = true) ∨
    (1 ≤ x.at_ ∧ x.num ≠ 0 ∧ mayB x.val x.gone = true ∧ 0 < k ∧ ∃ y, l[k - 1]? = some y ∧ ((x.at_ ≤ y.at_ ∧ rightB l = false) ∨ (y.at_ < x.at_ ∧ y.num + 1 ≠ x.num ∧ rightB l = false) ∨ (y.at_ < x.at_ ∧ y.num + 1 = x.num ∧ rgp l (k + 1) = true))) := by
  have hlt := (List.getElem?_eq_some_iff.1 hk).1
  have bad : okAt l k = false → rightB l = false := fun h => rgp_no l (k + 1) l.length (by unfold rgp; rw [hp, h]; rfl) hlt
  have good : okAt l k = true → rgp l (k + 1) = true := fun h => by unfold rgp; rw [hp, h]; rfl
  have one : okAt l k = true → oneB x = true := fun h => by
    cases k with
    | zero => rw [okAt_zero l x hk] at h; exact h
    | succ j =>
      have hj : l[j]? = some l[j] := List.getElem?_eq_getElem (by omega)
      rw [okAt_succ l j x _ hk hj] at h
      simp at h
      exact h.1
  have bad1 : oneB x = false → rightB l = false := fun h => bad (by cases e : okAt l k; · rfl
                                                                    · rw [one e] at h; cases h)
  by_cases h1 : 1 ≤ x.at_
  · by_cases h2 : x.num = 0
    · exact .inr (.inl ⟨h1, h2, bad1 (by unfold oneB; simp [h2])⟩)
    · cases h3 : mayB x.val x.gone
      · exact .inr (.inr (.inl ⟨h1, h2, rfl, bad1 (by unfold oneB; simp [h3])⟩))
      · have ho : oneB x = true := by unfold oneB; simp [h1, h2, h3]
        cases k with
        | zero => exact .inr (.inr (.inr (.inl ⟨h1, h2, rfl, rfl, good (by rw [okAt_zero l x hk, ho])⟩)))
        | succ j =>
          have hj : l[j]? = some l[j] := List.getElem?_eq_getElem (by omega)
          have hoj := okAt_succ l j x _ hk hj
          rw [ho, Bool.true_and] at hoj
          refine .inr (.inr (.inr (.inr ⟨h1, h2, rfl, by omega, l[j], hj, ?_⟩)))
          by_cases a : l[j].at_ < x.at_
          · by_cases b : l[j].num + 1 = x.num
            · exact .inr (.inr ⟨a, b, good (by rw [hoj]; unfold nextB; simp [a, b])⟩)
            · exact .inr (.inl ⟨a, b, bad (by rw [hoj]; unfold nextB; simp [b])⟩)
          · exact .inl ⟨by omega, bad (by rw [hoj]; unfold nextB; simp [a])⟩
  · exact .inl ⟨by omega, bad1 (by unfold oneB; simp [h1])⟩

set_option maxHeartbeats 8000000 in
set_option maxRecDepth 100000 in
theorem right_obj {S : Nat → Prop} (v : Value) (l : List Ver) (w : World) (h : RSl Rep.ver w S v l) (hl : l.length ≤ 1000) :
    Calls Try.prog 27 #[.agg #[v]] w fun e w' => e = .returned (.bool (rightB l)) ∧ Upd NoB w w' := by
  have HX := Lib.hid h
  obtain ⟨A, c, cs, rfl, d1, d2, _⟩ := h
  have d2' : c ≤ 9223372036854775807 := d2
  have hB0 := Lib.hid (heap_alloc_new w (.cells #[.slice A l.length c] 44 (0, 0)))
  go_enter Try.func27, Try.ntmps27
  go_wp2_with fail
  go_loopw [3, 4, 8] (fun x3 x4 i wr => ∃ k : Nat, k ≤ l.length ∧ i = .int .i64 k ∧ Hid (rgp l k = true) ∧ Hid (Upd NoB (w.alloc (.cells #[.slice A l.length c] 44)) wr)) (fun _ _ i _ => l.length - (intOf i).toNat)
  case atStart => exact ⟨0, by omega, rfl, Lib.hid rfl, Lib.hid (Upd.refl _ _)⟩
  case round =>
    obtain ⟨k, hk, rfl, hP, hU⟩ := hrel
    by_cases hlt : k < l.length
    · have hu0 := Lib.hid (((Upd.refl NoB w).alloc (.cells #[.slice A l.length c] 44)).trans hU.out)
      obtain ⟨g, o, rcs, rfl, hrep, hcs, hg⟩ := HX.out.cellN k hlt
      obtain ⟨hr1, hr2, hr3, hr4⟩ := hrep
      subst hr1
      have c0 : wr.cell? ⟨g, o + k * 4, none⟩ = some (.int .i64 l[k].at_) := hu0.out.cell (hcs 0 _ rfl) (fun h => h)
      have c1 : wr.cell? ⟨g, o + k * 4 + 1, none⟩ = some (.int .u64 l[k].num) := hu0.out.cell (hcs 1 _ rfl) (fun h => h)
      have c2 : wr.cell? ⟨g, o + k * 4 + 2, none⟩ = some (.string l[k].val) := hu0.out.cell (hcs 2 _ rfl) (fun h => h)
      have c3 : wr.cell? ⟨g, o + k * 4 + 3, none⟩ = some (.bool l[k].gone) := hu0.out.cell (hcs 3 _ rfl) (fun h => h)
      have hlk := List.getElem?_eq_getElem hlt
      have hcases := right_cases l k l[k] hlk hP.out
      generalize l[k] = x at *
      obtain ⟨xa, xn, xv, xg⟩ := x
      simp only at c0 c1 c2 c3 hcases hr2 hr3 hr4
      have hval := Lib.hid (fun w => value_any xv xg w hr4)
      have HCS := Lib.hid (fun j (hj : j < l.length) => (HX.out.cellN j hj))
      obtain ⟨b1, hb1⟩ : ∃ b1, wr.heap.size = b1 := ⟨_, rfl⟩
      obtain ⟨wa, hwa⟩ : ∃ wa, wr.alloc (.cells #[.int .i64 xa, .int .u64 xn, .string xv, .bool xg] 50) = wa := ⟨_, rfl⟩
      have hUa := Lib.hid (show Upd NoB (w.alloc (.cells #[.slice (some ⟨g, o, none⟩) l.length c] 44)) wa by rw [← hwa]; exact hU.out.alloc _)
      have hub := Lib.hid (show Upd NoB w wa from ((Upd.refl NoB w).alloc _).trans hUa.out)
      have hBa := Lib.hid (show wa.heap[b1]? = some (.cells #[.int .i64 xa, .int .u64 xn, .string xv, .bool xg] 50 (0, 0)) by rw [← hwa, ← hb1]; exact heap_alloc_new _ _)
      have e0 : wa.cell? ⟨b1, 0, none⟩ = some (.int .i64 xa) := by simp [World.cell?, hBa.out]
      have e1 : wa.cell? ⟨b1, 1, none⟩ = some (.int .u64 xn) := by simp [World.cell?, hBa.out]
      have e2 : wa.cell? ⟨b1, 2, none⟩ = some (.string xv) := by simp [World.cell?, hBa.out]
      have e3 : wa.cell? ⟨b1, 3, none⟩ = some (.bool xg) := by simp [World.cell?, hBa.out]
      have q0 := Lib.hid (show wa.cell? ⟨w.heap.size, 0, none⟩ = some (.slice (some ⟨g, o, none⟩) l.length c) from hUa.out.cell (by simp only [World.cell?, hB0.out]; rfl) (fun h => h))
      have E0 := Lib.hid e0
      have E1 := Lib.hid e1
      clear hcs hlk
      rcases hcases with ⟨h1, hR⟩ | ⟨h1, h2, hR⟩ | ⟨h1, h2, h3, hR⟩ | ⟨h1, h2, h3, h4, hR⟩ | ⟨h1, h2, h3, h4, y, hy, hR⟩
      · have hR := Lib.hid hR
        go_wp2_with fail
        go_ret
        exact ⟨by rw [hR.out]; rfl, hub.out⟩
      · have hR := Lib.hid hR
        have hd1 : decide (xa < 1) = false := decide_eq_false (by omega)
        have hd2 : decide ((xn : Int) < 1) = true := decide_eq_true (by omega)
        have hd3 : (xn : Int) < 1 := by omega
        clear h2
        go_wp2_with fail
        go_ret
        exact ⟨by rw [hR.out]; rfl, hub.out⟩
      · have hR := Lib.hid hR
        have hd1 : decide (xa < 1) = false := decide_eq_false (by omega)
        have hd2 : decide ((xn : Int) < 1) = false := decide_eq_false (by omega)
        have hd3 : (1 : Int) ≤ (xn : Int) := by omega
        rw [h3] at hval
        clear h2 h3
        go_wp2_with fail
        refine (hval.out _).mono ?_
        rintro e w3 ⟨rfl, rfl⟩
        go_wp2_with fail
        go_ret
        exact ⟨by rw [hR.out]; rfl, hub.out⟩
      · have hR := Lib.hid hR
        have hd1 : decide (xa < 1) = false := decide_eq_false (by omega)
        have hd2 : decide ((xn : Int) < 1) = false := decide_eq_false (by omega)
        have hd3 : (1 : Int) ≤ (xn : Int) := by omega
        rw [h3] at hval
        have hd0 : decide ((0 : Int) < (k : Int)) = false := decide_eq_false (by omega)
        have hd0' : decide (0 < k) = false := decide_eq_false (by omega)
        clear h2 h3 h4
        go_wp2_with fail
        refine (hval.out _).mono ?_
        rintro e w3 ⟨rfl, rfl⟩
        go_wp2_with fail
        refine sched_begin NoB (by kernel_rfl) ?_
        refine sched_take 0 rfl (by kernel_rfl) (by kernel_rfl) (by kernel_rfl) (fun _ _ _ h => h) rfl (fun x hx => by go_simp; rfl) ?_
        go_simp
        refine sched_take 1 rfl (by kernel_rfl) (by kernel_rfl) (by kernel_rfl) (fun _ _ _ h => h) rfl (fun x hx => by go_simp; rfl) ?_
        go_simp
        refine sched_take 2 rfl (by kernel_rfl) (by kernel_rfl) (by kernel_rfl) (fun _ _ _ h => h) rfl (fun x hx => by go_simp; rfl) ?_
        go_simp
        refine sched_skip 3 rfl (by kernel_rfl) (by kernel_rfl) (by kernel_rfl) (fun _ _ _ h => h) rfl ?_
        go_simp
        refine sched_skip 4 rfl (by kernel_rfl) (by kernel_rfl) (by kernel_rfl) (fun _ _ _ h => h) rfl ?_
        go_simp
        refine sched_skip 5 rfl (by kernel_rfl) (by kernel_rfl) (by kernel_rfl) (fun _ _ _ h => h) rfl ?_
        go_simp
        refine sched_skip 6 rfl (by kernel_rfl) (by kernel_rfl) (by kernel_rfl) (fun _ _ _ h => h) rfl ?_
        go_simp
        refine sched_skip 7 rfl (by kernel_rfl) (by kernel_rfl) (by kernel_rfl) (fun _ _ _ h => h) rfl ?_
        go_simp
        refine sched_skip 8 rfl (by kernel_rfl) (by kernel_rfl) (by kernel_rfl) (fun _ _ _ h => h) rfl ?_
        go_simp
        refine sched_skip 9 rfl (by kernel_rfl) (by kernel_rfl) (by kernel_rfl) (fun _ _ _ h => h) rfl ?_
        go_simp
        refine sched_skip 10 rfl (by kernel_rfl) (by kernel_rfl) (by kernel_rfl) (fun _ _ _ h => h) rfl ?_
        go_simp
        refine sched_skip 11 rfl (by kernel_rfl) (by kernel_rfl) (by kernel_rfl) (fun _ _ _ h => h) rfl ?_
        go_simp
        refine sched_skip 12 rfl (by kernel_rfl) (by kernel_rfl) (by kernel_rfl) (fun _ _ _ h => h) rfl ?_
        go_simp
        refine sched_skip 13 rfl (by kernel_rfl) (by kernel_rfl) (by kernel_rfl) (fun _ _ _ h => h) rfl ?_
        go_simp
        refine sched_skip 14 rfl (by kernel_rfl) (by kernel_rfl) (by kernel_rfl) (fun _ _ _ h => h) rfl ?_
        go_simp
        refine sched_skip 15 rfl (by kernel_rfl) (by kernel_rfl) (by kernel_rfl) (fun _ _ _ h => h) rfl ?_
        go_simp
        refine sched_skip 16 rfl (by kernel_rfl) (by kernel_rfl) (by kernel_rfl) (fun _ _ _ h => h) rfl ?_
        go_simp
        refine sched_skip 17 rfl (by kernel_rfl) (by kernel_rfl) (by kernel_rfl) (fun _ _ _ h => h) rfl ?_
        go_simp
        refine sched_skip 18 rfl (by kernel_rfl) (by kernel_rfl) (by kernel_rfl) (fun _ _ _ h => h) rfl ?_
        go_simp
        refine sched_skip 19 rfl (by kernel_rfl) (by kernel_rfl) (by kernel_rfl) (fun _ _ _ h => h) rfl ?_
        go_simp
        refine sched_skip 20 rfl (by kernel_rfl) (by kernel_rfl) (by kernel_rfl) (fun _ _ _ h => h) rfl ?_
        go_simp
        refine sched_skip 21 rfl (by kernel_rfl) (by kernel_rfl) (by kernel_rfl) (fun _ _ _ h => h) rfl ?_
        go_simp
        refine sched_skip 22 rfl (by kernel_rfl) (by kernel_rfl) (by kernel_rfl) (fun _ _ _ h => h) rfl ?_
        go_simp
        refine sched_skip 23 rfl (by kernel_rfl) (by kernel_rfl) (by kernel_rfl) (fun _ _ _ h => h) rfl ?_
        go_simp
        refine sched_skip 24 rfl (by kernel_rfl) (by kernel_rfl) (by kernel_rfl) (fun _ _ _ h => h) rfl ?_
        go_simp
        refine sched_skip 25 rfl (by kernel_rfl) (by kernel_rfl) (by kernel_rfl) (fun _ _ _ h => h) rfl ?_
        go_simp
        refine sched_take 26 rfl (by kernel_rfl) (by kernel_rfl) (by kernel_rfl) (fun _ _ _ h => h) rfl (fun x hx => by go_simp; rfl) ?_
        go_simp
        refine sched_done (by kernel_rfl) ?_
        go_wp2_with fail
        go_roundw
        case measure => simp [intOf]; omega
        case rel => exact ⟨k + 1, by omega, by go_num, hR, Lib.hid hUa.out.drew⟩
      · have hylt := (List.getElem?_eq_some_iff.1 hy).1
        obtain ⟨g', o', ycs, e', hyrep, hycs, _⟩ := HCS.out (k - 1) hylt
        cases e'
        have hyy := (List.getElem?_eq_some_iff.1 hy).2
        obtain ⟨hy1, hy2, hy3, hy4⟩ := hyrep
        rw [hyy] at hy1 hy2 hy3 hy4
        subst hy1
        have Y0 := Lib.hid (show wa.drew.cell? ⟨g, o + (k - 1) * 4, none⟩ = some (.int .i64 y.at_) from hub.out.drew.cell (hycs 0 _ rfl) (fun h => h))
        have Y1 := Lib.hid (show wa.drew.cell? ⟨g, o + (k - 1) * 4 + 1, none⟩ = some (.int .u64 y.num) from hub.out.drew.cell (hycs 1 _ rfl) (fun h => h))
        have q0 := Lib.hid (show wa.drew.cell? ⟨w.heap.size, 0, none⟩ = some (.slice (some ⟨g, o, none⟩) l.length c) from q0.out)
        have E0 := Lib.hid (show wa.drew.cell? ⟨b1, 0, none⟩ = some (.int .i64 xa) from E0.out)
        have E1 := Lib.hid (show wa.drew.cell? ⟨b1, 1, none⟩ = some (.int .u64 xn) from E1.out)
        clear hycs hyy hy hylt hy4 hy2
        obtain ⟨ya, yn, yv, yg⟩ := y
        simp only at Y0 Y1 hR hy3
        have hx1 : IntKind.i64.wrap ((k : Int) - 1) = (k : Int) - 1 := by simp only [IntKind.wrap, IntKind.bits, IntKind.signed]; simp; omega
        have hx2 : ((k : Int) - 1).toNat = k - 1 := by omega
        have hx3 : (0 : Int) ≤ (k : Int) - 1 := by omega
        have hx4 : (k : Int) - 1 < (l.length : Int) := by omega
        have hx5 : (1 : Int) ≤ (k : Int) := by omega
        have hx6 : (0 : Int) < (k : Int) := by omega
        have hx7 : decide ((0 : Int) < (k : Int)) = true := decide_eq_true hx6
        have hx8 : 0 < k := by omega
        have hx9 : decide (0 < k) = true := decide_eq_true hx8
        have hd1 : decide (xa < 1) = false := decide_eq_false (by omega)
        have hd2 : decide ((xn : Int) < 1) = false := decide_eq_false (by omega)
        have hd3 : (1 : Int) ≤ (xn : Int) := by omega
        have hs1 : IntKind.u64.wrap ((xn : Int) - 1) = (xn : Int) - 1 := by simp only [IntKind.wrap, IntKind.bits, IntKind.signed]; simp; omega
        rw [h3] at hval
        rcases hR with ⟨r1, hR⟩ | ⟨r1, r2, hR⟩ | ⟨r1, r2, hR⟩
        · have hR := Lib.hid hR
          have hc1 : decide (xa ≤ ya) = true := decide_eq_true r1
          clear h2 h3 h4
          go_wp2_with fail
          refine (hval.out _).mono ?_
          rintro e w3 ⟨rfl, rfl⟩
          go_wp2_with fail
          refine sched_begin NoB (by kernel_rfl) ?_
          refine sched_take 0 rfl (by kernel_rfl) (by kernel_rfl) (by kernel_rfl) (fun _ _ _ h => h) rfl (fun x hx => by go_simp; rfl) ?_
          go_simp
          refine sched_take 1 rfl (by kernel_rfl) (by kernel_rfl) (by kernel_rfl) (fun _ _ _ h => h) rfl (fun x hx => by go_simp; rfl) ?_
          go_simp
          refine sched_take 2 rfl (by kernel_rfl) (by kernel_rfl) (by kernel_rfl) (fun _ _ _ h => h) rfl (fun x hx => by go_simp; rfl) ?_
          go_simp
          refine sched_take 3 rfl (by kernel_rfl) (by kernel_rfl) (by kernel_rfl) (fun _ _ _ h => h) rfl (fun x hx => by go_simp; rfl) ?_
          go_simp
          refine sched_take 4 rfl (by kernel_rfl) (by kernel_rfl) (by kernel_rfl) (fun _ _ _ h => h) rfl (fun x hx => by have hcx := hx.cell E0.out (fun h => h); go_simp; rfl) ?_
          go_simp
          refine sched_take 5 rfl (by kernel_rfl) (by kernel_rfl) (by kernel_rfl) (fun _ _ _ h => h) rfl (fun x hx => by go_simp; rfl) ?_
          go_simp
          refine sched_take 6 rfl (by kernel_rfl) (by kernel_rfl) (by kernel_rfl) (fun _ _ _ h => h) rfl (fun x hx => by have hcx := hx.cell q0.out (fun h => h); go_simp; rfl) ?_
          go_simp
          refine sched_take 7 rfl (by kernel_rfl) (by kernel_rfl) (by kernel_rfl) (fun _ _ _ h => h) rfl (fun x hx => by go_simp; rfl) ?_
          go_simp
          refine sched_take 8 rfl (by kernel_rfl) (by kernel_rfl) (by kernel_rfl) (fun _ _ _ h => h) rfl (fun x hx => by go_simp; rfl) ?_
          go_simp
          refine sched_take 9 rfl (by kernel_rfl) (by kernel_rfl) (by kernel_rfl) (fun _ _ _ h => h) rfl (fun x hx => by go_simp; rfl) ?_
          go_simp
          refine sched_take 10 rfl (by kernel_rfl) (by kernel_rfl) (by kernel_rfl) (fun _ _ _ h => h) rfl (fun x hx => by go_simp; rfl) ?_
          go_simp
          refine sched_take 11 rfl (by kernel_rfl) (by kernel_rfl) (by kernel_rfl) (fun _ _ _ h => h) rfl (fun x hx => by have hcx := hx.cell Y0.out (fun h => h); go_simp; rfl) ?_
          go_simp
          refine sched_take 12 rfl (by kernel_rfl) (by kernel_rfl) (by kernel_rfl) (fun _ _ _ h => h) rfl (fun x hx => by go_simp; rfl) ?_
          go_simp
          refine sched_take 13 rfl (by kernel_rfl) (by kernel_rfl) (by kernel_rfl) (fun _ _ _ h => h) rfl (fun x hx => by go_simp; rfl) ?_
          go_simp
          refine sched_skip 14 rfl (by kernel_rfl) (by kernel_rfl) (by kernel_rfl) (fun _ _ _ h => h) rfl ?_
          go_simp
          refine sched_skip 15 rfl (by kernel_rfl) (by kernel_rfl) (by kernel_rfl) (fun _ _ _ h => h) rfl ?_
          go_simp
          refine sched_skip 16 rfl (by kernel_rfl) (by kernel_rfl) (by kernel_rfl) (fun _ _ _ h => h) rfl ?_
          go_simp
          refine sched_skip 17 rfl (by kernel_rfl) (by kernel_rfl) (by kernel_rfl) (fun _ _ _ h => h) rfl ?_
          go_simp
          refine sched_skip 18 rfl (by kernel_rfl) (by kernel_rfl) (by kernel_rfl) (fun _ _ _ h => h) rfl ?_
          go_simp
          refine sched_skip 19 rfl (by kernel_rfl) (by kernel_rfl) (by kernel_rfl) (fun _ _ _ h => h) rfl ?_
          go_simp
          refine sched_skip 20 rfl (by kernel_rfl) (by kernel_rfl) (by kernel_rfl) (fun _ _ _ h => h) rfl ?_
          go_simp
          refine sched_skip 21 rfl (by kernel_rfl) (by kernel_rfl) (by kernel_rfl) (fun _ _ _ h => h) rfl ?_
          go_simp
          refine sched_skip 22 rfl (by kernel_rfl) (by kernel_rfl) (by kernel_rfl) (fun _ _ _ h => h) rfl ?_
          go_simp
          refine sched_skip 23 rfl (by kernel_rfl) (by kernel_rfl) (by kernel_rfl) (fun _ _ _ h => h) rfl ?_
          go_simp
          refine sched_skip 24 rfl (by kernel_rfl) (by kernel_rfl) (by kernel_rfl) (fun _ _ _ h => h) rfl ?_
          go_simp
          refine sched_take 25 rfl (by kernel_rfl) (by kernel_rfl) (by kernel_rfl) (fun _ _ _ h => h) rfl (fun x hx => by go_simp; rfl) ?_
          go_simp
          refine sched_take 26 rfl (by kernel_rfl) (by kernel_rfl) (by kernel_rfl) (fun _ _ _ h => h) rfl (fun x hx => by go_simp; rfl) ?_
          go_simp
          refine sched_done (by kernel_rfl) ?_
          go_wp2_with fail
          go_ret
          exact ⟨by rw [hR.out]; rfl, hub.out.drew⟩
        · have hR := Lib.hid hR
          have hc1 : decide (xa ≤ ya) = false := decide_eq_false (by omega)
          have hc2 : ((xn : Int) - 1 != (yn : Int)) = true := by simp; omega
          clear h2 h3 h4 r2
          go_wp2_with fail
          refine (hval.out _).mono ?_
          rintro e w3 ⟨rfl, rfl⟩
          go_wp2_with fail
          refine sched_begin NoB (by kernel_rfl) ?_
          refine sched_take 0 rfl (by kernel_rfl) (by kernel_rfl) (by kernel_rfl) (fun _ _ _ h => h) rfl (fun x hx => by go_simp; rfl) ?_
          go_simp
          refine sched_take 1 rfl (by kernel_rfl) (by kernel_rfl) (by kernel_rfl) (fun _ _ _ h => h) rfl (fun x hx => by go_simp; rfl) ?_
          go_simp
          refine sched_take 2 rfl (by kernel_rfl) (by kernel_rfl) (by kernel_rfl) (fun _ _ _ h => h) rfl (fun x hx => by go_simp; rfl) ?_
          go_simp
          refine sched_take 3 rfl (by kernel_rfl) (by kernel_rfl) (by kernel_rfl) (fun _ _ _ h => h) rfl (fun x hx => by go_simp; rfl) ?_
          go_simp
          refine sched_take 4 rfl (by kernel_rfl) (by kernel_rfl) (by kernel_rfl) (fun _ _ _ h => h) rfl (fun x hx => by have hcx := hx.cell E0.out (fun h => h); go_simp; rfl) ?_
          go_simp
          refine sched_take 5 rfl (by kernel_rfl) (by kernel_rfl) (by kernel_rfl) (fun _ _ _ h => h) rfl (fun x hx => by go_simp; rfl) ?_
          go_simp
          refine sched_take 6 rfl (by kernel_rfl) (by kernel_rfl) (by kernel_rfl) (fun _ _ _ h => h) rfl (fun x hx => by have hcx := hx.cell q0.out (fun h => h); go_simp; rfl) ?_
          go_simp
          refine sched_take 7 rfl (by kernel_rfl) (by kernel_rfl) (by kernel_rfl) (fun _ _ _ h => h) rfl (fun x hx => by go_simp; rfl) ?_
          go_simp
          refine sched_take 8 rfl (by kernel_rfl) (by kernel_rfl) (by kernel_rfl) (fun _ _ _ h => h) rfl (fun x hx => by go_simp; rfl) ?_
          go_simp
          refine sched_take 9 rfl (by kernel_rfl) (by kernel_rfl) (by kernel_rfl) (fun _ _ _ h => h) rfl (fun x hx => by go_simp; rfl) ?_
          go_simp
          refine sched_take 10 rfl (by kernel_rfl) (by kernel_rfl) (by kernel_rfl) (fun _ _ _ h => h) rfl (fun x hx => by go_simp; rfl) ?_
          go_simp
          refine sched_take 11 rfl (by kernel_rfl) (by kernel_rfl) (by kernel_rfl) (fun _ _ _ h => h) rfl (fun x hx => by have hcx := hx.cell Y0.out (fun h => h); go_simp; rfl) ?_
          go_simp
          refine sched_take 12 rfl (by kernel_rfl) (by kernel_rfl) (by kernel_rfl) (fun _ _ _ h => h) rfl (fun x hx => by go_simp; rfl) ?_
          go_simp
          refine sched_take 13 rfl (by kernel_rfl) (by kernel_rfl) (by kernel_rfl) (fun _ _ _ h => h) rfl (fun x hx => by go_simp; rfl) ?_
          go_simp
          refine sched_take 14 rfl (by kernel_rfl) (by kernel_rfl) (by kernel_rfl) (fun _ _ _ h => h) rfl (fun x hx => by go_simp; rfl) ?_
          go_simp
          refine sched_take 15 rfl (by kernel_rfl) (by kernel_rfl) (by kernel_rfl) (fun _ _ _ h => h) rfl (fun x hx => by have hcx := hx.cell E1.out (fun h => h); go_simp; rfl) ?_
          go_simp
          refine sched_take 16 rfl (by kernel_rfl) (by kernel_rfl) (by kernel_rfl) (fun _ _ _ h => h) rfl (fun x hx => by go_simp; rfl) ?_
          go_simp
          refine sched_take 17 rfl (by kernel_rfl) (by kernel_rfl) (by kernel_rfl) (fun _ _ _ h => h) rfl (fun x hx => by go_simp; rfl) ?_
          go_simp
          refine sched_take 18 rfl (by kernel_rfl) (by kernel_rfl) (by kernel_rfl) (fun _ _ _ h => h) rfl (fun x hx => by have hcx := hx.cell q0.out (fun h => h); go_simp; rfl) ?_
          go_simp
          refine sched_take 19 rfl (by kernel_rfl) (by kernel_rfl) (by kernel_rfl) (fun _ _ _ h => h) rfl (fun x hx => by go_simp; rfl) ?_
          go_simp
          refine sched_take 20 rfl (by kernel_rfl) (by kernel_rfl) (by kernel_rfl) (fun _ _ _ h => h) rfl (fun x hx => by go_simp; rfl) ?_
          go_simp
          refine sched_take 21 rfl (by kernel_rfl) (by kernel_rfl) (by kernel_rfl) (fun _ _ _ h => h) rfl (fun x hx => by go_simp; rfl) ?_
          go_simp
          refine sched_take 22 rfl (by kernel_rfl) (by kernel_rfl) (by kernel_rfl) (fun _ _ _ h => h) rfl (fun x hx => by go_simp; rfl) ?_
          go_simp
          refine sched_take 23 rfl (by kernel_rfl) (by kernel_rfl) (by kernel_rfl) (fun _ _ _ h => h) rfl (fun x hx => by have hcx := hx.cell Y1.out (fun h => h); go_simp; rfl) ?_
          go_simp
          refine sched_take 24 rfl (by kernel_rfl) (by kernel_rfl) (by kernel_rfl) (fun _ _ _ h => h) rfl (fun x hx => by go_simp; rfl) ?_
          go_simp
          refine sched_take 25 rfl (by kernel_rfl) (by kernel_rfl) (by kernel_rfl) (fun _ _ _ h => h) rfl (fun x hx => by go_simp; rfl) ?_
          go_simp
          refine sched_take 26 rfl (by kernel_rfl) (by kernel_rfl) (by kernel_rfl) (fun _ _ _ h => h) rfl (fun x hx => by go_simp; rfl) ?_
          go_simp
          refine sched_done (by kernel_rfl) ?_
          go_wp2_with fail
          go_ret
          exact ⟨by rw [hR.out]; rfl, hub.out.drew⟩
        · have hR := Lib.hid hR
          have hc1 : decide (xa ≤ ya) = false := decide_eq_false (by omega)
          have hc2 : ((xn : Int) - 1 != (yn : Int)) = false := by simp; omega
          clear h2 h3 h4 r2
          go_wp2_with fail
          refine (hval.out _).mono ?_
          rintro e w3 ⟨rfl, rfl⟩
          go_wp2_with fail
          refine sched_begin NoB (by kernel_rfl) ?_
          refine sched_take 0 rfl (by kernel_rfl) (by kernel_rfl) (by kernel_rfl) (fun _ _ _ h => h) rfl (fun x hx => by go_simp; rfl) ?_
          go_simp
          refine sched_take 1 rfl (by kernel_rfl) (by kernel_rfl) (by kernel_rfl) (fun _ _ _ h => h) rfl (fun x hx => by go_simp; rfl) ?_
          go_simp
          refine sched_take 2 rfl (by kernel_rfl) (by kernel_rfl) (by kernel_rfl) (fun _ _ _ h => h) rfl (fun x hx => by go_simp; rfl) ?_
          go_simp
          refine sched_take 3 rfl (by kernel_rfl) (by kernel_rfl) (by kernel_rfl) (fun _ _ _ h => h) rfl (fun x hx => by go_simp; rfl) ?_
          go_simp
          refine sched_take 4 rfl (by kernel_rfl) (by kernel_rfl) (by kernel_rfl) (fun _ _ _ h => h) rfl (fun x hx => by have hcx := hx.cell E0.out (fun h => h); go_simp; rfl) ?_
          go_simp
          refine sched_take 5 rfl (by kernel_rfl) (by kernel_rfl) (by kernel_rfl) (fun _ _ _ h => h) rfl (fun x hx => by go_simp; rfl) ?_
          go_simp
          refine sched_take 6 rfl (by kernel_rfl) (by kernel_rfl) (by kernel_rfl) (fun _ _ _ h => h) rfl (fun x hx => by have hcx := hx.cell q0.out (fun h => h); go_simp; rfl) ?_
          go_simp
          refine sched_take 7 rfl (by kernel_rfl) (by kernel_rfl) (by kernel_rfl) (fun _ _ _ h => h) rfl (fun x hx => by go_simp; rfl) ?_
          go_simp
          refine sched_take 8 rfl (by kernel_rfl) (by kernel_rfl) (by kernel_rfl) (fun _ _ _ h => h) rfl (fun x hx => by go_simp; rfl) ?_
          go_simp
          refine sched_take 9 rfl (by kernel_rfl) (by kernel_rfl) (by kernel_rfl) (fun _ _ _ h => h) rfl (fun x hx => by go_simp; rfl) ?_
          go_simp
          refine sched_take 10 rfl (by kernel_rfl) (by kernel_rfl) (by kernel_rfl) (fun _ _ _ h => h) rfl (fun x hx => by go_simp; rfl) ?_
          go_simp
          refine sched_take 11 rfl (by kernel_rfl) (by kernel_rfl) (by kernel_rfl) (fun _ _ _ h => h) rfl (fun x hx => by have hcx := hx.cell Y0.out (fun h => h); go_simp; rfl) ?_
          go_simp
          refine sched_take 12 rfl (by kernel_rfl) (by kernel_rfl) (by kernel_rfl) (fun _ _ _ h => h) rfl (fun x hx => by go_simp; rfl) ?_
          go_simp
          refine sched_take 13 rfl (by kernel_rfl) (by kernel_rfl) (by kernel_rfl) (fun _ _ _ h => h) rfl (fun x hx => by go_simp; rfl) ?_
          go_simp
          refine sched_take 14 rfl (by kernel_rfl) (by kernel_rfl) (by kernel_rfl) (fun _ _ _ h => h) rfl (fun x hx => by go_simp; rfl) ?_
          go_simp
          refine sched_take 15 rfl (by kernel_rfl) (by kernel_rfl) (by kernel_rfl) (fun _ _ _ h => h) rfl (fun x hx => by have hcx := hx.cell E1.out (fun h => h); go_simp; rfl) ?_
          go_simp
          refine sched_take 16 rfl (by kernel_rfl) (by kernel_rfl) (by kernel_rfl) (fun _ _ _ h => h) rfl (fun x hx => by go_simp; rfl) ?_
          go_simp
          refine sched_take 17 rfl (by kernel_rfl) (by kernel_rfl) (by kernel_rfl) (fun _ _ _ h => h) rfl (fun x hx => by go_simp; rfl) ?_
          go_simp
          refine sched_take 18 rfl (by kernel_rfl) (by kernel_rfl) (by kernel_rfl) (fun _ _ _ h => h) rfl (fun x hx => by have hcx := hx.cell q0.out (fun h => h); go_simp; rfl) ?_
          go_simp
          refine sched_take 19 rfl (by kernel_rfl) (by kernel_rfl) (by kernel_rfl) (fun _ _ _ h => h) rfl (fun x hx => by go_simp; rfl) ?_
          go_simp
          refine sched_take 20 rfl (by kernel_rfl) (by kernel_rfl) (by kernel_rfl) (fun _ _ _ h => h) rfl (fun x hx => by go_simp; rfl) ?_
          go_simp
          refine sched_take 21 rfl (by kernel_rfl) (by kernel_rfl) (by kernel_rfl) (fun _ _ _ h => h) rfl (fun x hx => by go_simp; rfl) ?_
          go_simp
          refine sched_take 22 rfl (by kernel_rfl) (by kernel_rfl) (by kernel_rfl) (fun _ _ _ h => h) rfl (fun x hx => by go_simp; rfl) ?_
          go_simp
          refine sched_take 23 rfl (by kernel_rfl) (by kernel_rfl) (by kernel_rfl) (fun _ _ _ h => h) rfl (fun x hx => by have hcx := hx.cell Y1.out (fun h => h); go_simp; rfl) ?_
          go_simp
          refine sched_take 24 rfl (by kernel_rfl) (by kernel_rfl) (by kernel_rfl) (fun _ _ _ h => h) rfl (fun x hx => by go_simp; rfl) ?_
          go_simp
          refine sched_take 25 rfl (by kernel_rfl) (by kernel_rfl) (by kernel_rfl) (fun _ _ _ h => h) rfl (fun x hx => by go_simp; rfl) ?_
          go_simp
          refine sched_take 26 rfl (by kernel_rfl) (by kernel_rfl) (by kernel_rfl) (fun _ _ _ h => h) rfl (fun x hx => by go_simp; rfl) ?_
          go_simp
          refine sched_done (by kernel_rfl) ?_
          go_wp2_with fail
          go_roundw
          case measure => simp [intOf]; omega
          case rel => exact ⟨k + 1, by omega, by go_num, hR, Lib.hid hUa.out.drew⟩
    · obtain rfl : k = l.length := by omega
      have hR := Lib.hid (show rightB l = true from hP.out)
      go_wp2_with fail
      go_ret
      exact ⟨by rw [hR.out]; rfl, ((Upd.refl NoB w).alloc _).trans hU.out⟩
end Go.Proofs.Ytcckljomjpfdaaa
