/- Versions, function by function (10): one version more; are two objects the same? -/
import Derived.Test.YtcckljomjpfdaaaObj9
namespace Go.Proofs.Ytcckljomjpfdaaa
open Go.RowKit Kit
set_option linter.unusedVariables false

set_option maxHeartbeats 1000000 in
set_option maxRecDepth 100000 in
theorem same_any {S T : Nat → Prop} (v v' : Value) (l l' : List Ver) (w : World) (h : RSl Rep.ver w S v l) (h' : RSl Rep.ver w T v' l') :
    Calls Try.prog 42 #[.agg #[v], .agg #[v']] w fun e w' => e = .returned (.bool (decide (l = l'))) ∧ Upd NoB w w' := by
  have heq := Lib.hid (fun w1 (hu : Upd NoB w w1) => equalv_any v v' l l' w1 (h.upd hu (fun _ _ h => h)) (h'.upd hu (fun _ _ h => h)))
  obtain ⟨A, c, cs, rfl, _⟩ := h
  obtain ⟨A', c', cs', rfl, _⟩ := h'
  have U0 := Lib.hid (show Upd NoB w ((w.alloc (.cells #[.slice A l.length c] 44)).alloc (.cells #[.slice A' l'.length c'] 44)) from ((Upd.refl _ _).alloc _).alloc _)
  go_enter Try.func42, Try.ntmps42
  go_wp2_with fail
  refine (heq.out _ U0.out).mono ?_
  rintro e w2 ⟨rfl, hu⟩
  have HU := Lib.hid (U0.out.trans hu)
  clear hu
  go_wp2_with fail
  go_ret
  exact ⟨rfl, HU.out⟩

def putBad (l : List Ver) (a : Int) (s : ByteArray) (g : Bool) : Prop := rightB l = false ∨ a < 1 ∨ a ≤ (lastV l).at_ ∨ mayB s g = false
/-- What Put answers, and hands back. -/
def putV (l : List Ver) (a : Int) (s : ByteArray) (g : Bool) : Int × List Ver :=
  if rightB l = false ∨ a < 1 ∨ a ≤ (lastV l).at_ ∨ mayB s g = false then (1, [])
  else if (lastV l).num = 18446744073709551615 then (9, [])
  else (0, l ++ [⟨a, (lastV l).num + 1, s, g⟩])
theorem sched_two {P : Program} {ops : Array Oper} {Q : Exit → Act → World → Prop} {F : Nat → Prop} {fuel : Nat} {listed : Array Bool} {a : Act} {w : World} (i j : Nat) {oi oj : Oper} (hr : Region.ready .any ops listed = [i, j]) (hi : ops[i]? = some oi) (hj : ops[j]? = some oj) (hwi : Region.wanted oi (yielded ops a.tmps) = true) (hwj : Region.wanted oj (yielded ops a.tmps) = true)
    (h1 : oi.wp P a w (fun a' w' => Upd F w w' ∧ Sched P ops Q F fuel (listed.setIfInBounds i true) a' w') Q) (h2 : oj.wp P a w (fun a' w' => Upd F w w' ∧ Sched P ops Q F fuel (listed.setIfInBounds j true) a' w') Q) : Sched P ops Q F (fuel + 1) listed a w := by
  refine wpAnyH_all hr (by simp) ?_
  intro k hk
  rcases (show k = i ∨ k = j by simpa using hk) with rfl | rfl
  · unfold wpOp
    simp only [hi]
    rw [if_pos hwi]
    exact .inl (Oper.wp_mono (fun a' w' h' => ⟨h'.1, heldMono (fun x hx => h'.1.trans hx) _ _ _ _ h'.2⟩) h1)
  · unfold wpOp
    simp only [hj]
    rw [if_pos hwj]
    exact .inl (Oper.wp_mono (fun a' w' h' => ⟨h'.1, heldMono (fun x hx => h'.1.trans hx) _ _ _ _ h'.2⟩) h2)

theorem box_rsl (x : Ver) (w : World) (t : TypeId) (hx : x.fit) : RSl Rep.ver (w.alloc (.cells #[.int .i64 x.at_, .int .u64 x.num, .string x.val, .bool x.gone] t)) (fun _ => True) (.slice (some ⟨w.heap.size, 0, none⟩) 1 1) [x] :=
  (OSl.lit (r := Rep.ver) (e := t) (w := w) (S := fun _ => True) (T := NoB) (l := [x]) #[.int .i64 x.at_, .int .u64 x.num, .string x.val, .bool x.gone] 1 rfl (by decide) ⟨_, [], rfl, ⟨rfl, hx⟩, rfl⟩ (fun _ h => h.elim) (fun _ h => h.elim) trivial).read
set_option maxHeartbeats 8000000 in
set_option maxRecDepth 100000 in
theorem put_any {S : Nat → Prop} (v : Value) (l : List Ver) (a : Int) (s : ByteArray) (g : Bool) (w : World) (h : RSl Rep.ver w S v l) (hl : l.length ≤ 900) (hs : s.size ≤ 9223372036854775807) (ha : (Lit.int .i64 a).wf = true) :
    Calls Try.prog 34 #[.agg #[v], .int .i64 a, .string s, .bool g] w fun e w' => ∃ v', e = .returned (.tuple #[.agg #[v'], .int .i64 (putV l a s g).1]) ∧ Mine Rep.ver 50 w w' v' (putV l a s g).2 := by
  have HX := Lib.hid h
  obtain ⟨A, c, cs, rfl, d1, d2, d3, d4, d5⟩ := id h
  have d2' : c ≤ 9223372036854775807 := d2
  have hrt := Lib.hid (fun w1 (hu : Upd NoB w w1) => right_obj (.slice A l.length c) l w1 (h.upd hu (fun _ _ h => h)) (by omega))
  have hcl := Lib.hid (fun w1 (hu : Upd NoB w w1) => clonev_any (.slice A l.length c) l w1 (h.upd hu (fun _ _ h => h)) (by omega))
  have hvl := Lib.hid (fun w => value_any s g w hs)
  have hnum : (lastV l).num < 18446744073709551616 := by
    unfold lastV
    split
    · cases e : l[l.length - 1]? with
      | none => decide
      | some x =>
        have hlt := (List.getElem?_eq_some_iff.1 e).1
        obtain ⟨_, _, _, _, hrep, _⟩ := h.cellN _ hlt
        have := hrep.2.2.1
        rw [(List.getElem?_eq_some_iff.1 e).2] at this
        exact this
    · decide
  obtain ⟨wa, hwa⟩ : ∃ wa, (w.alloc (.cells #[.slice A l.length c] 44)).alloc (.cells #[.slice none 0 0] 44) = wa := ⟨_, rfl⟩
  have hua : Upd NoB w wa := by rw [← hwa]; exact ((Upd.refl _ _).alloc _).alloc _
  have hBo : wa.heap[w.heap.size]? = some (.cells #[.slice A l.length c] 44 (0, 0)) := by
    rw [← hwa, Below.heap_alloc _ _ _ (by simp)]
    exact heap_alloc_new _ _
  have hBv : wa.heap[w.heap.size + 1]? = some (.cells #[.slice none 0 0] 44 (0, 0)) := by
    have := heap_alloc_new (w.alloc (.cells #[.slice A l.length c] 44)) (.cells #[.slice none 0 0] 44 (0, 0))
    rw [show (w.alloc (.cells #[.slice A l.length c] 44)).heap.size = w.heap.size + 1 by simp, hwa] at this
    exact this
  have HU := Lib.hid hua
  have hsz : w.heap.size + 1 < wa.heap.size := lt_of_heap hBv
  have hok := Lib.hid (fun x (hx : Upd NoB wa x) => show x.cell? ⟨w.heap.size, 0, none⟩ = some (.slice A l.length c) ∧ x.cell? ⟨w.heap.size + 1, 0, none⟩ = some (.slice none 0 0) ∧ x.frozen? ⟨w.heap.size + 1, 0, none⟩ = false by
    have a := hx.heap hBo (fun h => h)
    have b := hx.heap hBv (fun h => h)
    simp [World.cell?, World.frozen?, a, b])
  have o0 := (hok.out wa (Upd.refl _ _)).1
  have hset := Lib.hid (fun x (hx : Upd NoB w x) (v : Value) => show Upd NoB w (x.setCell ⟨w.heap.size + 1, 0, none⟩ v) from hx.setCell (p := ⟨w.heap.size + 1, 0, none⟩) (fun e => by simp only at e; omega) v)
  clear hBo hBv hua h d3
  have hla := Lib.hid (last_any (.slice A l.length c) l wa (HX.out.upd HU.out (fun _ _ h => h)) (by omega))
  have hdef : putV l a s g = if rightB l = false ∨ a < 1 ∨ a ≤ (lastV l).at_ ∨ mayB s g = false then (1, []) else if (lastV l).num = 18446744073709551615 then (9, []) else (0, l ++ [⟨a, (lastV l).num + 1, s, g⟩]) := rfl
  generalize lastV l = L at *
  generalize putV l a s g = R at *
  cases hR : rightB l
  · have hP := Lib.hid (show R = (1, []) by rw [hdef, if_pos (.inl hR)])
    rw [hR] at hrt
    clear hdef hR d5
    go_enter Try.func34, Try.ntmps34
    go_wp2_with fail
    refine hla.out.mono ?_
    rintro e w2 ⟨rfl, hu⟩
    have HUa2 := Lib.hid hu
    have HU2 := Lib.hid (HU.out.trans hu)
    obtain ⟨b2, hb2⟩ : ∃ b2, w2.heap.size = b2 := ⟨_, rfl⟩
    obtain ⟨wb, hwb⟩ : ∃ wb, w2.alloc (.cells #[.int .i64 L.at_, .int .u64 L.num, .string L.val, .bool L.gone] 50) = wb := ⟨_, rfl⟩
    have hBb := Lib.hid (show wb.heap[b2]? = some (.cells #[.int .i64 L.at_, .int .u64 L.num, .string L.val, .bool L.gone] 50 (0, 0)) by rw [← hwb, ← hb2]; exact heap_alloc_new _ _)
    have HUab := Lib.hid (show Upd NoB wa wb by rw [← hwb]; exact hu.alloc _)
    have HUb := Lib.hid (HU.out.trans HUab.out)
    have l0 : wb.cell? ⟨b2, 0, none⟩ = some (.int .i64 L.at_) := by simp [World.cell?, hBb.out]
    have l1 : wb.cell? ⟨b2, 1, none⟩ = some (.int .u64 L.num) := by simp [World.cell?, hBb.out]
    have y0 := (hok.out wb HUab.out).1
    clear hu
    unfold Ver.agg
    go_wp2_with fail
    refine (hrt.out _ HUb.out).mono ?_
    rintro e w3 ⟨rfl, hu⟩
    have HUa3 := Lib.hid (HUab.out.trans hu)
    have HUb3 := Lib.hid hu
    have HU3 := Lib.hid (HUb.out.trans hu)
    have l0' := hu.cell l0 (fun h => h)
    have l1' := hu.cell l1 (fun h => h)
    clear hu l0 l1 y0
    obtain ⟨z1, z2, z3⟩ := hok.out w3 HUa3.out
    go_wp2_with fail
    refine bodyPost_ret (v := .tuple #[.agg #[.slice none 0 0], .int .i64 1]) (by simp [results, Try.results34, go_sem, *]) rfl ⟨.slice none 0 0, by rw [hP.out], by rw [hP.out]; exact Mine.nil w (hset.out w3 HU3.out _)⟩
  · rw [hR] at hrt hdef
    by_cases h1 : a < 1
    · have hP := Lib.hid (show R = (1, []) by rw [hdef, if_pos (.inr (.inl h1))])
      have hd1 : decide (a < 1) = true := decide_eq_true h1
      clear hdef hR d5
      go_enter Try.func34, Try.ntmps34
      go_wp2_with fail
      refine hla.out.mono ?_
      rintro e w2 ⟨rfl, hu⟩
      have HUa2 := Lib.hid hu
      have HU2 := Lib.hid (HU.out.trans hu)
      obtain ⟨b2, hb2⟩ : ∃ b2, w2.heap.size = b2 := ⟨_, rfl⟩
      obtain ⟨wb, hwb⟩ : ∃ wb, w2.alloc (.cells #[.int .i64 L.at_, .int .u64 L.num, .string L.val, .bool L.gone] 50) = wb := ⟨_, rfl⟩
      have hBb := Lib.hid (show wb.heap[b2]? = some (.cells #[.int .i64 L.at_, .int .u64 L.num, .string L.val, .bool L.gone] 50 (0, 0)) by rw [← hwb, ← hb2]; exact heap_alloc_new _ _)
      have HUab := Lib.hid (show Upd NoB wa wb by rw [← hwb]; exact hu.alloc _)
      have HUb := Lib.hid (HU.out.trans HUab.out)
      have l0 : wb.cell? ⟨b2, 0, none⟩ = some (.int .i64 L.at_) := by simp [World.cell?, hBb.out]
      have l1 : wb.cell? ⟨b2, 1, none⟩ = some (.int .u64 L.num) := by simp [World.cell?, hBb.out]
      have y0 := (hok.out wb HUab.out).1
      clear hu
      unfold Ver.agg
      go_wp2_with fail
      refine (hrt.out _ HUb.out).mono ?_
      rintro e w3 ⟨rfl, hu⟩
      have HUa3 := Lib.hid (HUab.out.trans hu)
      have HUb3 := Lib.hid hu
      have HU3 := Lib.hid (HUb.out.trans hu)
      have l0' := hu.cell l0 (fun h => h)
      have l1' := hu.cell l1 (fun h => h)
      clear hu l0 l1 y0
      obtain ⟨z1, z2, z3⟩ := hok.out w3 HUa3.out
      go_wp2_with fail
      refine bodyPost_ret (v := .tuple #[.agg #[.slice none 0 0], .int .i64 1]) (by simp [results, Try.results34, go_sem, *]) rfl ⟨.slice none 0 0, by rw [hP.out], by rw [hP.out]; exact Mine.nil w (hset.out w3 HU3.out _)⟩
    · have hd1 : decide (a < 1) = false := decide_eq_false h1
      by_cases h2 : a ≤ L.at_
      · have hP := Lib.hid (show R = (1, []) by rw [hdef, if_pos (.inr (.inr (.inl h2)))])
        have hd2 : decide (a ≤ L.at_) = true := decide_eq_true h2
        clear hdef hR d5
        go_enter Try.func34, Try.ntmps34
        go_wp2_with fail
        refine hla.out.mono ?_
        rintro e w2 ⟨rfl, hu⟩
        have HUa2 := Lib.hid hu
        have HU2 := Lib.hid (HU.out.trans hu)
        obtain ⟨b2, hb2⟩ : ∃ b2, w2.heap.size = b2 := ⟨_, rfl⟩
        obtain ⟨wb, hwb⟩ : ∃ wb, w2.alloc (.cells #[.int .i64 L.at_, .int .u64 L.num, .string L.val, .bool L.gone] 50) = wb := ⟨_, rfl⟩
        have hBb := Lib.hid (show wb.heap[b2]? = some (.cells #[.int .i64 L.at_, .int .u64 L.num, .string L.val, .bool L.gone] 50 (0, 0)) by rw [← hwb, ← hb2]; exact heap_alloc_new _ _)
        have HUab := Lib.hid (show Upd NoB wa wb by rw [← hwb]; exact hu.alloc _)
        have HUb := Lib.hid (HU.out.trans HUab.out)
        have l0 : wb.cell? ⟨b2, 0, none⟩ = some (.int .i64 L.at_) := by simp [World.cell?, hBb.out]
        have l1 : wb.cell? ⟨b2, 1, none⟩ = some (.int .u64 L.num) := by simp [World.cell?, hBb.out]
        have y0 := (hok.out wb HUab.out).1
        clear hu
        unfold Ver.agg
        go_wp2_with fail
        refine (hrt.out _ HUb.out).mono ?_
        rintro e w3 ⟨rfl, hu⟩
        have HUa3 := Lib.hid (HUab.out.trans hu)
        have HUb3 := Lib.hid hu
        have HU3 := Lib.hid (HUb.out.trans hu)
        have l0' := hu.cell l0 (fun h => h)
        have l1' := hu.cell l1 (fun h => h)
        clear hu l0 l1 y0
        obtain ⟨z1, z2, z3⟩ := hok.out w3 HUa3.out
        go_wp2_with fail
        refine bodyPost_ret (v := .tuple #[.agg #[.slice none 0 0], .int .i64 1]) (by simp [results, Try.results34, go_sem, *]) rfl ⟨.slice none 0 0, by rw [hP.out], by rw [hP.out]; exact Mine.nil w (hset.out w3 HU3.out _)⟩
      · have hd2 : decide (a ≤ L.at_) = false := decide_eq_false h2
        cases h3 : mayB s g
        · have hP := Lib.hid (show R = (1, []) by rw [hdef, if_pos (.inr (.inr (.inr h3)))])
          rw [h3] at hvl
          clear hdef hR d5 h3
          go_enter Try.func34, Try.ntmps34
          go_wp2_with fail
          refine hla.out.mono ?_
          rintro e w2 ⟨rfl, hu⟩
          have HUa2 := Lib.hid hu
          have HU2 := Lib.hid (HU.out.trans hu)
          obtain ⟨b2, hb2⟩ : ∃ b2, w2.heap.size = b2 := ⟨_, rfl⟩
          obtain ⟨wb, hwb⟩ : ∃ wb, w2.alloc (.cells #[.int .i64 L.at_, .int .u64 L.num, .string L.val, .bool L.gone] 50) = wb := ⟨_, rfl⟩
          have hBb := Lib.hid (show wb.heap[b2]? = some (.cells #[.int .i64 L.at_, .int .u64 L.num, .string L.val, .bool L.gone] 50 (0, 0)) by rw [← hwb, ← hb2]; exact heap_alloc_new _ _)
          have HUab := Lib.hid (show Upd NoB wa wb by rw [← hwb]; exact hu.alloc _)
          have HUb := Lib.hid (HU.out.trans HUab.out)
          have l0 : wb.cell? ⟨b2, 0, none⟩ = some (.int .i64 L.at_) := by simp [World.cell?, hBb.out]
          have l1 : wb.cell? ⟨b2, 1, none⟩ = some (.int .u64 L.num) := by simp [World.cell?, hBb.out]
          have y0 := (hok.out wb HUab.out).1
          clear hu
          unfold Ver.agg
          go_wp2_with fail
          refine (hrt.out _ HUb.out).mono ?_
          rintro e w3 ⟨rfl, hu⟩
          have HUa3 := Lib.hid (HUab.out.trans hu)
          have HUb3 := Lib.hid hu
          have HU3 := Lib.hid (HUb.out.trans hu)
          have l0' := hu.cell l0 (fun h => h)
          have l1' := hu.cell l1 (fun h => h)
          clear hu l0 l1 y0
          go_wp2_with fail
          refine (hvl.out _).mono ?_
          rintro e w4 ⟨rfl, rfl⟩
          obtain ⟨z1, z2, z3⟩ := hok.out w3 HUa3.out
          go_wp2_with fail
          refine bodyPost_ret (v := .tuple #[.agg #[.slice none 0 0], .int .i64 1]) (by simp [results, Try.results34, go_sem, *]) rfl ⟨.slice none 0 0, by rw [hP.out], by rw [hP.out]; exact Mine.nil w (hset.out w3 HU3.out _)⟩
        · rw [h3] at hvl
          have hdef2 : R = if L.num = 18446744073709551615 then (9, []) else (0, l ++ [⟨a, L.num + 1, s, g⟩]) := by
            rw [hdef, if_neg]
            rintro (e | e | e | e)
            · cases e
            · exact h1 e
            · exact h2 e
            · rw [h3] at e; cases e
          clear hdef hR d5 h3
          by_cases h4 : L.num = 18446744073709551615
          · have hP := Lib.hid (show R = (9, []) by rw [hdef2, if_pos h4])
            have hd4 : ((L.num : Int) == 18446744073709551615) = true := by simp; omega
            clear hdef2 h4
            go_enter Try.func34, Try.ntmps34
            go_wp2_with fail
            refine hla.out.mono ?_
            rintro e w2 ⟨rfl, hu⟩
            have HUa2 := Lib.hid hu
            have HU2 := Lib.hid (HU.out.trans hu)
            obtain ⟨b2, hb2⟩ : ∃ b2, w2.heap.size = b2 := ⟨_, rfl⟩
            obtain ⟨wb, hwb⟩ : ∃ wb, w2.alloc (.cells #[.int .i64 L.at_, .int .u64 L.num, .string L.val, .bool L.gone] 50) = wb := ⟨_, rfl⟩
            have hBb := Lib.hid (show wb.heap[b2]? = some (.cells #[.int .i64 L.at_, .int .u64 L.num, .string L.val, .bool L.gone] 50 (0, 0)) by rw [← hwb, ← hb2]; exact heap_alloc_new _ _)
            have HUab := Lib.hid (show Upd NoB wa wb by rw [← hwb]; exact hu.alloc _)
            have HUb := Lib.hid (HU.out.trans HUab.out)
            have l0 : wb.cell? ⟨b2, 0, none⟩ = some (.int .i64 L.at_) := by simp [World.cell?, hBb.out]
            have l1 : wb.cell? ⟨b2, 1, none⟩ = some (.int .u64 L.num) := by simp [World.cell?, hBb.out]
            have y0 := (hok.out wb HUab.out).1
            clear hu
            unfold Ver.agg
            go_wp2_with fail
            refine (hrt.out _ HUb.out).mono ?_
            rintro e w3 ⟨rfl, hu⟩
            have HUa3 := Lib.hid (HUab.out.trans hu)
            have HUb3 := Lib.hid hu
            have HU3 := Lib.hid (HUb.out.trans hu)
            have l0' := hu.cell l0 (fun h => h)
            have l1' := hu.cell l1 (fun h => h)
            clear hu l0 l1 y0
            go_wp2_with fail
            refine (hvl.out _).mono ?_
            rintro e w4 ⟨rfl, rfl⟩
            obtain ⟨z1, z2, z3⟩ := hok.out w3 HUa3.out
            go_wp2_with fail
            refine bodyPost_ret (v := .tuple #[.agg #[.slice none 0 0], .int .i64 9]) (by simp [results, Try.results34, go_sem, *]) rfl ⟨.slice none 0 0, by rw [hP.out], by rw [hP.out]; exact Mine.nil w (hset.out w3 HU3.out _)⟩
          · have hP := Lib.hid (show R = (0, l ++ [⟨a, L.num + 1, s, g⟩]) by rw [hdef2, if_neg h4])
            have hd4 : ((L.num : Int) == 18446744073709551615) = false := by simp; omega
            have hsum : IntKind.u64.wrap ((L.num : Int) + 1) = (L.num : Int) + 1 := by simp only [IntKind.wrap, IntKind.bits, IntKind.signed]; simp; omega
            have hfit := Lib.hid (show (⟨a, L.num + 1, s, g⟩ : Ver).fit from ⟨ha, by show L.num + 1 < _; omega, hs⟩)
            clear hdef2 h4
            go_enter Try.func34, Try.ntmps34
            go_wp2_with fail
            refine hla.out.mono ?_
            rintro e w2 ⟨rfl, hu⟩
            have HUa2 := Lib.hid hu
            have HU2 := Lib.hid (HU.out.trans hu)
            obtain ⟨b2, hb2⟩ : ∃ b2, w2.heap.size = b2 := ⟨_, rfl⟩
            obtain ⟨wb, hwb⟩ : ∃ wb, w2.alloc (.cells #[.int .i64 L.at_, .int .u64 L.num, .string L.val, .bool L.gone] 50) = wb := ⟨_, rfl⟩
            have hBb := Lib.hid (show wb.heap[b2]? = some (.cells #[.int .i64 L.at_, .int .u64 L.num, .string L.val, .bool L.gone] 50 (0, 0)) by rw [← hwb, ← hb2]; exact heap_alloc_new _ _)
            have HUab := Lib.hid (show Upd NoB wa wb by rw [← hwb]; exact hu.alloc _)
            have HUb := Lib.hid (HU.out.trans HUab.out)
            have l0 : wb.cell? ⟨b2, 0, none⟩ = some (.int .i64 L.at_) := by simp [World.cell?, hBb.out]
            have l1 : wb.cell? ⟨b2, 1, none⟩ = some (.int .u64 L.num) := by simp [World.cell?, hBb.out]
            have y0 := (hok.out wb HUab.out).1
            clear hu
            unfold Ver.agg
            go_wp2_with fail
            refine (hrt.out _ HUb.out).mono ?_
            rintro e w3 ⟨rfl, hu⟩
            have HUa3 := Lib.hid (HUab.out.trans hu)
            have HUb3 := Lib.hid hu
            have HU3 := Lib.hid (HUb.out.trans hu)
            have l0' := hu.cell l0 (fun h => h)
            have l1' := hu.cell l1 (fun h => h)
            clear hu l0 l1 y0
            go_wp2_with fail
            refine (hvl.out _).mono ?_
            rintro e w4 ⟨rfl, rfl⟩
            obtain ⟨z1, z2, z3⟩ := hok.out w3 HUa3.out
            go_wp2_with fail
            have hz3 := HUa3.out.size
            have hz4 := HUb3.out.size
            have hz5 := lt_of_heap hBb.out
            have hz6 := HUa2.out.size
            have HU3d := Lib.hid HU3.out.drew
            have HUa3d := Lib.hid HUa3.out.drew
            refine sched_begin (fun b => b = w.heap.size + 1 ∨ w3.heap.size ≤ b) (by kernel_rfl) ?_
            refine sched_take 0 rfl (by kernel_rfl) (by kernel_rfl) (by kernel_rfl) (fun _ _ _ h => h) rfl (fun x hx => by go_simp; rfl) ?_
            go_simp
            refine sched_take 1 rfl (by kernel_rfl) (by kernel_rfl) (by kernel_rfl) (fun _ _ _ h => h) rfl (fun x hx => by have q := hx.cell z1 (fun e => by have e' : w.heap.size = w.heap.size + 1 ∨ w3.heap.size ≤ w.heap.size := e; omega); go_simp; rfl) ?_
            go_simp
            refine sched_take 3 rfl (by kernel_rfl) (by kernel_rfl) (by kernel_rfl) (fun _ _ _ h => h) rfl (fun x hx => by go_simp; rfl) ?_
            go_simp
            refine sched_take 4 rfl (by kernel_rfl) (by kernel_rfl) (by kernel_rfl) (fun _ _ _ h => h) rfl (fun x hx => by go_simp; rfl) ?_
            go_simp
            refine sched_take 5 rfl (by kernel_rfl) (by kernel_rfl) (by kernel_rfl) (fun _ _ _ h => h) rfl (fun x hx => by have q := hx.cell l1' (fun e => by have e' : b2 = w.heap.size + 1 ∨ w3.heap.size ≤ b2 := e; omega); go_simp; rfl) ?_
            go_simp
            refine sched_take 6 rfl (by kernel_rfl) (by kernel_rfl) (by kernel_rfl) (fun _ _ _ h => h) rfl (fun x hx => by go_simp; rfl) ?_
            go_simp
            refine sched_take 7 rfl (by kernel_rfl) (by kernel_rfl) (by kernel_rfl) (fun _ _ _ h => h) rfl (fun x hx => by go_simp; rfl) ?_
            go_simp
            refine sched_take 8 rfl (by kernel_rfl) (by kernel_rfl) (by kernel_rfl) (fun _ _ _ h => h) rfl (fun x hx => by go_simp; rfl) ?_
            go_simp
            refine sched_take 9 rfl (by kernel_rfl) (by kernel_rfl) (by kernel_rfl) (fun _ _ _ h => h) rfl (fun x hx => by go_simp; rfl) ?_
            go_simp
            clear z1 z2 z3 l1' l0'
            refine sched_two 2 10 (by kernel_rfl) rfl rfl rfl rfl ?_ ?_
            · go_simp
              refine (hcl.out _ HU3d.out).mono ?_
              rintro e w4 ⟨vc, rfl, hM0⟩
              refine ⟨hM0.2.mono (fun _ _ h => h.elim), ?_⟩
              have hMd := Lib.hid (hM0.upd ((Upd.refl NoB w4).alloc (.cells #[.int .i64 a, .int .u64 ((L.num : Int) + 1), .string s, .bool g] 50)))
              have hbox := Lib.hid (box_rsl ⟨a, L.num + 1, s, g⟩ w4 50 hfit.out)
              have hw4 : w3.heap.size ≤ w4.heap.size := hM0.2.size
              clear hM0
              go_simp
              refine sched_alone 10 (by kernel_rfl) rfl rfl ?_
              go_simp
              refine ⟨(Upd.refl _ _).alloc _, ?_⟩
              have HO := Lib.hid hMd.out.1
              have HB := Lib.hid hMd.out.bd
              refine sched_law 11 (by kernel_rfl) rfl rfl ?_
              go_simp
              at_builtin
              refine app_all (r := Rep.ver) (v := vc) rfl _ _ 42 50 (.agg #[.int .i64 0, .int .u64 0, .string ⟨#[]⟩, .bool false]) 40 rfl Try.underlying42 iVer rfl (by decide) rfl rfl HO.out HB.out hbox.out (fun cs hc => Rows.flat flat_ver hc _ _) (by simp only [List.length_cons, List.length_nil]; omega) ?_
              intro v2 w5 ho2 hu2
              have hge := fun b hb => hMd.out.own_ge b hb
              refine law_done ⟨hu2.mono (fun b _ hb => .inr (Nat.le_trans (show w3.heap.size ≤ w3.heap.size by omega) (hge b hb))), ?_⟩
              have fin := Lib.hid (hMd.out.app ho2 hu2)
              clear ho2 hu2
              obtain ⟨A5, c5, _, rfl, _⟩ := fin.out.1.read
              obtain ⟨z1, z2, z3⟩ := hok.out w5 (HUa3d.out.trans fin.out.2)
              go_simp
              refine sched_take 12 rfl (by kernel_rfl) (by kernel_rfl) (by kernel_rfl) (fun _ _ _ h => h) rfl (fun x hx => by go_simp; rfl) ?_
              go_simp
              refine sched_alone 13 (by kernel_rfl) rfl rfl ?_
              go_simp
              have hfin := Lib.hid (Mine.set fin.out HU3d.out (p := w.heap.size + 1) (by show w.heap.size + 1 < w3.heap.size; omega) (by omega) 0 (.slice A5 (l.length + 1) c5))
              refine ⟨(Upd.refl (fun b => b = w.heap.size + 1 ∨ w3.heap.size ≤ b) w5).setCell (p := ⟨w.heap.size + 1, 0, none⟩) (fun _ => .inl rfl) _, ?_⟩
              go_simp
              refine sched_take 14 rfl (by kernel_rfl) (by kernel_rfl) (by kernel_rfl) (fun _ _ _ h => h) rfl (fun x hx => by go_simp; rfl) ?_
              go_simp
              refine sched_done (by kernel_rfl) ?_
              go_wp2_with fail
              refine bodyPost_ret (v := .tuple #[.agg #[.slice A5 (l ++ [(⟨a, L.num + 1, s, g⟩ : Ver)]).length c5], .int .i64 0]) (by simp [results, Try.results34, go_sem, *]) rfl ⟨_, by rw [hP.out], by rw [hP.out]; exact hfin.out⟩
            · go_simp
              refine ⟨have hh := (Upd.refl (fun b => b = w.heap.size + 1 ∨ w3.heap.size ≤ b) w3).alloc (.cells #[.int .i64 a, .int .u64 ((L.num : Int) + 1), .string s, .bool g] 50); ⟨hh.os, hh.tape, hh.output, hh.size, hh.block⟩, ?_⟩
              have hbox0 := box_rsl ⟨a, L.num + 1, s, g⟩ w3 50 hfit.out
              have HUe := Lib.hid (HU3.out.alloc (.cells #[.int .i64 a, .int .u64 ((L.num : Int) + 1), .string s, .bool g] 50)).drew
              have HUae := Lib.hid (HUa3.out.alloc (.cells #[.int .i64 a, .int .u64 ((L.num : Int) + 1), .string s, .bool g] 50)).drew
              obtain ⟨wd, hwd⟩ : ∃ wd, (w3.alloc (.cells #[.int .i64 a, .int .u64 ((L.num : Int) + 1), .string s, .bool g] 50)).drew = wd := ⟨_, rfl⟩
              have hwl : w3.heap.size ≤ wd.heap.size := by rw [← hwd]; simp [World.drew]
              have hbox1 : RSl Rep.ver wd (fun _ => True) (.slice (some ⟨w3.heap.size, 0, none⟩) 1 1) [⟨a, L.num + 1, s, g⟩] := by rw [← hwd]; exact hbox0
              rw [hwd] at HUe HUae
              clear hbox0
              go_simp
              clear hwd
              refine sched_alone 2 (by kernel_rfl) rfl rfl ?_
              go_simp
              refine (hcl.out _ HUe.out).mono ?_
              rintro e w4 ⟨vc, rfl, hM0⟩
              refine ⟨hM0.2.mono (fun _ _ h => h.elim), ?_⟩
              have hMd := Lib.hid hM0
              have hbox := Lib.hid (hbox1.upd hM0.2 (fun _ _ h => h))
              clear hM0 hbox1
              go_simp
              have HO := Lib.hid hMd.out.1
              have HB := Lib.hid hMd.out.bd
              refine sched_law 11 (by kernel_rfl) rfl rfl ?_
              go_simp
              at_builtin
              refine app_all (r := Rep.ver) (v := vc) rfl _ _ 42 50 (.agg #[.int .i64 0, .int .u64 0, .string ⟨#[]⟩, .bool false]) 40 rfl Try.underlying42 iVer rfl (by decide) rfl rfl HO.out HB.out hbox.out (fun cs hc => Rows.flat flat_ver hc _ _) (by simp only [List.length_cons, List.length_nil]; omega) ?_
              intro v2 w5 ho2 hu2
              have hge := fun b hb => hMd.out.own_ge b hb
              refine law_done ⟨hu2.mono (fun b _ hb => .inr (Nat.le_trans (show w3.heap.size ≤ wd.heap.size by omega) (hge b hb))), ?_⟩
              have fin := Lib.hid (hMd.out.app ho2 hu2)
              clear ho2 hu2
              obtain ⟨A5, c5, _, rfl, _⟩ := fin.out.1.read
              obtain ⟨z1, z2, z3⟩ := hok.out w5 (HUae.out.trans fin.out.2)
              go_simp
              refine sched_take 12 rfl (by kernel_rfl) (by kernel_rfl) (by kernel_rfl) (fun _ _ _ h => h) rfl (fun x hx => by go_simp; rfl) ?_
              go_simp
              refine sched_alone 13 (by kernel_rfl) rfl rfl ?_
              go_simp
              have hfin := Lib.hid (Mine.set fin.out HUe.out (p := w.heap.size + 1) (by show w.heap.size + 1 < wd.heap.size; omega) (by omega) 0 (.slice A5 (l.length + 1) c5))
              refine ⟨(Upd.refl (fun b => b = w.heap.size + 1 ∨ w3.heap.size ≤ b) w5).setCell (p := ⟨w.heap.size + 1, 0, none⟩) (fun _ => .inl rfl) _, ?_⟩
              go_simp
              refine sched_take 14 rfl (by kernel_rfl) (by kernel_rfl) (by kernel_rfl) (fun _ _ _ h => h) rfl (fun x hx => by go_simp; rfl) ?_
              go_simp
              refine sched_done (by kernel_rfl) ?_
              go_wp2_with fail
              refine bodyPost_ret (v := .tuple #[.agg #[.slice A5 (l ++ [(⟨a, L.num + 1, s, g⟩ : Ver)]).length c5], .int .i64 0]) (by simp [results, Try.results34, go_sem, *]) rfl ⟨_, by rw [hP.out], by rw [hP.out]; exact hfin.out⟩
end Go.Proofs.Ytcckljomjpfdaaa
