/- One version more is as the chapter says; undone it is as it was (ObjectPut): the law's walk. -/
import Derived.Test.YtcckljomjpfdaaaObj13
namespace Go.Proofs.Ytcckljomjpfdaaa
open Go.RowKit Kit
set_option linter.unusedVariables false

theorem vcells {x : World} {b : Nat} {T : TypeId} {fr : Nat × Nat} {c0 c1 c2 c3 : Value} (h : x.heap[b]? = some (.cells #[c0, c1, c2, c3] T fr)) :
    x.cell? ⟨b, 0, none⟩ = some c0 ∧ x.cell? ⟨b, 1, none⟩ = some c1 ∧ x.cell? ⟨b, 2, none⟩ = some c2 ∧ x.cell? ⟨b, 3, none⟩ = some c3 := by
  simp [World.cell?, h]
set_option maxHeartbeats 16000000 in
set_option maxRecDepth 100000 in
theorem objPut_nil {S : Nat → Prop} (v : Value) (l L : List Ver) (hLl : l.take 20 = L) (hL : L.length ≤ 20) (hR : rightB L = true) (a : Int) (s : ByteArray) (g : Bool) (w : World) (h : RSl Rep.ver w S v l) (hs : s.size ≤ 9223372036854775807) (ha : (Lit.int .i64 a).wf = true) (hLn : L = []) :
    Calls Try.prog 12 #[v, .int .i64 a, .string s, .bool g] w fun e w' => e = .returned (.bool true) ∧ Upd NoB w w' := by
  have ho := Lib.hid (ours_any v l w h)
  obtain ⟨A, c, cs, rfl, _⟩ := id h
  rw [hLl] at ho
  clear h hLl
  have hrr := Lib.hid (fun v w S (h : RSl Rep.ver w S v L) => refright_obj v L w h (by omega))
  have hpl := Lib.hid (fun v w S (h : RSl Rep.ver w S v L) => plain_any v L w h (by omega))
  have hpt := Lib.hid (fun v w S (h : RSl Rep.ver w S v L) => put_any v L a s g w h (by omega) hs ha)
  have hmy := Lib.hid (fun w => may_any s g w hs)
  rw [hR] at hrr
  have hZ := Lib.hid (show lastV L = zeroV by rw [hLn]; rfl)
  have hnum := Lib.hid (show (lastV L).num < 18446744073709551616 by rw [hZ.out]; decide)
  have hgt : decide (0 < (L.length : Int)) = false := by rw [hLn]; rfl
  have hng : ¬ 0 < (L.length : Int) := by rw [hLn]; simp
  clear hLn
  by_cases h1 : a < 1
  · rw [show putV L a s g = (1, []) by unfold putV; rw [if_pos (.inr (.inl h1))]] at hpt
    have hd1 : decide (a < 1) = true := decide_eq_true h1
    generalize lastV L = Z at *
    clear hR
    go_enter Try.func12, Try.ntmps12
    go_wp2_with fail
    refine ho.out.mono ?_
    rintro e w1 ⟨v1, rfl, hM⟩
    obtain ⟨A1, c1, _, rfl, _⟩ := hM.1.read
    obtain ⟨wb1, hwb1⟩ : ∃ wb, w1.alloc (.cells #[.slice A1 L.length c1] 44) = wb := ⟨_, rfl⟩
    obtain ⟨b1, hb1⟩ : ∃ b, w1.heap.size = b := ⟨_, rfl⟩
    have HB1 := Lib.hid (show wb1.heap[b1]? = some (.cells #[.slice A1 L.length c1] 44 (0, 0)) by rw [← hwb1, ← hb1]; exact heap_alloc_new _ _)
    have p1 : wb1.cell? ⟨b1, 0, none⟩ = some (.slice A1 L.length c1) := by simp [World.cell?, HB1.out]
    have HM1 := Lib.hid (show Mine Rep.ver 50 _ wb1 (.slice A1 L.length c1) L by rw [← hwb1]; exact hM.upd ((Upd.refl NoB w1).alloc _))
    clear hM
    go_wp2_with fail
    refine (hpl.out _ _ _ HM1.out.1.read).mono ?_
    rintro e w2 ⟨v2, rfl, hM⟩
    obtain ⟨A2, c2, _, rfl, _⟩ := hM.1.read
    have HP2 := Lib.hid hM
    clear hwb1
    go_wp2_with fail
    refine (hrr.out _ _ _ HP2.out.1.read).mono ?_
    rintro e w3 ⟨rfl, hu⟩
    have HP3 := Lib.hid (HP2.out.upd hu)
    have HU3 := Lib.hid HP3.out.2
    have p3 := HU3.out.cell p1 (fun h => h)
    have HM3 := Lib.hid (HM1.out.upd HU3.out)
    clear hu p1
    have p4 := ((Upd.refl NoB w3).alloc (.cells #[.int .i64 0, .int .u64 0, .string ⟨#[]⟩, .bool false] 62)).cell p3 (fun h => h)
    go_wp2_with fail
    generalize hwx : w3.alloc (.cells #[.int .i64 0, .int .u64 0, .string ⟨#[]⟩, .bool false] 62) = wx at *
    generalize hx3 : w3.heap.size = x3 at *
    have HX := Lib.hid (show wx.heap[x3]? = some (.cells #[.int .i64 Z.at_, .int .u64 Z.num, .string Z.val, .bool Z.gone] 62 (0, 0)) by rw [← hwx, ← hx3, hZ.out]; exact heap_alloc_new _ _)
    have HUx := Lib.hid (show Upd NoB w3 wx by rw [← hwx]; exact (Upd.refl NoB w3).alloc _)
    have HMx := Lib.hid (HM3.out.upd HUx.out)
    clear hwx p3 hx3
    refine (hpt.out _ _ _ HMx.out.1.read).mono ?_
    rintro e w5 ⟨v5, rfl, hM⟩
    have hu := hM.2
    obtain ⟨A5, c5, _, rfl, _⟩ := hM.1.read
    obtain ⟨wb5, hwb5⟩ : ∃ wb, w5.alloc (.cells #[.slice A5 0 c5] 44) = wb := ⟨_, rfl⟩
    obtain ⟨b5, hb5⟩ : ∃ b, w5.heap.size = b := ⟨_, rfl⟩
    have HB5 := Lib.hid (show wb5.heap[b5]? = some (.cells #[.slice A5 0 c5] 44 (0, 0)) by rw [← hwb5, ← hb5]; exact heap_alloc_new _ _)
    have p5 : wb5.cell? ⟨b5, 0, none⟩ = some (.slice A5 0 c5) := by simp [World.cell?, HB5.out]
    have HM5 := Lib.hid (show Mine Rep.ver 50 _ wb5 (.slice A5 0 c5) ([] : List Ver) by rw [← hwb5]; exact hM.upd ((Upd.refl NoB w5).alloc _))
    clear hM
    have hub : Upd NoB wx wb5 := by rw [← hwb5]; exact hu.alloc _
    obtain ⟨j0, j1, j2, j3⟩ := vcells (hub.heap HX.out (fun h => h))
    have HUb := Lib.hid hub
    clear hu hub p4
    go_wp2_with fail
    refine (awakeObj_any _).mono ?_
    rintro e w10 ⟨rfl, hu⟩
    have HU10 := Lib.hid (HMx.out.2.trans (HUb.out.trans hu))
    clear hu
    go_wp2_with fail
    go_ret
    exact ⟨rfl, HU10.out⟩
  · have hd1 : decide (a < 1) = false := decide_eq_false h1
    by_cases h2 : a ≤ (lastV L).at_
    · rw [show putV L a s g = (1, []) by unfold putV; rw [if_pos (.inr (.inr (.inl h2)))]] at hpt
      have hd2 : decide (a ≤ (lastV L).at_) = true := decide_eq_true h2
      generalize lastV L = Z at *
      clear hR
      go_enter Try.func12, Try.ntmps12
      go_wp2_with fail
      refine ho.out.mono ?_
      rintro e w1 ⟨v1, rfl, hM⟩
      obtain ⟨A1, c1, _, rfl, _⟩ := hM.1.read
      obtain ⟨wb1, hwb1⟩ : ∃ wb, w1.alloc (.cells #[.slice A1 L.length c1] 44) = wb := ⟨_, rfl⟩
      obtain ⟨b1, hb1⟩ : ∃ b, w1.heap.size = b := ⟨_, rfl⟩
      have HB1 := Lib.hid (show wb1.heap[b1]? = some (.cells #[.slice A1 L.length c1] 44 (0, 0)) by rw [← hwb1, ← hb1]; exact heap_alloc_new _ _)
      have p1 : wb1.cell? ⟨b1, 0, none⟩ = some (.slice A1 L.length c1) := by simp [World.cell?, HB1.out]
      have HM1 := Lib.hid (show Mine Rep.ver 50 _ wb1 (.slice A1 L.length c1) L by rw [← hwb1]; exact hM.upd ((Upd.refl NoB w1).alloc _))
      clear hM
      go_wp2_with fail
      refine (hpl.out _ _ _ HM1.out.1.read).mono ?_
      rintro e w2 ⟨v2, rfl, hM⟩
      obtain ⟨A2, c2, _, rfl, _⟩ := hM.1.read
      have HP2 := Lib.hid hM
      clear hwb1
      go_wp2_with fail
      refine (hrr.out _ _ _ HP2.out.1.read).mono ?_
      rintro e w3 ⟨rfl, hu⟩
      have HP3 := Lib.hid (HP2.out.upd hu)
      have HU3 := Lib.hid HP3.out.2
      have p3 := HU3.out.cell p1 (fun h => h)
      have HM3 := Lib.hid (HM1.out.upd HU3.out)
      clear hu p1
      have p4 := ((Upd.refl NoB w3).alloc (.cells #[.int .i64 0, .int .u64 0, .string ⟨#[]⟩, .bool false] 62)).cell p3 (fun h => h)
      go_wp2_with fail
      generalize hwx : w3.alloc (.cells #[.int .i64 0, .int .u64 0, .string ⟨#[]⟩, .bool false] 62) = wx at *
      generalize hx3 : w3.heap.size = x3 at *
      have HX := Lib.hid (show wx.heap[x3]? = some (.cells #[.int .i64 Z.at_, .int .u64 Z.num, .string Z.val, .bool Z.gone] 62 (0, 0)) by rw [← hwx, ← hx3, hZ.out]; exact heap_alloc_new _ _)
      have HUx := Lib.hid (show Upd NoB w3 wx by rw [← hwx]; exact (Upd.refl NoB w3).alloc _)
      have HMx := Lib.hid (HM3.out.upd HUx.out)
      clear hwx p3 hx3
      refine (hpt.out _ _ _ HMx.out.1.read).mono ?_
      rintro e w5 ⟨v5, rfl, hM⟩
      have hu := hM.2
      obtain ⟨A5, c5, _, rfl, _⟩ := hM.1.read
      obtain ⟨wb5, hwb5⟩ : ∃ wb, w5.alloc (.cells #[.slice A5 0 c5] 44) = wb := ⟨_, rfl⟩
      obtain ⟨b5, hb5⟩ : ∃ b, w5.heap.size = b := ⟨_, rfl⟩
      have HB5 := Lib.hid (show wb5.heap[b5]? = some (.cells #[.slice A5 0 c5] 44 (0, 0)) by rw [← hwb5, ← hb5]; exact heap_alloc_new _ _)
      have p5 : wb5.cell? ⟨b5, 0, none⟩ = some (.slice A5 0 c5) := by simp [World.cell?, HB5.out]
      have HM5 := Lib.hid (show Mine Rep.ver 50 _ wb5 (.slice A5 0 c5) ([] : List Ver) by rw [← hwb5]; exact hM.upd ((Upd.refl NoB w5).alloc _))
      clear hM
      have hub : Upd NoB wx wb5 := by rw [← hwb5]; exact hu.alloc _
      obtain ⟨j0, j1, j2, j3⟩ := vcells (hub.heap HX.out (fun h => h))
      have HUb := Lib.hid hub
      clear hu hub p4
      go_wp2_with fail
      refine (awakeObj_any _).mono ?_
      rintro e w10 ⟨rfl, hu⟩
      have HU10 := Lib.hid (HMx.out.2.trans (HUb.out.trans hu))
      clear hu
      go_wp2_with fail
      go_ret
      exact ⟨rfl, HU10.out⟩
    · have hd2 : decide (a ≤ (lastV L).at_) = false := decide_eq_false h2
      cases h3 : mayB s g
      · rw [show putV L a s g = (1, []) by unfold putV; rw [if_pos (.inr (.inr (.inr h3)))]] at hpt
        rw [h3] at hmy
        generalize lastV L = Z at *
        clear hR h3
        go_enter Try.func12, Try.ntmps12
        go_wp2_with fail
        refine ho.out.mono ?_
        rintro e w1 ⟨v1, rfl, hM⟩
        obtain ⟨A1, c1, _, rfl, _⟩ := hM.1.read
        obtain ⟨wb1, hwb1⟩ : ∃ wb, w1.alloc (.cells #[.slice A1 L.length c1] 44) = wb := ⟨_, rfl⟩
        obtain ⟨b1, hb1⟩ : ∃ b, w1.heap.size = b := ⟨_, rfl⟩
        have HB1 := Lib.hid (show wb1.heap[b1]? = some (.cells #[.slice A1 L.length c1] 44 (0, 0)) by rw [← hwb1, ← hb1]; exact heap_alloc_new _ _)
        have p1 : wb1.cell? ⟨b1, 0, none⟩ = some (.slice A1 L.length c1) := by simp [World.cell?, HB1.out]
        have HM1 := Lib.hid (show Mine Rep.ver 50 _ wb1 (.slice A1 L.length c1) L by rw [← hwb1]; exact hM.upd ((Upd.refl NoB w1).alloc _))
        clear hM
        go_wp2_with fail
        refine (hpl.out _ _ _ HM1.out.1.read).mono ?_
        rintro e w2 ⟨v2, rfl, hM⟩
        obtain ⟨A2, c2, _, rfl, _⟩ := hM.1.read
        have HP2 := Lib.hid hM
        clear hwb1
        go_wp2_with fail
        refine (hrr.out _ _ _ HP2.out.1.read).mono ?_
        rintro e w3 ⟨rfl, hu⟩
        have HP3 := Lib.hid (HP2.out.upd hu)
        have HU3 := Lib.hid HP3.out.2
        have p3 := HU3.out.cell p1 (fun h => h)
        have HM3 := Lib.hid (HM1.out.upd HU3.out)
        clear hu p1
        have p4 := ((Upd.refl NoB w3).alloc (.cells #[.int .i64 0, .int .u64 0, .string ⟨#[]⟩, .bool false] 62)).cell p3 (fun h => h)
        go_wp2_with fail
        generalize hwx : w3.alloc (.cells #[.int .i64 0, .int .u64 0, .string ⟨#[]⟩, .bool false] 62) = wx at *
        generalize hx3 : w3.heap.size = x3 at *
        have HX := Lib.hid (show wx.heap[x3]? = some (.cells #[.int .i64 Z.at_, .int .u64 Z.num, .string Z.val, .bool Z.gone] 62 (0, 0)) by rw [← hwx, ← hx3, hZ.out]; exact heap_alloc_new _ _)
        have HUx := Lib.hid (show Upd NoB w3 wx by rw [← hwx]; exact (Upd.refl NoB w3).alloc _)
        have HMx := Lib.hid (HM3.out.upd HUx.out)
        clear hwx p3 hx3
        refine (hpt.out _ _ _ HMx.out.1.read).mono ?_
        rintro e w5 ⟨v5, rfl, hM⟩
        have hu := hM.2
        obtain ⟨A5, c5, _, rfl, _⟩ := hM.1.read
        obtain ⟨wb5, hwb5⟩ : ∃ wb, w5.alloc (.cells #[.slice A5 0 c5] 44) = wb := ⟨_, rfl⟩
        obtain ⟨b5, hb5⟩ : ∃ b, w5.heap.size = b := ⟨_, rfl⟩
        have HB5 := Lib.hid (show wb5.heap[b5]? = some (.cells #[.slice A5 0 c5] 44 (0, 0)) by rw [← hwb5, ← hb5]; exact heap_alloc_new _ _)
        have p5 : wb5.cell? ⟨b5, 0, none⟩ = some (.slice A5 0 c5) := by simp [World.cell?, HB5.out]
        have HM5 := Lib.hid (show Mine Rep.ver 50 _ wb5 (.slice A5 0 c5) ([] : List Ver) by rw [← hwb5]; exact hM.upd ((Upd.refl NoB w5).alloc _))
        clear hM
        have hub : Upd NoB wx wb5 := by rw [← hwb5]; exact hu.alloc _
        obtain ⟨j0, j1, j2, j3⟩ := vcells (hub.heap HX.out (fun h => h))
        have HUb := Lib.hid hub
        clear hu hub p4
        go_wp2_with fail
        refine (hmy.out _).mono ?_
        rintro e w6 ⟨rfl, rfl⟩
        go_wp2_with fail
        refine (awakeObj_any _).mono ?_
        rintro e w10 ⟨rfl, hu⟩
        have HU10 := Lib.hid (HMx.out.2.trans (HUb.out.trans hu))
        clear hu
        go_wp2_with fail
        go_ret
        exact ⟨rfl, HU10.out⟩
      · rw [h3] at hmy
        have hnb : ¬ (rightB L = false ∨ a < 1 ∨ a ≤ (lastV L).at_ ∨ mayB s g = false) := by
          rintro (e | e | e | e)
          · rw [hR] at e; cases e
          · exact h1 e
          · exact h2 e
          · rw [h3] at e; cases e
        by_cases h4 : (lastV L).num = 18446744073709551615
        · rw [show putV L a s g = (9, []) by unfold putV; rw [if_neg hnb, if_pos h4]] at hpt
          have hd4 : (((lastV L).num : Int) == 18446744073709551615) = true := by simp; omega
          generalize lastV L = Z at *
          clear hR h3 h4 hnb
          go_enter Try.func12, Try.ntmps12
          go_wp2_with fail
          refine ho.out.mono ?_
          rintro e w1 ⟨v1, rfl, hM⟩
          obtain ⟨A1, c1, _, rfl, _⟩ := hM.1.read
          obtain ⟨wb1, hwb1⟩ : ∃ wb, w1.alloc (.cells #[.slice A1 L.length c1] 44) = wb := ⟨_, rfl⟩
          obtain ⟨b1, hb1⟩ : ∃ b, w1.heap.size = b := ⟨_, rfl⟩
          have HB1 := Lib.hid (show wb1.heap[b1]? = some (.cells #[.slice A1 L.length c1] 44 (0, 0)) by rw [← hwb1, ← hb1]; exact heap_alloc_new _ _)
          have p1 : wb1.cell? ⟨b1, 0, none⟩ = some (.slice A1 L.length c1) := by simp [World.cell?, HB1.out]
          have HM1 := Lib.hid (show Mine Rep.ver 50 _ wb1 (.slice A1 L.length c1) L by rw [← hwb1]; exact hM.upd ((Upd.refl NoB w1).alloc _))
          clear hM
          go_wp2_with fail
          refine (hpl.out _ _ _ HM1.out.1.read).mono ?_
          rintro e w2 ⟨v2, rfl, hM⟩
          obtain ⟨A2, c2, _, rfl, _⟩ := hM.1.read
          have HP2 := Lib.hid hM
          clear hwb1
          go_wp2_with fail
          refine (hrr.out _ _ _ HP2.out.1.read).mono ?_
          rintro e w3 ⟨rfl, hu⟩
          have HP3 := Lib.hid (HP2.out.upd hu)
          have HU3 := Lib.hid HP3.out.2
          have p3 := HU3.out.cell p1 (fun h => h)
          have HM3 := Lib.hid (HM1.out.upd HU3.out)
          clear hu p1
          have p4 := ((Upd.refl NoB w3).alloc (.cells #[.int .i64 0, .int .u64 0, .string ⟨#[]⟩, .bool false] 62)).cell p3 (fun h => h)
          go_wp2_with fail
          generalize hwx : w3.alloc (.cells #[.int .i64 0, .int .u64 0, .string ⟨#[]⟩, .bool false] 62) = wx at *
          generalize hx3 : w3.heap.size = x3 at *
          have HX := Lib.hid (show wx.heap[x3]? = some (.cells #[.int .i64 Z.at_, .int .u64 Z.num, .string Z.val, .bool Z.gone] 62 (0, 0)) by rw [← hwx, ← hx3, hZ.out]; exact heap_alloc_new _ _)
          have HUx := Lib.hid (show Upd NoB w3 wx by rw [← hwx]; exact (Upd.refl NoB w3).alloc _)
          have HMx := Lib.hid (HM3.out.upd HUx.out)
          clear hwx p3 hx3
          refine (hpt.out _ _ _ HMx.out.1.read).mono ?_
          rintro e w5 ⟨v5, rfl, hM⟩
          have hu := hM.2
          obtain ⟨A5, c5, _, rfl, _⟩ := hM.1.read
          obtain ⟨wb5, hwb5⟩ : ∃ wb, w5.alloc (.cells #[.slice A5 0 c5] 44) = wb := ⟨_, rfl⟩
          obtain ⟨b5, hb5⟩ : ∃ b, w5.heap.size = b := ⟨_, rfl⟩
          have HB5 := Lib.hid (show wb5.heap[b5]? = some (.cells #[.slice A5 0 c5] 44 (0, 0)) by rw [← hwb5, ← hb5]; exact heap_alloc_new _ _)
          have p5 : wb5.cell? ⟨b5, 0, none⟩ = some (.slice A5 0 c5) := by simp [World.cell?, HB5.out]
          have HM5 := Lib.hid (show Mine Rep.ver 50 _ wb5 (.slice A5 0 c5) ([] : List Ver) by rw [← hwb5]; exact hM.upd ((Upd.refl NoB w5).alloc _))
          clear hM
          have hub : Upd NoB wx wb5 := by rw [← hwb5]; exact hu.alloc _
          obtain ⟨j0, j1, j2, j3⟩ := vcells (hub.heap HX.out (fun h => h))
          have HUb := Lib.hid hub
          clear hu hub p4
          go_wp2_with fail
          refine (hmy.out _).mono ?_
          rintro e w6 ⟨rfl, rfl⟩
          go_wp2_with fail
          refine (awakeObj_any _).mono ?_
          rintro e w10 ⟨rfl, hu⟩
          have HU10 := Lib.hid (HMx.out.2.trans (HUb.out.trans hu))
          clear hu
          go_wp2_with fail
          go_ret
          exact ⟨rfl, HU10.out⟩
        · rw [show putV L a s g = (0, L ++ [⟨a, (lastV L).num + 1, s, g⟩]) by unfold putV; rw [if_neg hnb, if_neg h4]] at hpt
          have hd4 : (((lastV L).num : Int) == 18446744073709551615) = false := by simp; omega
          have hsum : IntKind.u64.wrap (((lastV L).num : Int) + 1) = ((lastV L).num : Int) + 1 := by have := hnum.out; simp only [IntKind.wrap, IntKind.bits, IntKind.signed]; simp; omega
          have ha' : -9223372036854775808 ≤ a ∧ a ≤ 9223372036854775807 := by simpa [Lit.wf, IntKind.min, IntKind.max, IntKind.signed, IntKind.bits] using ha
          have hsub : IntKind.i64.wrap (a - 1) = a - 1 := by rw [IntKind.wrap_i64]; omega
          have hfit := Lib.hid (show (⟨a, (lastV L).num + 1, s, g⟩ : Ver).fit from ⟨ha, by show (lastV L).num + 1 < _; have := hnum.out; omega, hs⟩)
          have hR2 := rightB_snoc L a s g hR (by omega) (by omega) h3
          have hund := undo_put L a s g hR (by omega)
          have hL2 : (L ++ [(⟨a, (lastV L).num + 1, s, g⟩ : Ver)]).length ≤ 21 := by simp; omega
          have hun := Lib.hid (fun v w S (h : RSl Rep.ver w S v (L ++ [⟨a, (lastV L).num + 1, s, g⟩])) => undo_any v (L ++ [⟨a, (lastV L).num + 1, s, g⟩]) (a - 1) w h (by omega))
          have hpp := Lib.hid (fun v w S (h : RSl Rep.ver w S v (L ++ [⟨a, (lastV L).num + 1, s, g⟩])) => plain_any v (L ++ [⟨a, (lastV L).num + 1, s, g⟩]) w h (by omega))
          simp only [hR2, hund, if_true] at hun
          generalize lastV L = Z at *
          clear hR hR2 hund h3 h4 hnb hL2 ha'
          go_enter Try.func12, Try.ntmps12
          go_wp2_with fail
          refine ho.out.mono ?_
          rintro e w1 ⟨v1, rfl, hM⟩
          obtain ⟨A1, c1, _, rfl, _⟩ := hM.1.read
          obtain ⟨wb1, hwb1⟩ : ∃ wb, w1.alloc (.cells #[.slice A1 L.length c1] 44) = wb := ⟨_, rfl⟩
          obtain ⟨b1, hb1⟩ : ∃ b, w1.heap.size = b := ⟨_, rfl⟩
          have HB1 := Lib.hid (show wb1.heap[b1]? = some (.cells #[.slice A1 L.length c1] 44 (0, 0)) by rw [← hwb1, ← hb1]; exact heap_alloc_new _ _)
          have p1 : wb1.cell? ⟨b1, 0, none⟩ = some (.slice A1 L.length c1) := by simp [World.cell?, HB1.out]
          have HM1 := Lib.hid (show Mine Rep.ver 50 _ wb1 (.slice A1 L.length c1) L by rw [← hwb1]; exact hM.upd ((Upd.refl NoB w1).alloc _))
          clear hM
          go_wp2_with fail
          refine (hpl.out _ _ _ HM1.out.1.read).mono ?_
          rintro e w2 ⟨v2, rfl, hM⟩
          obtain ⟨A2, c2, _, rfl, _⟩ := hM.1.read
          have HP2 := Lib.hid hM
          clear hwb1
          go_wp2_with fail
          refine (hrr.out _ _ _ HP2.out.1.read).mono ?_
          rintro e w3 ⟨rfl, hu⟩
          have HP3 := Lib.hid (HP2.out.upd hu)
          have HU3 := Lib.hid HP3.out.2
          have p3 := HU3.out.cell p1 (fun h => h)
          have HM3 := Lib.hid (HM1.out.upd HU3.out)
          clear hu p1
          have p4 := ((Upd.refl NoB w3).alloc (.cells #[.int .i64 0, .int .u64 0, .string ⟨#[]⟩, .bool false] 62)).cell p3 (fun h => h)
          go_wp2_with fail
          generalize hwx : w3.alloc (.cells #[.int .i64 0, .int .u64 0, .string ⟨#[]⟩, .bool false] 62) = wx at *
          generalize hx3 : w3.heap.size = x3 at *
          have HX := Lib.hid (show wx.heap[x3]? = some (.cells #[.int .i64 Z.at_, .int .u64 Z.num, .string Z.val, .bool Z.gone] 62 (0, 0)) by rw [← hwx, ← hx3, hZ.out]; exact heap_alloc_new _ _)
          have HUx := Lib.hid (show Upd NoB w3 wx by rw [← hwx]; exact (Upd.refl NoB w3).alloc _)
          have HMx := Lib.hid (HM3.out.upd HUx.out)
          clear hwx p3 hx3
          refine (hpt.out _ _ _ HMx.out.1.read).mono ?_
          rintro e w5 ⟨v5, rfl, hM⟩
          have hu := hM.2
          obtain ⟨A5, c5, _, rfl, _⟩ := hM.1.read
          rw [show (L ++ [(⟨a, Z.num + 1, s, g⟩ : Ver)]).length = L.length + 1 by simp] at hM
          obtain ⟨wb5, hwb5⟩ : ∃ wb, w5.alloc (.cells #[.slice A5 (L.length + 1) c5] 44) = wb := ⟨_, rfl⟩
          obtain ⟨b5, hb5⟩ : ∃ b, w5.heap.size = b := ⟨_, rfl⟩
          have HB5 := Lib.hid (show wb5.heap[b5]? = some (.cells #[.slice A5 (L.length + 1) c5] 44 (0, 0)) by rw [← hwb5, ← hb5]; exact heap_alloc_new _ _)
          have p5 : wb5.cell? ⟨b5, 0, none⟩ = some (.slice A5 (L.length + 1) c5) := by simp [World.cell?, HB5.out]
          have HM5 := Lib.hid (show Mine Rep.ver 50 _ wb5 (.slice A5 (L.length + 1) c5) (L ++ [(⟨a, Z.num + 1, s, g⟩ : Ver)]) by rw [← hwb5]; exact hM.upd ((Upd.refl NoB w5).alloc _))
          clear hM
          have hub : Upd NoB wx wb5 := by rw [← hwb5]; exact hu.alloc _
          have hbx := hub.heap HX.out (fun h => h)
          have HX5 := Lib.hid hbx
          obtain ⟨j0, j1, j2, j3⟩ := vcells hbx
          have p6 := Lib.hid (hub.cell p4 (fun h => h))
          have HUb := Lib.hid hub
          have HM6 := Lib.hid (HMx.out.upd hub)
          clear hu hub p4 hbx
          go_wp2_with fail
          refine (hmy.out _).mono ?_
          rintro e w6 ⟨rfl, rfl⟩
          clear hwb5
          go_wp2_with fail
          have P5 := Lib.hid p5
          have J1 := Lib.hid j1
          have hB1 : b1 < wb5.heap.size := World.block_lt_of_cell? wb5 _ p6.out
          have hB2 : x3 < wb5.heap.size := World.block_lt_of_cell? wb5 _ J1.out
          clear p5 j0 j1 j2 j3
          refine sched_begin (fun b => wb5.heap.size ≤ b) (by kernel_rfl) ?_
          refine sched_take 0 rfl (by kernel_rfl) (by kernel_rfl) (by kernel_rfl) (fun _ _ _ h => h) rfl (fun x hx => by have q := hx.cell p6.out (fun e => by have e' : wb5.heap.size ≤ b1 := e; omega); go_simp; rfl) ?_
          go_simp
          refine sched_take 2 rfl (by kernel_rfl) (by kernel_rfl) (by kernel_rfl) (fun _ _ _ h => h) rfl (fun x hx => by go_simp; rfl) ?_
          go_simp
          refine sched_take 3 rfl (by kernel_rfl) (by kernel_rfl) (by kernel_rfl) (fun _ _ _ h => h) rfl (fun x hx => by go_simp; rfl) ?_
          go_simp
          refine sched_take 4 rfl (by kernel_rfl) (by kernel_rfl) (by kernel_rfl) (fun _ _ _ h => h) rfl (fun x hx => by have q := hx.cell J1.out (fun e => by have e' : wb5.heap.size ≤ x3 := e; omega); go_simp; rfl) ?_
          go_simp
          refine sched_take 5 rfl (by kernel_rfl) (by kernel_rfl) (by kernel_rfl) (fun _ _ _ h => h) rfl (fun x hx => by go_simp; rfl) ?_
          go_simp
          refine sched_take 6 rfl (by kernel_rfl) (by kernel_rfl) (by kernel_rfl) (fun _ _ _ h => h) rfl (fun x hx => by go_simp; rfl) ?_
          go_simp
          refine sched_take 7 rfl (by kernel_rfl) (by kernel_rfl) (by kernel_rfl) (fun _ _ _ h => h) rfl (fun x hx => by go_simp; rfl) ?_
          go_simp
          refine sched_take 8 rfl (by kernel_rfl) (by kernel_rfl) (by kernel_rfl) (fun _ _ _ h => h) rfl (fun x hx => by go_simp; rfl) ?_
          go_simp
          refine sched_two 1 9 (by kernel_rfl) rfl rfl rfl rfl ?_ ?_
          · go_simp
            refine (hpl.out _ _ _ (HM6.out.upd (Upd.refl NoB wb5).drew).1.read).mono ?_
            rintro e w7 ⟨vc, rfl, hM0⟩
            refine ⟨hM0.2.mono (fun _ _ h => h.elim), ?_⟩
            have hMd := Lib.hid (hM0.upd ((Upd.refl NoB w7).alloc (.cells #[.int .i64 a, .int .u64 ((Z.num : Int) + 1), .string s, .bool g] 62)))
            have hbox := Lib.hid (box_rsl ⟨a, Z.num + 1, s, g⟩ w7 62 hfit.out)
            have HUz := Lib.hid (show Upd NoB wb5 wb5.drew from (Upd.refl NoB wb5).drew)
            clear hM0
            go_simp
            refine sched_alone 9 (by kernel_rfl) rfl rfl ?_
            go_simp
            refine ⟨(Upd.refl _ _).alloc _, ?_⟩
            have HO := Lib.hid hMd.out.1
            have HB := Lib.hid hMd.out.bd
            refine sched_law 10 (by kernel_rfl) rfl rfl ?_
            go_simp
            at_builtin
            refine app_all (r := Rep.ver) (v := vc) rfl _ _ 41 62 (.agg #[.int .i64 0, .int .u64 0, .string ⟨#[]⟩, .bool false]) 40 rfl Try.underlying41 iRVer rfl (by decide) rfl rfl HO.out HB.out hbox.out (fun cs hc => Rows.flat flat_ver hc _ _) (by simp only [List.length_cons, List.length_nil]; omega) ?_
            intro v2 w8 ho2 hu2
            have hge := fun b hb => hMd.out.own_ge b hb
            refine law_done ⟨hu2.mono (fun b _ hb => Nat.le_trans (show wb5.heap.size ≤ wb5.heap.size by omega) (hge b hb)), ?_⟩
            have fin := Lib.hid (hMd.out.app ho2 hu2)
            clear ho2 hu2 hge
            obtain ⟨A8, c8, _, rfl, _⟩ := fin.out.1.read
            have HU8 := Lib.hid (HUz.out.trans fin.out.2)
            have hw0 := fin.out.1.read
            rw [show (L ++ [(⟨a, Z.num + 1, s, g⟩ : Ver)]).length = L.length + 1 by simp] at hw0
            have HW := Lib.hid hw0
            clear hw0
            have P5' := Lib.hid (HU8.out.cell P5.out (fun h => h))
            have P1' := Lib.hid (HU8.out.cell p6.out (fun h => h))
            have HL8 := Lib.hid (HM6.out.upd HU8.out).1.read
            have HP8 := Lib.hid (HM5.out.upd HU8.out).1.read
            have HUU := Lib.hid (HMx.out.2.trans (HUb.out.trans HU8.out))
            go_simp
            refine sched_take 11 rfl (by kernel_rfl) (by kernel_rfl) (by kernel_rfl) (fun _ _ _ h => h) rfl (fun x hx => by go_simp; rfl) ?_
            go_simp
            refine sched_done (by kernel_rfl) ?_
            go_wp2_with fail
            refine sched_begin NoB (by kernel_rfl) ?_
            refine sched_take 0 rfl (by kernel_rfl) (by kernel_rfl) (by kernel_rfl) (fun _ _ _ h => h) rfl (fun x hx => by go_simp; rfl) ?_
            go_simp
            refine sched_take 1 rfl (by kernel_rfl) (by kernel_rfl) (by kernel_rfl) (fun _ _ _ h => h) rfl (fun x hx => by go_simp; rfl) ?_
            go_simp
            refine sched_take 2 rfl (by kernel_rfl) (by kernel_rfl) (by kernel_rfl) (fun _ _ _ h => h) rfl (fun x hx => by go_simp; rfl) ?_
            go_simp
            refine sched_take 3 rfl (by kernel_rfl) (by kernel_rfl) (by kernel_rfl) (fun _ _ _ h => h) rfl (fun x hx => by have q := hx.cell P5'.out (fun h => h); go_simp; rfl) ?_
            go_simp
            refine sched_take 5 rfl (by kernel_rfl) (by kernel_rfl) (by kernel_rfl) (fun _ _ _ h => h) rfl (fun x hx => by go_simp; rfl) ?_
            go_simp
            refine sched_alone 4 (by kernel_rfl) rfl rfl ?_
            go_simp
            refine (hpp.out _ _ _ (HP8.out.upd (Upd.refl NoB w8).drew (fun _ _ h => h))).mono ?_
            rintro e w9 ⟨v9, rfl, hM0⟩
            refine ⟨hM0.2, ?_⟩
            have HM9 := Lib.hid hM0
            have HU9 := Lib.hid ((Upd.refl NoB w8).drew.trans hM0.2)
            clear hM0
            go_simp
            refine sched_alone 6 (by kernel_rfl) rfl rfl ?_
            go_simp
            refine (refsame_any _ _ _ _ _ HM9.out.1.read (HW.out.upd HU9.out (fun _ _ h => h))).mono ?_
            rintro e w10 ⟨rfl, hu⟩
            have HU10 := Lib.hid (HU9.out.trans hu)
            refine ⟨hu, ?_⟩
            clear hu
            go_simp
            refine sched_take 7 rfl (by kernel_rfl) (by kernel_rfl) (by kernel_rfl) (fun _ _ _ h => h) rfl (fun x hx => by go_simp; rfl) ?_
            go_simp
            refine sched_take 8 rfl (by kernel_rfl) (by kernel_rfl) (by kernel_rfl) (fun _ _ _ h => h) rfl (fun x hx => by go_simp; rfl) ?_
            go_simp
            refine sched_take 9 rfl (by kernel_rfl) (by kernel_rfl) (by kernel_rfl) (fun _ _ _ h => h) rfl (fun x hx => by have q := (HU10.out.trans hx).cell P5'.out (fun h => h); go_simp; rfl) ?_
            go_simp
            refine sched_take 10 rfl (by kernel_rfl) (by kernel_rfl) (by kernel_rfl) (fun _ _ _ h => h) rfl (fun x hx => by go_simp; rfl) ?_
            go_simp
            refine sched_take 11 rfl (by kernel_rfl) (by kernel_rfl) (by kernel_rfl) (fun _ _ _ h => h) rfl (fun x hx => by go_simp; rfl) ?_
            go_simp
            refine sched_take 13 rfl (by kernel_rfl) (by kernel_rfl) (by kernel_rfl) (fun _ _ _ h => h) rfl (fun x hx => by have q := (HU10.out.trans hx).cell P1'.out (fun h => h); go_simp; rfl) ?_
            go_simp
            refine sched_alone 12 (by kernel_rfl) rfl rfl ?_
            go_simp
            refine (hun.out _ _ _ (HP8.out.upd HU10.out (fun _ _ h => h))).mono ?_
            rintro e w11 ⟨v11, rfl, hM0⟩
            refine ⟨hM0.2, ?_⟩
            have HM11 := Lib.hid hM0
            have HU11 := Lib.hid (HU10.out.trans hM0.2)
            clear hM0
            go_simp
            refine sched_alone 14 (by kernel_rfl) rfl rfl ?_
            go_simp
            refine (same_any _ _ _ _ _ HM11.out.1.read (HL8.out.upd HU11.out (fun _ _ h => h))).mono ?_
            rintro e w12 ⟨rfl, hu⟩
            have HU12 := Lib.hid (HU11.out.trans hu)
            refine ⟨hu, ?_⟩
            clear hu
            go_simp
            refine sched_take 15 rfl (by kernel_rfl) (by kernel_rfl) (by kernel_rfl) (fun _ _ _ h => h) rfl (fun x hx => by go_simp; rfl) ?_
            go_simp
            refine sched_take 16 rfl (by kernel_rfl) (by kernel_rfl) (by kernel_rfl) (fun _ _ _ h => h) rfl (fun x hx => by go_simp; rfl) ?_
            go_simp
            refine sched_alone 17 (by kernel_rfl) rfl rfl ?_
            go_simp
            refine (awakeObj_any _).mono ?_
            rintro e w13 ⟨rfl, hu⟩
            have HU13 := Lib.hid (HUU.out.trans (HU12.out.trans hu))
            refine ⟨hu, ?_⟩
            clear hu
            go_simp
            refine sched_take 18 rfl (by kernel_rfl) (by kernel_rfl) (by kernel_rfl) (fun _ _ _ h => h) rfl (fun x hx => by go_simp; rfl) ?_
            go_simp
            refine sched_take 19 rfl (by kernel_rfl) (by kernel_rfl) (by kernel_rfl) (fun _ _ _ h => h) rfl (fun x hx => by go_simp; rfl) ?_
            go_simp
            refine sched_done (by kernel_rfl) ?_
            go_wp2_with fail
            go_ret
            exact ⟨rfl, HU13.out⟩
          · go_simp
            refine ⟨have hh := (Upd.refl (fun b => wb5.heap.size ≤ b) wb5).alloc (.cells #[.int .i64 a, .int .u64 ((Z.num : Int) + 1), .string s, .bool g] 62); ⟨hh.os, hh.tape, hh.output, hh.size, hh.block⟩, ?_⟩
            have hbox0 := box_rsl ⟨a, Z.num + 1, s, g⟩ wb5 62 hfit.out
            have hUz := ((Upd.refl NoB wb5).alloc (.cells #[.int .i64 a, .int .u64 ((Z.num : Int) + 1), .string s, .bool g] 62)).drew
            obtain ⟨wd, hwd⟩ : ∃ wd, (wb5.alloc (.cells #[.int .i64 a, .int .u64 ((Z.num : Int) + 1), .string s, .bool g] 62)).drew = wd := ⟨_, rfl⟩
            have hbox1 : RSl Rep.ver wd (fun _ => True) (.slice (some ⟨wb5.heap.size, 0, none⟩) 1 1) [⟨a, Z.num + 1, s, g⟩] := by rw [← hwd]; exact hbox0
            rw [hwd] at hUz
            have HUz := Lib.hid hUz
            have hwl : wb5.heap.size ≤ wd.heap.size := hUz.size
            clear hbox0 hUz
            go_simp
            clear hwd
            refine sched_alone 1 (by kernel_rfl) rfl rfl ?_
            go_simp
            refine (hpl.out _ _ _ (HM6.out.upd HUz.out).1.read).mono ?_
            rintro e w7 ⟨vc, rfl, hM0⟩
            refine ⟨hM0.2.mono (fun _ _ h => h.elim), ?_⟩
            have hMd := Lib.hid hM0
            have hbox := Lib.hid (hbox1.upd hM0.2 (fun _ _ h => h))
            clear hM0 hbox1
            go_simp
            have HO := Lib.hid hMd.out.1
            have HB := Lib.hid hMd.out.bd
            refine sched_law 10 (by kernel_rfl) rfl rfl ?_
            go_simp
            at_builtin
            refine app_all (r := Rep.ver) (v := vc) rfl _ _ 41 62 (.agg #[.int .i64 0, .int .u64 0, .string ⟨#[]⟩, .bool false]) 40 rfl Try.underlying41 iRVer rfl (by decide) rfl rfl HO.out HB.out hbox.out (fun cs hc => Rows.flat flat_ver hc _ _) (by simp only [List.length_cons, List.length_nil]; omega) ?_
            intro v2 w8 ho2 hu2
            have hge := fun b hb => hMd.out.own_ge b hb
            refine law_done ⟨hu2.mono (fun b _ hb => Nat.le_trans (show wb5.heap.size ≤ wd.heap.size by omega) (hge b hb)), ?_⟩
            have fin := Lib.hid (hMd.out.app ho2 hu2)
            clear ho2 hu2 hge
            obtain ⟨A8, c8, _, rfl, _⟩ := fin.out.1.read
            have HU8 := Lib.hid (HUz.out.trans fin.out.2)
            have hw0 := fin.out.1.read
            rw [show (L ++ [(⟨a, Z.num + 1, s, g⟩ : Ver)]).length = L.length + 1 by simp] at hw0
            have HW := Lib.hid hw0
            clear hw0
            have P5' := Lib.hid (HU8.out.cell P5.out (fun h => h))
            have P1' := Lib.hid (HU8.out.cell p6.out (fun h => h))
            have HL8 := Lib.hid (HM6.out.upd HU8.out).1.read
            have HP8 := Lib.hid (HM5.out.upd HU8.out).1.read
            have HUU := Lib.hid (HMx.out.2.trans (HUb.out.trans HU8.out))
            go_simp
            refine sched_take 11 rfl (by kernel_rfl) (by kernel_rfl) (by kernel_rfl) (fun _ _ _ h => h) rfl (fun x hx => by go_simp; rfl) ?_
            go_simp
            refine sched_done (by kernel_rfl) ?_
            go_wp2_with fail
            refine sched_begin NoB (by kernel_rfl) ?_
            refine sched_take 0 rfl (by kernel_rfl) (by kernel_rfl) (by kernel_rfl) (fun _ _ _ h => h) rfl (fun x hx => by go_simp; rfl) ?_
            go_simp
            refine sched_take 1 rfl (by kernel_rfl) (by kernel_rfl) (by kernel_rfl) (fun _ _ _ h => h) rfl (fun x hx => by go_simp; rfl) ?_
            go_simp
            refine sched_take 2 rfl (by kernel_rfl) (by kernel_rfl) (by kernel_rfl) (fun _ _ _ h => h) rfl (fun x hx => by go_simp; rfl) ?_
            go_simp
            refine sched_take 3 rfl (by kernel_rfl) (by kernel_rfl) (by kernel_rfl) (fun _ _ _ h => h) rfl (fun x hx => by have q := hx.cell P5'.out (fun h => h); go_simp; rfl) ?_
            go_simp
            refine sched_take 5 rfl (by kernel_rfl) (by kernel_rfl) (by kernel_rfl) (fun _ _ _ h => h) rfl (fun x hx => by go_simp; rfl) ?_
            go_simp
            refine sched_alone 4 (by kernel_rfl) rfl rfl ?_
            go_simp
            refine (hpp.out _ _ _ (HP8.out.upd (Upd.refl NoB w8).drew (fun _ _ h => h))).mono ?_
            rintro e w9 ⟨v9, rfl, hM0⟩
            refine ⟨hM0.2, ?_⟩
            have HM9 := Lib.hid hM0
            have HU9 := Lib.hid ((Upd.refl NoB w8).drew.trans hM0.2)
            clear hM0
            go_simp
            refine sched_alone 6 (by kernel_rfl) rfl rfl ?_
            go_simp
            refine (refsame_any _ _ _ _ _ HM9.out.1.read (HW.out.upd HU9.out (fun _ _ h => h))).mono ?_
            rintro e w10 ⟨rfl, hu⟩
            have HU10 := Lib.hid (HU9.out.trans hu)
            refine ⟨hu, ?_⟩
            clear hu
            go_simp
            refine sched_take 7 rfl (by kernel_rfl) (by kernel_rfl) (by kernel_rfl) (fun _ _ _ h => h) rfl (fun x hx => by go_simp; rfl) ?_
            go_simp
            refine sched_take 8 rfl (by kernel_rfl) (by kernel_rfl) (by kernel_rfl) (fun _ _ _ h => h) rfl (fun x hx => by go_simp; rfl) ?_
            go_simp
            refine sched_take 9 rfl (by kernel_rfl) (by kernel_rfl) (by kernel_rfl) (fun _ _ _ h => h) rfl (fun x hx => by have q := (HU10.out.trans hx).cell P5'.out (fun h => h); go_simp; rfl) ?_
            go_simp
            refine sched_take 10 rfl (by kernel_rfl) (by kernel_rfl) (by kernel_rfl) (fun _ _ _ h => h) rfl (fun x hx => by go_simp; rfl) ?_
            go_simp
            refine sched_take 11 rfl (by kernel_rfl) (by kernel_rfl) (by kernel_rfl) (fun _ _ _ h => h) rfl (fun x hx => by go_simp; rfl) ?_
            go_simp
            refine sched_take 13 rfl (by kernel_rfl) (by kernel_rfl) (by kernel_rfl) (fun _ _ _ h => h) rfl (fun x hx => by have q := (HU10.out.trans hx).cell P1'.out (fun h => h); go_simp; rfl) ?_
            go_simp
            refine sched_alone 12 (by kernel_rfl) rfl rfl ?_
            go_simp
            refine (hun.out _ _ _ (HP8.out.upd HU10.out (fun _ _ h => h))).mono ?_
            rintro e w11 ⟨v11, rfl, hM0⟩
            refine ⟨hM0.2, ?_⟩
            have HM11 := Lib.hid hM0
            have HU11 := Lib.hid (HU10.out.trans hM0.2)
            clear hM0
            go_simp
            refine sched_alone 14 (by kernel_rfl) rfl rfl ?_
            go_simp
            refine (same_any _ _ _ _ _ HM11.out.1.read (HL8.out.upd HU11.out (fun _ _ h => h))).mono ?_
            rintro e w12 ⟨rfl, hu⟩
            have HU12 := Lib.hid (HU11.out.trans hu)
            refine ⟨hu, ?_⟩
            clear hu
            go_simp
            refine sched_take 15 rfl (by kernel_rfl) (by kernel_rfl) (by kernel_rfl) (fun _ _ _ h => h) rfl (fun x hx => by go_simp; rfl) ?_
            go_simp
            refine sched_take 16 rfl (by kernel_rfl) (by kernel_rfl) (by kernel_rfl) (fun _ _ _ h => h) rfl (fun x hx => by go_simp; rfl) ?_
            go_simp
            refine sched_alone 17 (by kernel_rfl) rfl rfl ?_
            go_simp
            refine (awakeObj_any _).mono ?_
            rintro e w13 ⟨rfl, hu⟩
            have HU13 := Lib.hid (HUU.out.trans (HU12.out.trans hu))
            refine ⟨hu, ?_⟩
            clear hu
            go_simp
            refine sched_take 18 rfl (by kernel_rfl) (by kernel_rfl) (by kernel_rfl) (fun _ _ _ h => h) rfl (fun x hx => by go_simp; rfl) ?_
            go_simp
            refine sched_take 19 rfl (by kernel_rfl) (by kernel_rfl) (by kernel_rfl) (fun _ _ _ h => h) rfl (fun x hx => by go_simp; rfl) ?_
            go_simp
            refine sched_done (by kernel_rfl) ?_
            go_wp2_with fail
            go_ret
            exact ⟨rfl, HU13.out⟩
set_option maxHeartbeats 16000000 in
set_option maxRecDepth 100000 in
theorem objPut_some {S : Nat → Prop} (v : Value) (l L : List Ver) (hLl : l.take 20 = L) (hL : L.length ≤ 20) (hR : rightB L = true) (hfL : ∀ x, x ∈ L → x.fit) (a : Int) (s : ByteArray) (g : Bool) (w : World) (h : RSl Rep.ver w S v l) (hs : s.size ≤ 9223372036854775807) (ha : (Lit.int .i64 a).wf = true) (hLn : 0 < L.length) :
    Calls Try.prog 12 #[v, .int .i64 a, .string s, .bool g] w fun e w' => e = .returned (.bool true) ∧ Upd NoB w w' := by
  have ho := Lib.hid (ours_any v l w h)
  obtain ⟨A, c, cs, rfl, _⟩ := id h
  rw [hLl] at ho
  clear h hLl
  have hrr := Lib.hid (fun v w S (h : RSl Rep.ver w S v L) => refright_obj v L w h (by omega))
  have hpl := Lib.hid (fun v w S (h : RSl Rep.ver w S v L) => plain_any v L w h (by omega))
  have hpt := Lib.hid (fun v w S (h : RSl Rep.ver w S v L) => put_any v L a s g w h (by omega) hs ha)
  have hmy := Lib.hid (fun w => may_any s g w hs)
  rw [hR] at hrr
  have hltL : L.length - 1 < L.length := by omega
  have hZ := Lib.hid (show lastV L = L[L.length - 1] from lastV_at L hR _ (List.getElem?_eq_getElem hltL))
  have hnum := Lib.hid (show (lastV L).num < 18446744073709551616 by rw [hZ.out]; exact (hfL _ (List.getElem_mem hltL)).2.1)
  have hgt : decide (0 < (L.length : Int)) = true := decide_eq_true (by omega)
  have hpos : 0 < (L.length : Int) := by omega
  have hn1 : (1 : Int) ≤ (L.length : Int) := by omega
  have hn2 : (L.length : Int) - 1 < (L.length : Int) := by omega
  have hn3 : ((L.length : Int) - 1).toNat = L.length - 1 := by omega
  have hn4 : (0 : Int) ≤ (L.length : Int) - 1 := by omega
  clear hfL hLn
  by_cases h1 : a < 1
  · rw [show putV L a s g = (1, []) by unfold putV; rw [if_pos (.inr (.inl h1))]] at hpt
    have hd1 : decide (a < 1) = true := decide_eq_true h1
    generalize lastV L = Z at *
    clear hR
    go_enter Try.func12, Try.ntmps12
    go_wp2_with fail
    refine ho.out.mono ?_
    rintro e w1 ⟨v1, rfl, hM⟩
    obtain ⟨A1, c1, _, rfl, _⟩ := hM.1.read
    obtain ⟨wb1, hwb1⟩ : ∃ wb, w1.alloc (.cells #[.slice A1 L.length c1] 44) = wb := ⟨_, rfl⟩
    obtain ⟨b1, hb1⟩ : ∃ b, w1.heap.size = b := ⟨_, rfl⟩
    have HB1 := Lib.hid (show wb1.heap[b1]? = some (.cells #[.slice A1 L.length c1] 44 (0, 0)) by rw [← hwb1, ← hb1]; exact heap_alloc_new _ _)
    have p1 : wb1.cell? ⟨b1, 0, none⟩ = some (.slice A1 L.length c1) := by simp [World.cell?, HB1.out]
    have HM1 := Lib.hid (show Mine Rep.ver 50 _ wb1 (.slice A1 L.length c1) L by rw [← hwb1]; exact hM.upd ((Upd.refl NoB w1).alloc _))
    clear hM
    go_wp2_with fail
    refine (hpl.out _ _ _ HM1.out.1.read).mono ?_
    rintro e w2 ⟨v2, rfl, hM⟩
    obtain ⟨A2, c2, _, rfl, _⟩ := hM.1.read
    have HP2 := Lib.hid hM
    clear hwb1
    go_wp2_with fail
    refine (hrr.out _ _ _ HP2.out.1.read).mono ?_
    rintro e w3 ⟨rfl, hu⟩
    have HP3 := Lib.hid (HP2.out.upd hu)
    have HU3 := Lib.hid HP3.out.2
    have p3 := HU3.out.cell p1 (fun h => h)
    have HM3 := Lib.hid (HM1.out.upd HU3.out)
    clear hu p1
    obtain ⟨g0, o0, rcs, rfl, hrep, hcs, hg⟩ := HP3.out.1.read.cellN (L.length - 1) hltL
    obtain ⟨hr1, hr2, hr3, hr4⟩ := hrep
    subst hr1
    have u3 : Upd NoB w3 (w3.alloc (.cells #[.int .i64 0, .int .u64 0, .string ⟨#[]⟩, .bool false] 62)) := (Upd.refl NoB w3).alloc _
    have k0 := u3.cell (show w3.cell? ⟨g0, o0 + (L.length - 1) * 4, none⟩ = some (.int .i64 L[L.length - 1].at_) from hcs 0 _ rfl) (fun h => h)
    have k1 := u3.cell (show w3.cell? ⟨g0, o0 + (L.length - 1) * 4 + 1, none⟩ = some (.int .u64 L[L.length - 1].num) from hcs 1 _ rfl) (fun h => h)
    have k2 := u3.cell (show w3.cell? ⟨g0, o0 + (L.length - 1) * 4 + 2, none⟩ = some (.string L[L.length - 1].val) from hcs 2 _ rfl) (fun h => h)
    have k3 := u3.cell (show w3.cell? ⟨g0, o0 + (L.length - 1) * 4 + 3, none⟩ = some (.bool L[L.length - 1].gone) from hcs 3 _ rfl) (fun h => h)
    rw [← hZ.out] at k0 k1 k2 k3
    have p4 := ((Upd.refl NoB w3).alloc (.cells #[.int .i64 Z.at_, .int .u64 Z.num, .string Z.val, .bool Z.gone] 62)).cell p3 (fun h => h)
    clear hcs hr2 hr3 hr4 hg u3
    go_wp2_with fail
    generalize hwx : w3.alloc (.cells #[.int .i64 Z.at_, .int .u64 Z.num, .string Z.val, .bool Z.gone] 62) = wx at *
    generalize hx3 : w3.heap.size = x3 at *
    have HX := Lib.hid (show wx.heap[x3]? = some (.cells #[.int .i64 Z.at_, .int .u64 Z.num, .string Z.val, .bool Z.gone] 62 (0, 0)) by rw [← hwx, ← hx3]; exact heap_alloc_new _ _)
    have HUx := Lib.hid (show Upd NoB w3 wx by rw [← hwx]; exact (Upd.refl NoB w3).alloc _)
    clear k0 k1 k2 k3
    have HMx := Lib.hid (HM3.out.upd HUx.out)
    clear hwx p3 hx3
    refine (hpt.out _ _ _ HMx.out.1.read).mono ?_
    rintro e w5 ⟨v5, rfl, hM⟩
    have hu := hM.2
    obtain ⟨A5, c5, _, rfl, _⟩ := hM.1.read
    obtain ⟨wb5, hwb5⟩ : ∃ wb, w5.alloc (.cells #[.slice A5 0 c5] 44) = wb := ⟨_, rfl⟩
    obtain ⟨b5, hb5⟩ : ∃ b, w5.heap.size = b := ⟨_, rfl⟩
    have HB5 := Lib.hid (show wb5.heap[b5]? = some (.cells #[.slice A5 0 c5] 44 (0, 0)) by rw [← hwb5, ← hb5]; exact heap_alloc_new _ _)
    have p5 : wb5.cell? ⟨b5, 0, none⟩ = some (.slice A5 0 c5) := by simp [World.cell?, HB5.out]
    have HM5 := Lib.hid (show Mine Rep.ver 50 _ wb5 (.slice A5 0 c5) ([] : List Ver) by rw [← hwb5]; exact hM.upd ((Upd.refl NoB w5).alloc _))
    clear hM
    have hub : Upd NoB wx wb5 := by rw [← hwb5]; exact hu.alloc _
    obtain ⟨j0, j1, j2, j3⟩ := vcells (hub.heap HX.out (fun h => h))
    have HUb := Lib.hid hub
    clear hu hub p4
    go_wp2_with fail
    refine (awakeObj_any _).mono ?_
    rintro e w10 ⟨rfl, hu⟩
    have HU10 := Lib.hid (HMx.out.2.trans (HUb.out.trans hu))
    clear hu
    go_wp2_with fail
    go_ret
    exact ⟨rfl, HU10.out⟩
  · have hd1 : decide (a < 1) = false := decide_eq_false h1
    by_cases h2 : a ≤ (lastV L).at_
    · rw [show putV L a s g = (1, []) by unfold putV; rw [if_pos (.inr (.inr (.inl h2)))]] at hpt
      have hd2 : decide (a ≤ (lastV L).at_) = true := decide_eq_true h2
      generalize lastV L = Z at *
      clear hR
      go_enter Try.func12, Try.ntmps12
      go_wp2_with fail
      refine ho.out.mono ?_
      rintro e w1 ⟨v1, rfl, hM⟩
      obtain ⟨A1, c1, _, rfl, _⟩ := hM.1.read
      obtain ⟨wb1, hwb1⟩ : ∃ wb, w1.alloc (.cells #[.slice A1 L.length c1] 44) = wb := ⟨_, rfl⟩
      obtain ⟨b1, hb1⟩ : ∃ b, w1.heap.size = b := ⟨_, rfl⟩
      have HB1 := Lib.hid (show wb1.heap[b1]? = some (.cells #[.slice A1 L.length c1] 44 (0, 0)) by rw [← hwb1, ← hb1]; exact heap_alloc_new _ _)
      have p1 : wb1.cell? ⟨b1, 0, none⟩ = some (.slice A1 L.length c1) := by simp [World.cell?, HB1.out]
      have HM1 := Lib.hid (show Mine Rep.ver 50 _ wb1 (.slice A1 L.length c1) L by rw [← hwb1]; exact hM.upd ((Upd.refl NoB w1).alloc _))
      clear hM
      go_wp2_with fail
      refine (hpl.out _ _ _ HM1.out.1.read).mono ?_
      rintro e w2 ⟨v2, rfl, hM⟩
      obtain ⟨A2, c2, _, rfl, _⟩ := hM.1.read
      have HP2 := Lib.hid hM
      clear hwb1
      go_wp2_with fail
      refine (hrr.out _ _ _ HP2.out.1.read).mono ?_
      rintro e w3 ⟨rfl, hu⟩
      have HP3 := Lib.hid (HP2.out.upd hu)
      have HU3 := Lib.hid HP3.out.2
      have p3 := HU3.out.cell p1 (fun h => h)
      have HM3 := Lib.hid (HM1.out.upd HU3.out)
      clear hu p1
      obtain ⟨g0, o0, rcs, rfl, hrep, hcs, hg⟩ := HP3.out.1.read.cellN (L.length - 1) hltL
      obtain ⟨hr1, hr2, hr3, hr4⟩ := hrep
      subst hr1
      have u3 : Upd NoB w3 (w3.alloc (.cells #[.int .i64 0, .int .u64 0, .string ⟨#[]⟩, .bool false] 62)) := (Upd.refl NoB w3).alloc _
      have k0 := u3.cell (show w3.cell? ⟨g0, o0 + (L.length - 1) * 4, none⟩ = some (.int .i64 L[L.length - 1].at_) from hcs 0 _ rfl) (fun h => h)
      have k1 := u3.cell (show w3.cell? ⟨g0, o0 + (L.length - 1) * 4 + 1, none⟩ = some (.int .u64 L[L.length - 1].num) from hcs 1 _ rfl) (fun h => h)
      have k2 := u3.cell (show w3.cell? ⟨g0, o0 + (L.length - 1) * 4 + 2, none⟩ = some (.string L[L.length - 1].val) from hcs 2 _ rfl) (fun h => h)
      have k3 := u3.cell (show w3.cell? ⟨g0, o0 + (L.length - 1) * 4 + 3, none⟩ = some (.bool L[L.length - 1].gone) from hcs 3 _ rfl) (fun h => h)
      rw [← hZ.out] at k0 k1 k2 k3
      have p4 := ((Upd.refl NoB w3).alloc (.cells #[.int .i64 Z.at_, .int .u64 Z.num, .string Z.val, .bool Z.gone] 62)).cell p3 (fun h => h)
      clear hcs hr2 hr3 hr4 hg u3
      go_wp2_with fail
      generalize hwx : w3.alloc (.cells #[.int .i64 Z.at_, .int .u64 Z.num, .string Z.val, .bool Z.gone] 62) = wx at *
      generalize hx3 : w3.heap.size = x3 at *
      have HX := Lib.hid (show wx.heap[x3]? = some (.cells #[.int .i64 Z.at_, .int .u64 Z.num, .string Z.val, .bool Z.gone] 62 (0, 0)) by rw [← hwx, ← hx3]; exact heap_alloc_new _ _)
      have HUx := Lib.hid (show Upd NoB w3 wx by rw [← hwx]; exact (Upd.refl NoB w3).alloc _)
      clear k0 k1 k2 k3
      have HMx := Lib.hid (HM3.out.upd HUx.out)
      clear hwx p3 hx3
      refine (hpt.out _ _ _ HMx.out.1.read).mono ?_
      rintro e w5 ⟨v5, rfl, hM⟩
      have hu := hM.2
      obtain ⟨A5, c5, _, rfl, _⟩ := hM.1.read
      obtain ⟨wb5, hwb5⟩ : ∃ wb, w5.alloc (.cells #[.slice A5 0 c5] 44) = wb := ⟨_, rfl⟩
      obtain ⟨b5, hb5⟩ : ∃ b, w5.heap.size = b := ⟨_, rfl⟩
      have HB5 := Lib.hid (show wb5.heap[b5]? = some (.cells #[.slice A5 0 c5] 44 (0, 0)) by rw [← hwb5, ← hb5]; exact heap_alloc_new _ _)
      have p5 : wb5.cell? ⟨b5, 0, none⟩ = some (.slice A5 0 c5) := by simp [World.cell?, HB5.out]
      have HM5 := Lib.hid (show Mine Rep.ver 50 _ wb5 (.slice A5 0 c5) ([] : List Ver) by rw [← hwb5]; exact hM.upd ((Upd.refl NoB w5).alloc _))
      clear hM
      have hub : Upd NoB wx wb5 := by rw [← hwb5]; exact hu.alloc _
      obtain ⟨j0, j1, j2, j3⟩ := vcells (hub.heap HX.out (fun h => h))
      have HUb := Lib.hid hub
      clear hu hub p4
      go_wp2_with fail
      refine (awakeObj_any _).mono ?_
      rintro e w10 ⟨rfl, hu⟩
      have HU10 := Lib.hid (HMx.out.2.trans (HUb.out.trans hu))
      clear hu
      go_wp2_with fail
      go_ret
      exact ⟨rfl, HU10.out⟩
    · have hd2 : decide (a ≤ (lastV L).at_) = false := decide_eq_false h2
      cases h3 : mayB s g
      · rw [show putV L a s g = (1, []) by unfold putV; rw [if_pos (.inr (.inr (.inr h3)))]] at hpt
        rw [h3] at hmy
        generalize lastV L = Z at *
        clear hR h3
        go_enter Try.func12, Try.ntmps12
        go_wp2_with fail
        refine ho.out.mono ?_
        rintro e w1 ⟨v1, rfl, hM⟩
        obtain ⟨A1, c1, _, rfl, _⟩ := hM.1.read
        obtain ⟨wb1, hwb1⟩ : ∃ wb, w1.alloc (.cells #[.slice A1 L.length c1] 44) = wb := ⟨_, rfl⟩
        obtain ⟨b1, hb1⟩ : ∃ b, w1.heap.size = b := ⟨_, rfl⟩
        have HB1 := Lib.hid (show wb1.heap[b1]? = some (.cells #[.slice A1 L.length c1] 44 (0, 0)) by rw [← hwb1, ← hb1]; exact heap_alloc_new _ _)
        have p1 : wb1.cell? ⟨b1, 0, none⟩ = some (.slice A1 L.length c1) := by simp [World.cell?, HB1.out]
        have HM1 := Lib.hid (show Mine Rep.ver 50 _ wb1 (.slice A1 L.length c1) L by rw [← hwb1]; exact hM.upd ((Upd.refl NoB w1).alloc _))
        clear hM
        go_wp2_with fail
        refine (hpl.out _ _ _ HM1.out.1.read).mono ?_
        rintro e w2 ⟨v2, rfl, hM⟩
        obtain ⟨A2, c2, _, rfl, _⟩ := hM.1.read
        have HP2 := Lib.hid hM
        clear hwb1
        go_wp2_with fail
        refine (hrr.out _ _ _ HP2.out.1.read).mono ?_
        rintro e w3 ⟨rfl, hu⟩
        have HP3 := Lib.hid (HP2.out.upd hu)
        have HU3 := Lib.hid HP3.out.2
        have p3 := HU3.out.cell p1 (fun h => h)
        have HM3 := Lib.hid (HM1.out.upd HU3.out)
        clear hu p1
        obtain ⟨g0, o0, rcs, rfl, hrep, hcs, hg⟩ := HP3.out.1.read.cellN (L.length - 1) hltL
        obtain ⟨hr1, hr2, hr3, hr4⟩ := hrep
        subst hr1
        have u3 : Upd NoB w3 (w3.alloc (.cells #[.int .i64 0, .int .u64 0, .string ⟨#[]⟩, .bool false] 62)) := (Upd.refl NoB w3).alloc _
        have k0 := u3.cell (show w3.cell? ⟨g0, o0 + (L.length - 1) * 4, none⟩ = some (.int .i64 L[L.length - 1].at_) from hcs 0 _ rfl) (fun h => h)
        have k1 := u3.cell (show w3.cell? ⟨g0, o0 + (L.length - 1) * 4 + 1, none⟩ = some (.int .u64 L[L.length - 1].num) from hcs 1 _ rfl) (fun h => h)
        have k2 := u3.cell (show w3.cell? ⟨g0, o0 + (L.length - 1) * 4 + 2, none⟩ = some (.string L[L.length - 1].val) from hcs 2 _ rfl) (fun h => h)
        have k3 := u3.cell (show w3.cell? ⟨g0, o0 + (L.length - 1) * 4 + 3, none⟩ = some (.bool L[L.length - 1].gone) from hcs 3 _ rfl) (fun h => h)
        rw [← hZ.out] at k0 k1 k2 k3
        have p4 := ((Upd.refl NoB w3).alloc (.cells #[.int .i64 Z.at_, .int .u64 Z.num, .string Z.val, .bool Z.gone] 62)).cell p3 (fun h => h)
        clear hcs hr2 hr3 hr4 hg u3
        go_wp2_with fail
        generalize hwx : w3.alloc (.cells #[.int .i64 Z.at_, .int .u64 Z.num, .string Z.val, .bool Z.gone] 62) = wx at *
        generalize hx3 : w3.heap.size = x3 at *
        have HX := Lib.hid (show wx.heap[x3]? = some (.cells #[.int .i64 Z.at_, .int .u64 Z.num, .string Z.val, .bool Z.gone] 62 (0, 0)) by rw [← hwx, ← hx3]; exact heap_alloc_new _ _)
        have HUx := Lib.hid (show Upd NoB w3 wx by rw [← hwx]; exact (Upd.refl NoB w3).alloc _)
        clear k0 k1 k2 k3
        have HMx := Lib.hid (HM3.out.upd HUx.out)
        clear hwx p3 hx3
        refine (hpt.out _ _ _ HMx.out.1.read).mono ?_
        rintro e w5 ⟨v5, rfl, hM⟩
        have hu := hM.2
        obtain ⟨A5, c5, _, rfl, _⟩ := hM.1.read
        obtain ⟨wb5, hwb5⟩ : ∃ wb, w5.alloc (.cells #[.slice A5 0 c5] 44) = wb := ⟨_, rfl⟩
        obtain ⟨b5, hb5⟩ : ∃ b, w5.heap.size = b := ⟨_, rfl⟩
        have HB5 := Lib.hid (show wb5.heap[b5]? = some (.cells #[.slice A5 0 c5] 44 (0, 0)) by rw [← hwb5, ← hb5]; exact heap_alloc_new _ _)
        have p5 : wb5.cell? ⟨b5, 0, none⟩ = some (.slice A5 0 c5) := by simp [World.cell?, HB5.out]
        have HM5 := Lib.hid (show Mine Rep.ver 50 _ wb5 (.slice A5 0 c5) ([] : List Ver) by rw [← hwb5]; exact hM.upd ((Upd.refl NoB w5).alloc _))
        clear hM
        have hub : Upd NoB wx wb5 := by rw [← hwb5]; exact hu.alloc _
        obtain ⟨j0, j1, j2, j3⟩ := vcells (hub.heap HX.out (fun h => h))
        have HUb := Lib.hid hub
        clear hu hub p4
        go_wp2_with fail
        refine (hmy.out _).mono ?_
        rintro e w6 ⟨rfl, rfl⟩
        go_wp2_with fail
        refine (awakeObj_any _).mono ?_
        rintro e w10 ⟨rfl, hu⟩
        have HU10 := Lib.hid (HMx.out.2.trans (HUb.out.trans hu))
        clear hu
        go_wp2_with fail
        go_ret
        exact ⟨rfl, HU10.out⟩
      · rw [h3] at hmy
        have hnb : ¬ (rightB L = false ∨ a < 1 ∨ a ≤ (lastV L).at_ ∨ mayB s g = false) := by
          rintro (e | e | e | e)
          · rw [hR] at e; cases e
          · exact h1 e
          · exact h2 e
          · rw [h3] at e; cases e
        by_cases h4 : (lastV L).num = 18446744073709551615
        · rw [show putV L a s g = (9, []) by unfold putV; rw [if_neg hnb, if_pos h4]] at hpt
          have hd4 : (((lastV L).num : Int) == 18446744073709551615) = true := by simp; omega
          generalize lastV L = Z at *
          clear hR h3 h4 hnb
          go_enter Try.func12, Try.ntmps12
          go_wp2_with fail
          refine ho.out.mono ?_
          rintro e w1 ⟨v1, rfl, hM⟩
          obtain ⟨A1, c1, _, rfl, _⟩ := hM.1.read
          obtain ⟨wb1, hwb1⟩ : ∃ wb, w1.alloc (.cells #[.slice A1 L.length c1] 44) = wb := ⟨_, rfl⟩
          obtain ⟨b1, hb1⟩ : ∃ b, w1.heap.size = b := ⟨_, rfl⟩
          have HB1 := Lib.hid (show wb1.heap[b1]? = some (.cells #[.slice A1 L.length c1] 44 (0, 0)) by rw [← hwb1, ← hb1]; exact heap_alloc_new _ _)
          have p1 : wb1.cell? ⟨b1, 0, none⟩ = some (.slice A1 L.length c1) := by simp [World.cell?, HB1.out]
          have HM1 := Lib.hid (show Mine Rep.ver 50 _ wb1 (.slice A1 L.length c1) L by rw [← hwb1]; exact hM.upd ((Upd.refl NoB w1).alloc _))
          clear hM
          go_wp2_with fail
          refine (hpl.out _ _ _ HM1.out.1.read).mono ?_
          rintro e w2 ⟨v2, rfl, hM⟩
          obtain ⟨A2, c2, _, rfl, _⟩ := hM.1.read
          have HP2 := Lib.hid hM
          clear hwb1
          go_wp2_with fail
          refine (hrr.out _ _ _ HP2.out.1.read).mono ?_
          rintro e w3 ⟨rfl, hu⟩
          have HP3 := Lib.hid (HP2.out.upd hu)
          have HU3 := Lib.hid HP3.out.2
          have p3 := HU3.out.cell p1 (fun h => h)
          have HM3 := Lib.hid (HM1.out.upd HU3.out)
          clear hu p1
          obtain ⟨g0, o0, rcs, rfl, hrep, hcs, hg⟩ := HP3.out.1.read.cellN (L.length - 1) hltL
          obtain ⟨hr1, hr2, hr3, hr4⟩ := hrep
          subst hr1
          have u3 : Upd NoB w3 (w3.alloc (.cells #[.int .i64 0, .int .u64 0, .string ⟨#[]⟩, .bool false] 62)) := (Upd.refl NoB w3).alloc _
          have k0 := u3.cell (show w3.cell? ⟨g0, o0 + (L.length - 1) * 4, none⟩ = some (.int .i64 L[L.length - 1].at_) from hcs 0 _ rfl) (fun h => h)
          have k1 := u3.cell (show w3.cell? ⟨g0, o0 + (L.length - 1) * 4 + 1, none⟩ = some (.int .u64 L[L.length - 1].num) from hcs 1 _ rfl) (fun h => h)
          have k2 := u3.cell (show w3.cell? ⟨g0, o0 + (L.length - 1) * 4 + 2, none⟩ = some (.string L[L.length - 1].val) from hcs 2 _ rfl) (fun h => h)
          have k3 := u3.cell (show w3.cell? ⟨g0, o0 + (L.length - 1) * 4 + 3, none⟩ = some (.bool L[L.length - 1].gone) from hcs 3 _ rfl) (fun h => h)
          rw [← hZ.out] at k0 k1 k2 k3
          have p4 := ((Upd.refl NoB w3).alloc (.cells #[.int .i64 Z.at_, .int .u64 Z.num, .string Z.val, .bool Z.gone] 62)).cell p3 (fun h => h)
          clear hcs hr2 hr3 hr4 hg u3
          go_wp2_with fail
          generalize hwx : w3.alloc (.cells #[.int .i64 Z.at_, .int .u64 Z.num, .string Z.val, .bool Z.gone] 62) = wx at *
          generalize hx3 : w3.heap.size = x3 at *
          have HX := Lib.hid (show wx.heap[x3]? = some (.cells #[.int .i64 Z.at_, .int .u64 Z.num, .string Z.val, .bool Z.gone] 62 (0, 0)) by rw [← hwx, ← hx3]; exact heap_alloc_new _ _)
          have HUx := Lib.hid (show Upd NoB w3 wx by rw [← hwx]; exact (Upd.refl NoB w3).alloc _)
          clear k0 k1 k2 k3
          have HMx := Lib.hid (HM3.out.upd HUx.out)
          clear hwx p3 hx3
          refine (hpt.out _ _ _ HMx.out.1.read).mono ?_
          rintro e w5 ⟨v5, rfl, hM⟩
          have hu := hM.2
          obtain ⟨A5, c5, _, rfl, _⟩ := hM.1.read
          obtain ⟨wb5, hwb5⟩ : ∃ wb, w5.alloc (.cells #[.slice A5 0 c5] 44) = wb := ⟨_, rfl⟩
          obtain ⟨b5, hb5⟩ : ∃ b, w5.heap.size = b := ⟨_, rfl⟩
          have HB5 := Lib.hid (show wb5.heap[b5]? = some (.cells #[.slice A5 0 c5] 44 (0, 0)) by rw [← hwb5, ← hb5]; exact heap_alloc_new _ _)
          have p5 : wb5.cell? ⟨b5, 0, none⟩ = some (.slice A5 0 c5) := by simp [World.cell?, HB5.out]
          have HM5 := Lib.hid (show Mine Rep.ver 50 _ wb5 (.slice A5 0 c5) ([] : List Ver) by rw [← hwb5]; exact hM.upd ((Upd.refl NoB w5).alloc _))
          clear hM
          have hub : Upd NoB wx wb5 := by rw [← hwb5]; exact hu.alloc _
          obtain ⟨j0, j1, j2, j3⟩ := vcells (hub.heap HX.out (fun h => h))
          have HUb := Lib.hid hub
          clear hu hub p4
          go_wp2_with fail
          refine (hmy.out _).mono ?_
          rintro e w6 ⟨rfl, rfl⟩
          go_wp2_with fail
          refine (awakeObj_any _).mono ?_
          rintro e w10 ⟨rfl, hu⟩
          have HU10 := Lib.hid (HMx.out.2.trans (HUb.out.trans hu))
          clear hu
          go_wp2_with fail
          go_ret
          exact ⟨rfl, HU10.out⟩
        · rw [show putV L a s g = (0, L ++ [⟨a, (lastV L).num + 1, s, g⟩]) by unfold putV; rw [if_neg hnb, if_neg h4]] at hpt
          have hd4 : (((lastV L).num : Int) == 18446744073709551615) = false := by simp; omega
          have hsum : IntKind.u64.wrap (((lastV L).num : Int) + 1) = ((lastV L).num : Int) + 1 := by have := hnum.out; simp only [IntKind.wrap, IntKind.bits, IntKind.signed]; simp; omega
          have ha' : -9223372036854775808 ≤ a ∧ a ≤ 9223372036854775807 := by simpa [Lit.wf, IntKind.min, IntKind.max, IntKind.signed, IntKind.bits] using ha
          have hsub : IntKind.i64.wrap (a - 1) = a - 1 := by rw [IntKind.wrap_i64]; omega
          have hfit := Lib.hid (show (⟨a, (lastV L).num + 1, s, g⟩ : Ver).fit from ⟨ha, by show (lastV L).num + 1 < _; have := hnum.out; omega, hs⟩)
          have hR2 := rightB_snoc L a s g hR (by omega) (by omega) h3
          have hund := undo_put L a s g hR (by omega)
          have hL2 : (L ++ [(⟨a, (lastV L).num + 1, s, g⟩ : Ver)]).length ≤ 21 := by simp; omega
          have hun := Lib.hid (fun v w S (h : RSl Rep.ver w S v (L ++ [⟨a, (lastV L).num + 1, s, g⟩])) => undo_any v (L ++ [⟨a, (lastV L).num + 1, s, g⟩]) (a - 1) w h (by omega))
          have hpp := Lib.hid (fun v w S (h : RSl Rep.ver w S v (L ++ [⟨a, (lastV L).num + 1, s, g⟩])) => plain_any v (L ++ [⟨a, (lastV L).num + 1, s, g⟩]) w h (by omega))
          simp only [hR2, hund, if_true] at hun
          generalize lastV L = Z at *
          clear hR hR2 hund h3 h4 hnb hL2 ha'
          go_enter Try.func12, Try.ntmps12
          go_wp2_with fail
          refine ho.out.mono ?_
          rintro e w1 ⟨v1, rfl, hM⟩
          obtain ⟨A1, c1, _, rfl, _⟩ := hM.1.read
          obtain ⟨wb1, hwb1⟩ : ∃ wb, w1.alloc (.cells #[.slice A1 L.length c1] 44) = wb := ⟨_, rfl⟩
          obtain ⟨b1, hb1⟩ : ∃ b, w1.heap.size = b := ⟨_, rfl⟩
          have HB1 := Lib.hid (show wb1.heap[b1]? = some (.cells #[.slice A1 L.length c1] 44 (0, 0)) by rw [← hwb1, ← hb1]; exact heap_alloc_new _ _)
          have p1 : wb1.cell? ⟨b1, 0, none⟩ = some (.slice A1 L.length c1) := by simp [World.cell?, HB1.out]
          have HM1 := Lib.hid (show Mine Rep.ver 50 _ wb1 (.slice A1 L.length c1) L by rw [← hwb1]; exact hM.upd ((Upd.refl NoB w1).alloc _))
          clear hM
          go_wp2_with fail
          refine (hpl.out _ _ _ HM1.out.1.read).mono ?_
          rintro e w2 ⟨v2, rfl, hM⟩
          obtain ⟨A2, c2, _, rfl, _⟩ := hM.1.read
          have HP2 := Lib.hid hM
          clear hwb1
          go_wp2_with fail
          refine (hrr.out _ _ _ HP2.out.1.read).mono ?_
          rintro e w3 ⟨rfl, hu⟩
          have HP3 := Lib.hid (HP2.out.upd hu)
          have HU3 := Lib.hid HP3.out.2
          have p3 := HU3.out.cell p1 (fun h => h)
          have HM3 := Lib.hid (HM1.out.upd HU3.out)
          clear hu p1
          obtain ⟨g0, o0, rcs, rfl, hrep, hcs, hg⟩ := HP3.out.1.read.cellN (L.length - 1) hltL
          obtain ⟨hr1, hr2, hr3, hr4⟩ := hrep
          subst hr1
          have u3 : Upd NoB w3 (w3.alloc (.cells #[.int .i64 0, .int .u64 0, .string ⟨#[]⟩, .bool false] 62)) := (Upd.refl NoB w3).alloc _
          have k0 := u3.cell (show w3.cell? ⟨g0, o0 + (L.length - 1) * 4, none⟩ = some (.int .i64 L[L.length - 1].at_) from hcs 0 _ rfl) (fun h => h)
          have k1 := u3.cell (show w3.cell? ⟨g0, o0 + (L.length - 1) * 4 + 1, none⟩ = some (.int .u64 L[L.length - 1].num) from hcs 1 _ rfl) (fun h => h)
          have k2 := u3.cell (show w3.cell? ⟨g0, o0 + (L.length - 1) * 4 + 2, none⟩ = some (.string L[L.length - 1].val) from hcs 2 _ rfl) (fun h => h)
          have k3 := u3.cell (show w3.cell? ⟨g0, o0 + (L.length - 1) * 4 + 3, none⟩ = some (.bool L[L.length - 1].gone) from hcs 3 _ rfl) (fun h => h)
          rw [← hZ.out] at k0 k1 k2 k3
          have p4 := ((Upd.refl NoB w3).alloc (.cells #[.int .i64 Z.at_, .int .u64 Z.num, .string Z.val, .bool Z.gone] 62)).cell p3 (fun h => h)
          clear hcs hr2 hr3 hr4 hg u3
          go_wp2_with fail
          generalize hwx : w3.alloc (.cells #[.int .i64 Z.at_, .int .u64 Z.num, .string Z.val, .bool Z.gone] 62) = wx at *
          generalize hx3 : w3.heap.size = x3 at *
          have HX := Lib.hid (show wx.heap[x3]? = some (.cells #[.int .i64 Z.at_, .int .u64 Z.num, .string Z.val, .bool Z.gone] 62 (0, 0)) by rw [← hwx, ← hx3]; exact heap_alloc_new _ _)
          have HUx := Lib.hid (show Upd NoB w3 wx by rw [← hwx]; exact (Upd.refl NoB w3).alloc _)
          clear k0 k1 k2 k3
          have HMx := Lib.hid (HM3.out.upd HUx.out)
          clear hwx p3 hx3
          refine (hpt.out _ _ _ HMx.out.1.read).mono ?_
          rintro e w5 ⟨v5, rfl, hM⟩
          have hu := hM.2
          obtain ⟨A5, c5, _, rfl, _⟩ := hM.1.read
          rw [show (L ++ [(⟨a, Z.num + 1, s, g⟩ : Ver)]).length = L.length + 1 by simp] at hM
          obtain ⟨wb5, hwb5⟩ : ∃ wb, w5.alloc (.cells #[.slice A5 (L.length + 1) c5] 44) = wb := ⟨_, rfl⟩
          obtain ⟨b5, hb5⟩ : ∃ b, w5.heap.size = b := ⟨_, rfl⟩
          have HB5 := Lib.hid (show wb5.heap[b5]? = some (.cells #[.slice A5 (L.length + 1) c5] 44 (0, 0)) by rw [← hwb5, ← hb5]; exact heap_alloc_new _ _)
          have p5 : wb5.cell? ⟨b5, 0, none⟩ = some (.slice A5 (L.length + 1) c5) := by simp [World.cell?, HB5.out]
          have HM5 := Lib.hid (show Mine Rep.ver 50 _ wb5 (.slice A5 (L.length + 1) c5) (L ++ [(⟨a, Z.num + 1, s, g⟩ : Ver)]) by rw [← hwb5]; exact hM.upd ((Upd.refl NoB w5).alloc _))
          clear hM
          have hub : Upd NoB wx wb5 := by rw [← hwb5]; exact hu.alloc _
          have hbx := hub.heap HX.out (fun h => h)
          have HX5 := Lib.hid hbx
          obtain ⟨j0, j1, j2, j3⟩ := vcells hbx
          have p6 := Lib.hid (hub.cell p4 (fun h => h))
          have HUb := Lib.hid hub
          have HM6 := Lib.hid (HMx.out.upd hub)
          clear hu hub p4 hbx
          go_wp2_with fail
          refine (hmy.out _).mono ?_
          rintro e w6 ⟨rfl, rfl⟩
          clear hwb5
          go_wp2_with fail
          have P5 := Lib.hid p5
          have J1 := Lib.hid j1
          have hB1 : b1 < wb5.heap.size := World.block_lt_of_cell? wb5 _ p6.out
          have hB2 : x3 < wb5.heap.size := World.block_lt_of_cell? wb5 _ J1.out
          clear p5 j0 j1 j2 j3
          refine sched_begin (fun b => wb5.heap.size ≤ b) (by kernel_rfl) ?_
          refine sched_take 0 rfl (by kernel_rfl) (by kernel_rfl) (by kernel_rfl) (fun _ _ _ h => h) rfl (fun x hx => by have q := hx.cell p6.out (fun e => by have e' : wb5.heap.size ≤ b1 := e; omega); go_simp; rfl) ?_
          go_simp
          refine sched_take 2 rfl (by kernel_rfl) (by kernel_rfl) (by kernel_rfl) (fun _ _ _ h => h) rfl (fun x hx => by go_simp; rfl) ?_
          go_simp
          refine sched_take 3 rfl (by kernel_rfl) (by kernel_rfl) (by kernel_rfl) (fun _ _ _ h => h) rfl (fun x hx => by go_simp; rfl) ?_
          go_simp
          refine sched_take 4 rfl (by kernel_rfl) (by kernel_rfl) (by kernel_rfl) (fun _ _ _ h => h) rfl (fun x hx => by have q := hx.cell J1.out (fun e => by have e' : wb5.heap.size ≤ x3 := e; omega); go_simp; rfl) ?_
          go_simp
          refine sched_take 5 rfl (by kernel_rfl) (by kernel_rfl) (by kernel_rfl) (fun _ _ _ h => h) rfl (fun x hx => by go_simp; rfl) ?_
          go_simp
          refine sched_take 6 rfl (by kernel_rfl) (by kernel_rfl) (by kernel_rfl) (fun _ _ _ h => h) rfl (fun x hx => by go_simp; rfl) ?_
          go_simp
          refine sched_take 7 rfl (by kernel_rfl) (by kernel_rfl) (by kernel_rfl) (fun _ _ _ h => h) rfl (fun x hx => by go_simp; rfl) ?_
          go_simp
          refine sched_take 8 rfl (by kernel_rfl) (by kernel_rfl) (by kernel_rfl) (fun _ _ _ h => h) rfl (fun x hx => by go_simp; rfl) ?_
          go_simp
          refine sched_two 1 9 (by kernel_rfl) rfl rfl rfl rfl ?_ ?_
          · go_simp
            refine (hpl.out _ _ _ (HM6.out.upd (Upd.refl NoB wb5).drew).1.read).mono ?_
            rintro e w7 ⟨vc, rfl, hM0⟩
            refine ⟨hM0.2.mono (fun _ _ h => h.elim), ?_⟩
            have hMd := Lib.hid (hM0.upd ((Upd.refl NoB w7).alloc (.cells #[.int .i64 a, .int .u64 ((Z.num : Int) + 1), .string s, .bool g] 62)))
            have hbox := Lib.hid (box_rsl ⟨a, Z.num + 1, s, g⟩ w7 62 hfit.out)
            have HUz := Lib.hid (show Upd NoB wb5 wb5.drew from (Upd.refl NoB wb5).drew)
            clear hM0
            go_simp
            refine sched_alone 9 (by kernel_rfl) rfl rfl ?_
            go_simp
            refine ⟨(Upd.refl _ _).alloc _, ?_⟩
            have HO := Lib.hid hMd.out.1
            have HB := Lib.hid hMd.out.bd
            refine sched_law 10 (by kernel_rfl) rfl rfl ?_
            go_simp
            at_builtin
            refine app_all (r := Rep.ver) (v := vc) rfl _ _ 41 62 (.agg #[.int .i64 0, .int .u64 0, .string ⟨#[]⟩, .bool false]) 40 rfl Try.underlying41 iRVer rfl (by decide) rfl rfl HO.out HB.out hbox.out (fun cs hc => Rows.flat flat_ver hc _ _) (by simp only [List.length_cons, List.length_nil]; omega) ?_
            intro v2 w8 ho2 hu2
            have hge := fun b hb => hMd.out.own_ge b hb
            refine law_done ⟨hu2.mono (fun b _ hb => Nat.le_trans (show wb5.heap.size ≤ wb5.heap.size by omega) (hge b hb)), ?_⟩
            have fin := Lib.hid (hMd.out.app ho2 hu2)
            clear ho2 hu2 hge
            obtain ⟨A8, c8, _, rfl, _⟩ := fin.out.1.read
            have HU8 := Lib.hid (HUz.out.trans fin.out.2)
            have hw0 := fin.out.1.read
            rw [show (L ++ [(⟨a, Z.num + 1, s, g⟩ : Ver)]).length = L.length + 1 by simp] at hw0
            have HW := Lib.hid hw0
            clear hw0
            have P5' := Lib.hid (HU8.out.cell P5.out (fun h => h))
            have P1' := Lib.hid (HU8.out.cell p6.out (fun h => h))
            have HL8 := Lib.hid (HM6.out.upd HU8.out).1.read
            have HP8 := Lib.hid (HM5.out.upd HU8.out).1.read
            have HUU := Lib.hid (HMx.out.2.trans (HUb.out.trans HU8.out))
            go_simp
            refine sched_take 11 rfl (by kernel_rfl) (by kernel_rfl) (by kernel_rfl) (fun _ _ _ h => h) rfl (fun x hx => by go_simp; rfl) ?_
            go_simp
            refine sched_done (by kernel_rfl) ?_
            go_wp2_with fail
            refine sched_begin NoB (by kernel_rfl) ?_
            refine sched_take 0 rfl (by kernel_rfl) (by kernel_rfl) (by kernel_rfl) (fun _ _ _ h => h) rfl (fun x hx => by go_simp; rfl) ?_
            go_simp
            refine sched_take 1 rfl (by kernel_rfl) (by kernel_rfl) (by kernel_rfl) (fun _ _ _ h => h) rfl (fun x hx => by go_simp; rfl) ?_
            go_simp
            refine sched_take 2 rfl (by kernel_rfl) (by kernel_rfl) (by kernel_rfl) (fun _ _ _ h => h) rfl (fun x hx => by go_simp; rfl) ?_
            go_simp
            refine sched_take 3 rfl (by kernel_rfl) (by kernel_rfl) (by kernel_rfl) (fun _ _ _ h => h) rfl (fun x hx => by have q := hx.cell P5'.out (fun h => h); go_simp; rfl) ?_
            go_simp
            refine sched_take 5 rfl (by kernel_rfl) (by kernel_rfl) (by kernel_rfl) (fun _ _ _ h => h) rfl (fun x hx => by go_simp; rfl) ?_
            go_simp
            refine sched_alone 4 (by kernel_rfl) rfl rfl ?_
            go_simp
            refine (hpp.out _ _ _ (HP8.out.upd (Upd.refl NoB w8).drew (fun _ _ h => h))).mono ?_
            rintro e w9 ⟨v9, rfl, hM0⟩
            refine ⟨hM0.2, ?_⟩
            have HM9 := Lib.hid hM0
            have HU9 := Lib.hid ((Upd.refl NoB w8).drew.trans hM0.2)
            clear hM0
            go_simp
            refine sched_alone 6 (by kernel_rfl) rfl rfl ?_
            go_simp
            refine (refsame_any _ _ _ _ _ HM9.out.1.read (HW.out.upd HU9.out (fun _ _ h => h))).mono ?_
            rintro e w10 ⟨rfl, hu⟩
            have HU10 := Lib.hid (HU9.out.trans hu)
            refine ⟨hu, ?_⟩
            clear hu
            go_simp
            refine sched_take 7 rfl (by kernel_rfl) (by kernel_rfl) (by kernel_rfl) (fun _ _ _ h => h) rfl (fun x hx => by go_simp; rfl) ?_
            go_simp
            refine sched_take 8 rfl (by kernel_rfl) (by kernel_rfl) (by kernel_rfl) (fun _ _ _ h => h) rfl (fun x hx => by go_simp; rfl) ?_
            go_simp
            refine sched_take 9 rfl (by kernel_rfl) (by kernel_rfl) (by kernel_rfl) (fun _ _ _ h => h) rfl (fun x hx => by have q := (HU10.out.trans hx).cell P5'.out (fun h => h); go_simp; rfl) ?_
            go_simp
            refine sched_take 10 rfl (by kernel_rfl) (by kernel_rfl) (by kernel_rfl) (fun _ _ _ h => h) rfl (fun x hx => by go_simp; rfl) ?_
            go_simp
            refine sched_take 11 rfl (by kernel_rfl) (by kernel_rfl) (by kernel_rfl) (fun _ _ _ h => h) rfl (fun x hx => by go_simp; rfl) ?_
            go_simp
            refine sched_take 13 rfl (by kernel_rfl) (by kernel_rfl) (by kernel_rfl) (fun _ _ _ h => h) rfl (fun x hx => by have q := (HU10.out.trans hx).cell P1'.out (fun h => h); go_simp; rfl) ?_
            go_simp
            refine sched_alone 12 (by kernel_rfl) rfl rfl ?_
            go_simp
            refine (hun.out _ _ _ (HP8.out.upd HU10.out (fun _ _ h => h))).mono ?_
            rintro e w11 ⟨v11, rfl, hM0⟩
            refine ⟨hM0.2, ?_⟩
            have HM11 := Lib.hid hM0
            have HU11 := Lib.hid (HU10.out.trans hM0.2)
            clear hM0
            go_simp
            refine sched_alone 14 (by kernel_rfl) rfl rfl ?_
            go_simp
            refine (same_any _ _ _ _ _ HM11.out.1.read (HL8.out.upd HU11.out (fun _ _ h => h))).mono ?_
            rintro e w12 ⟨rfl, hu⟩
            have HU12 := Lib.hid (HU11.out.trans hu)
            refine ⟨hu, ?_⟩
            clear hu
            go_simp
            refine sched_take 15 rfl (by kernel_rfl) (by kernel_rfl) (by kernel_rfl) (fun _ _ _ h => h) rfl (fun x hx => by go_simp; rfl) ?_
            go_simp
            refine sched_take 16 rfl (by kernel_rfl) (by kernel_rfl) (by kernel_rfl) (fun _ _ _ h => h) rfl (fun x hx => by go_simp; rfl) ?_
            go_simp
            refine sched_alone 17 (by kernel_rfl) rfl rfl ?_
            go_simp
            refine (awakeObj_any _).mono ?_
            rintro e w13 ⟨rfl, hu⟩
            have HU13 := Lib.hid (HUU.out.trans (HU12.out.trans hu))
            refine ⟨hu, ?_⟩
            clear hu
            go_simp
            refine sched_take 18 rfl (by kernel_rfl) (by kernel_rfl) (by kernel_rfl) (fun _ _ _ h => h) rfl (fun x hx => by go_simp; rfl) ?_
            go_simp
            refine sched_take 19 rfl (by kernel_rfl) (by kernel_rfl) (by kernel_rfl) (fun _ _ _ h => h) rfl (fun x hx => by go_simp; rfl) ?_
            go_simp
            refine sched_done (by kernel_rfl) ?_
            go_wp2_with fail
            go_ret
            exact ⟨rfl, HU13.out⟩
          · go_simp
            refine ⟨have hh := (Upd.refl (fun b => wb5.heap.size ≤ b) wb5).alloc (.cells #[.int .i64 a, .int .u64 ((Z.num : Int) + 1), .string s, .bool g] 62); ⟨hh.os, hh.tape, hh.output, hh.size, hh.block⟩, ?_⟩
            have hbox0 := box_rsl ⟨a, Z.num + 1, s, g⟩ wb5 62 hfit.out
            have hUz := ((Upd.refl NoB wb5).alloc (.cells #[.int .i64 a, .int .u64 ((Z.num : Int) + 1), .string s, .bool g] 62)).drew
            obtain ⟨wd, hwd⟩ : ∃ wd, (wb5.alloc (.cells #[.int .i64 a, .int .u64 ((Z.num : Int) + 1), .string s, .bool g] 62)).drew = wd := ⟨_, rfl⟩
            have hbox1 : RSl Rep.ver wd (fun _ => True) (.slice (some ⟨wb5.heap.size, 0, none⟩) 1 1) [⟨a, Z.num + 1, s, g⟩] := by rw [← hwd]; exact hbox0
            rw [hwd] at hUz
            have HUz := Lib.hid hUz
            have hwl : wb5.heap.size ≤ wd.heap.size := hUz.size
            clear hbox0 hUz
            go_simp
            clear hwd
            refine sched_alone 1 (by kernel_rfl) rfl rfl ?_
            go_simp
            refine (hpl.out _ _ _ (HM6.out.upd HUz.out).1.read).mono ?_
            rintro e w7 ⟨vc, rfl, hM0⟩
            refine ⟨hM0.2.mono (fun _ _ h => h.elim), ?_⟩
            have hMd := Lib.hid hM0
            have hbox := Lib.hid (hbox1.upd hM0.2 (fun _ _ h => h))
            clear hM0 hbox1
            go_simp
            have HO := Lib.hid hMd.out.1
            have HB := Lib.hid hMd.out.bd
            refine sched_law 10 (by kernel_rfl) rfl rfl ?_
            go_simp
            at_builtin
            refine app_all (r := Rep.ver) (v := vc) rfl _ _ 41 62 (.agg #[.int .i64 0, .int .u64 0, .string ⟨#[]⟩, .bool false]) 40 rfl Try.underlying41 iRVer rfl (by decide) rfl rfl HO.out HB.out hbox.out (fun cs hc => Rows.flat flat_ver hc _ _) (by simp only [List.length_cons, List.length_nil]; omega) ?_
            intro v2 w8 ho2 hu2
            have hge := fun b hb => hMd.out.own_ge b hb
            refine law_done ⟨hu2.mono (fun b _ hb => Nat.le_trans (show wb5.heap.size ≤ wd.heap.size by omega) (hge b hb)), ?_⟩
            have fin := Lib.hid (hMd.out.app ho2 hu2)
            clear ho2 hu2 hge
            obtain ⟨A8, c8, _, rfl, _⟩ := fin.out.1.read
            have HU8 := Lib.hid (HUz.out.trans fin.out.2)
            have hw0 := fin.out.1.read
            rw [show (L ++ [(⟨a, Z.num + 1, s, g⟩ : Ver)]).length = L.length + 1 by simp] at hw0
            have HW := Lib.hid hw0
            clear hw0
            have P5' := Lib.hid (HU8.out.cell P5.out (fun h => h))
            have P1' := Lib.hid (HU8.out.cell p6.out (fun h => h))
            have HL8 := Lib.hid (HM6.out.upd HU8.out).1.read
            have HP8 := Lib.hid (HM5.out.upd HU8.out).1.read
            have HUU := Lib.hid (HMx.out.2.trans (HUb.out.trans HU8.out))
            go_simp
            refine sched_take 11 rfl (by kernel_rfl) (by kernel_rfl) (by kernel_rfl) (fun _ _ _ h => h) rfl (fun x hx => by go_simp; rfl) ?_
            go_simp
            refine sched_done (by kernel_rfl) ?_
            go_wp2_with fail
            refine sched_begin NoB (by kernel_rfl) ?_
            refine sched_take 0 rfl (by kernel_rfl) (by kernel_rfl) (by kernel_rfl) (fun _ _ _ h => h) rfl (fun x hx => by go_simp; rfl) ?_
            go_simp
            refine sched_take 1 rfl (by kernel_rfl) (by kernel_rfl) (by kernel_rfl) (fun _ _ _ h => h) rfl (fun x hx => by go_simp; rfl) ?_
            go_simp
            refine sched_take 2 rfl (by kernel_rfl) (by kernel_rfl) (by kernel_rfl) (fun _ _ _ h => h) rfl (fun x hx => by go_simp; rfl) ?_
            go_simp
            refine sched_take 3 rfl (by kernel_rfl) (by kernel_rfl) (by kernel_rfl) (fun _ _ _ h => h) rfl (fun x hx => by have q := hx.cell P5'.out (fun h => h); go_simp; rfl) ?_
            go_simp
            refine sched_take 5 rfl (by kernel_rfl) (by kernel_rfl) (by kernel_rfl) (fun _ _ _ h => h) rfl (fun x hx => by go_simp; rfl) ?_
            go_simp
            refine sched_alone 4 (by kernel_rfl) rfl rfl ?_
            go_simp
            refine (hpp.out _ _ _ (HP8.out.upd (Upd.refl NoB w8).drew (fun _ _ h => h))).mono ?_
            rintro e w9 ⟨v9, rfl, hM0⟩
            refine ⟨hM0.2, ?_⟩
            have HM9 := Lib.hid hM0
            have HU9 := Lib.hid ((Upd.refl NoB w8).drew.trans hM0.2)
            clear hM0
            go_simp
            refine sched_alone 6 (by kernel_rfl) rfl rfl ?_
            go_simp
            refine (refsame_any _ _ _ _ _ HM9.out.1.read (HW.out.upd HU9.out (fun _ _ h => h))).mono ?_
            rintro e w10 ⟨rfl, hu⟩
            have HU10 := Lib.hid (HU9.out.trans hu)
            refine ⟨hu, ?_⟩
            clear hu
            go_simp
            refine sched_take 7 rfl (by kernel_rfl) (by kernel_rfl) (by kernel_rfl) (fun _ _ _ h => h) rfl (fun x hx => by go_simp; rfl) ?_
            go_simp
            refine sched_take 8 rfl (by kernel_rfl) (by kernel_rfl) (by kernel_rfl) (fun _ _ _ h => h) rfl (fun x hx => by go_simp; rfl) ?_
            go_simp
            refine sched_take 9 rfl (by kernel_rfl) (by kernel_rfl) (by kernel_rfl) (fun _ _ _ h => h) rfl (fun x hx => by have q := (HU10.out.trans hx).cell P5'.out (fun h => h); go_simp; rfl) ?_
            go_simp
            refine sched_take 10 rfl (by kernel_rfl) (by kernel_rfl) (by kernel_rfl) (fun _ _ _ h => h) rfl (fun x hx => by go_simp; rfl) ?_
            go_simp
            refine sched_take 11 rfl (by kernel_rfl) (by kernel_rfl) (by kernel_rfl) (fun _ _ _ h => h) rfl (fun x hx => by go_simp; rfl) ?_
            go_simp
            refine sched_take 13 rfl (by kernel_rfl) (by kernel_rfl) (by kernel_rfl) (fun _ _ _ h => h) rfl (fun x hx => by have q := (HU10.out.trans hx).cell P1'.out (fun h => h); go_simp; rfl) ?_
            go_simp
            refine sched_alone 12 (by kernel_rfl) rfl rfl ?_
            go_simp
            refine (hun.out _ _ _ (HP8.out.upd HU10.out (fun _ _ h => h))).mono ?_
            rintro e w11 ⟨v11, rfl, hM0⟩
            refine ⟨hM0.2, ?_⟩
            have HM11 := Lib.hid hM0
            have HU11 := Lib.hid (HU10.out.trans hM0.2)
            clear hM0
            go_simp
            refine sched_alone 14 (by kernel_rfl) rfl rfl ?_
            go_simp
            refine (same_any _ _ _ _ _ HM11.out.1.read (HL8.out.upd HU11.out (fun _ _ h => h))).mono ?_
            rintro e w12 ⟨rfl, hu⟩
            have HU12 := Lib.hid (HU11.out.trans hu)
            refine ⟨hu, ?_⟩
            clear hu
            go_simp
            refine sched_take 15 rfl (by kernel_rfl) (by kernel_rfl) (by kernel_rfl) (fun _ _ _ h => h) rfl (fun x hx => by go_simp; rfl) ?_
            go_simp
            refine sched_take 16 rfl (by kernel_rfl) (by kernel_rfl) (by kernel_rfl) (fun _ _ _ h => h) rfl (fun x hx => by go_simp; rfl) ?_
            go_simp
            refine sched_alone 17 (by kernel_rfl) rfl rfl ?_
            go_simp
            refine (awakeObj_any _).mono ?_
            rintro e w13 ⟨rfl, hu⟩
            have HU13 := Lib.hid (HUU.out.trans (HU12.out.trans hu))
            refine ⟨hu, ?_⟩
            clear hu
            go_simp
            refine sched_take 18 rfl (by kernel_rfl) (by kernel_rfl) (by kernel_rfl) (fun _ _ _ h => h) rfl (fun x hx => by go_simp; rfl) ?_
            go_simp
            refine sched_take 19 rfl (by kernel_rfl) (by kernel_rfl) (by kernel_rfl) (fun _ _ _ h => h) rfl (fun x hx => by go_simp; rfl) ?_
            go_simp
            refine sched_done (by kernel_rfl) ?_
            go_wp2_with fail
            go_ret
            exact ⟨rfl, HU13.out⟩
set_option maxHeartbeats 4000000 in
set_option maxRecDepth 100000 in
theorem objPut_walk {S : Nat → Prop} (v : Value) (l : List Ver) (a : Int) (s : ByteArray) (g : Bool) (w : World) (h : RSl Rep.ver w S v l) (hs : s.size ≤ 9223372036854775807) (ha : (Lit.int .i64 a).wf = true) :
    Calls Try.prog 12 #[v, .int .i64 a, .string s, .bool g] w fun e w' => e = .returned (.bool true) ∧ Upd NoB w w' := by
  have hL : (l.take 20).length ≤ 20 := by rw [List.length_take]; omega
  have hfL : ∀ x, x ∈ l.take 20 → x.fit := by
    intro x hx
    obtain ⟨i, hi, rfl⟩ := List.getElem_of_mem (List.mem_of_mem_take hx)
    obtain ⟨A, c, cs, rfl, _⟩ := id h
    obtain ⟨_, _, _, _, hrep, _⟩ := h.cellN i hi
    exact hrep.2
  cases hR : rightB (l.take 20)
  · have ho := Lib.hid (ours_any v l w h)
    obtain ⟨A, c, cs, rfl, _⟩ := id h
    clear h hfL
    generalize l.take 20 = L at *
    have hrr := Lib.hid (fun v w S (h : RSl Rep.ver w S v L) => refright_obj v L w h (by omega))
    have hpl := Lib.hid (fun v w S (h : RSl Rep.ver w S v L) => plain_any v L w h (by omega))
    rw [hR] at hrr
    clear hR
    go_enter Try.func12, Try.ntmps12
    go_wp2_with fail
    refine ho.out.mono ?_
    rintro e w1 ⟨v1, rfl, hM⟩
    obtain ⟨A1, c1, _, rfl, _⟩ := hM.1.read
    obtain ⟨wb1, hwb1⟩ : ∃ wb, w1.alloc (.cells #[.slice A1 L.length c1] 44) = wb := ⟨_, rfl⟩
    obtain ⟨b1, hb1⟩ : ∃ b, w1.heap.size = b := ⟨_, rfl⟩
    have HB1 := Lib.hid (show wb1.heap[b1]? = some (.cells #[.slice A1 L.length c1] 44 (0, 0)) by rw [← hwb1, ← hb1]; exact heap_alloc_new _ _)
    have p1 : wb1.cell? ⟨b1, 0, none⟩ = some (.slice A1 L.length c1) := by simp [World.cell?, HB1.out]
    have HM1 := Lib.hid (show Mine Rep.ver 50 _ wb1 (.slice A1 L.length c1) L by rw [← hwb1]; exact hM.upd ((Upd.refl NoB w1).alloc _))
    clear hM
    go_wp2_with fail
    refine (hpl.out _ _ _ HM1.out.1.read).mono ?_
    rintro e w2 ⟨v2, rfl, hM⟩
    obtain ⟨A2, c2, _, rfl, _⟩ := hM.1.read
    have HP2 := Lib.hid hM
    clear hwb1
    go_wp2_with fail
    refine (hrr.out _ _ _ HP2.out.1.read).mono ?_
    rintro e w3 ⟨rfl, hu⟩
    have HP3 := Lib.hid (HP2.out.upd hu)
    have HU3 := Lib.hid HP3.out.2
    have p3 := HU3.out.cell p1 (fun h => h)
    have HM3 := Lib.hid (HM1.out.upd HU3.out)
    clear hu p1
    go_wp2_with fail
    refine (awakeObj_any _).mono ?_
    rintro e w10 ⟨rfl, hu⟩
    have HU10 := Lib.hid (HM3.out.2.trans hu)
    clear hu
    go_wp2_with fail
    go_ret
    exact ⟨rfl, HU10.out⟩
  · by_cases hLn : l.take 20 = []
    · exact objPut_nil v l _ rfl hL hR a s g w h hs ha hLn
    · exact objPut_some v l _ rfl hL hR hfL a s g w h hs ha (List.length_pos_iff.2 hLn)
end Go.Proofs.Ytcckljomjpfdaaa
