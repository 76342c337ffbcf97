/- A slot's Seq never falls; what is done stays so till something new is asked (SessionRises): the law's walk. -/
import Derived.Test.YtmcpcladjfddmaaSessS
import Derived.Deep.Cut
import Derived.Deep.CutRange
import Derived.Deep.CutBlock
namespace Go.Proofs.Ytmcpcladjfddmaa
open Go.RowKit Kit
set_option linter.unusedVariables false

theorem may_rises {m : Tab} {c q a : Int} {e : Bool} (h : m.may c q a e = 0) (hb : (m.f c).isSome = true) : (m.get c).seq ≤ q ∧ (q = (m.get c).seq → (m.get c).opn = true) := by
  unfold Tab.may at h
  split at h
  · cases h
  split at h
  · cases h
  split at h
  · cases h
  rename_i h2
  unfold Tab.how at h h2
  rw [if_pos hb] at h h2
  by_cases e1 : (m.get c).seq = q
  · rw [if_pos e1, if_pos rfl] at h
    split at h
    · cases h
    · rename_i h3
      refine ⟨by omega, fun _ => ?_⟩
      cases ho : (m.get c).opn
      · rw [ho] at h3; simp at h3
      · rfl
  · rw [if_neg e1] at h h2
    by_cases e2 : q < (m.get c).seq
    · rw [if_pos e2] at h2
      exact absurd rfl h2
    · exact ⟨by omega, fun e => absurd e.symm e1⟩
theorem step_rises (kd c q a code num : Int) (m : Tab) (x : Int) (hb : (m.f x).isSome = true) :
    ((stepT kd c q a code num m).f x).isSome = true ∧ (m.get x).seq ≤ ((stepT kd c q a code num m).get x).seq ∧ (((stepT kd c q a code num m).get x).seq = (m.get x).seq → (m.get x).opn = false → (stepT kd c q a code num m).get x = m.get x) := by
  have key : ∀ (s : Slot) (e : Bool), s.seq = q → m.may c q a e = 0 → ((m.put c s).f x).isSome = true ∧ (m.get x).seq ≤ ((m.put c s).get x).seq ∧ (((m.put c s).get x).seq = (m.get x).seq → (m.get x).opn = false → (m.put c s).get x = m.get x) := by
    intro s e hs h
    by_cases hx : x = c
    · subst hx
      obtain ⟨h1, h2⟩ := may_rises h hb
      have hg : (m.put x s).get x = s := by simp [Tab.put, Tab.get]
      rw [hg, hs]
      exact ⟨by simp [Tab.put], h1, fun e1 e2 => by rw [h2 e1] at e2; cases e2⟩
    · have hf : (m.put c s).f x = m.f x := by simp [Tab.put, hx]
      have hg : (m.put c s).get x = m.get x := by unfold Tab.get; rw [hf]
      rw [hf, hg]
      exact ⟨hb, Int.le_refl _, fun _ _ => rfl⟩
  have keep : (m.f x).isSome = true ∧ (m.get x).seq ≤ (m.get x).seq ∧ ((m.get x).seq = (m.get x).seq → (m.get x).opn = false → m.get x = m.get x) := ⟨hb, Int.le_refl _, fun _ _ => rfl⟩
  unfold stepT
  split
  · unfold Tab.openT
    simp only
    split
    · exact key _ _ rfl (by assumption)
    · exact keep
  split
  · unfold Tab.doneT
    simp only
    split
    · exact key _ _ rfl (by assumption)
    · exact keep
  · exact keep
theorem five_frz {x : World} {b : Nat} {T : TypeId} {c0 c1 c2 c3 c4 : Value} (h : x.heap[b]? = some (.cells #[c0, c1, c2, c3, c4] T (0, 0))) :
    x.frozen? ⟨b, 0, none⟩ = false ∧ x.frozen? ⟨b, 1, none⟩ = false ∧ x.frozen? ⟨b, 2, none⟩ = false ∧ x.frozen? ⟨b, 3, none⟩ = false ∧ x.frozen? ⟨b, 4, none⟩ = false := by
  simp [World.frozen?, h]
def put5 (x : World) (b : Nat) (v0 v1 v2 v3 v4 : Value) : World := ((((x.setCell ⟨b, 0, none⟩ v0).setCell ⟨b, 1, none⟩ v1).setCell ⟨b, 2, none⟩ v2).setCell ⟨b, 3, none⟩ v3).setCell ⟨b, 4, none⟩ v4
theorem heap_put5 {x : World} {b : Nat} {T : TypeId} {c0 c1 c2 c3 c4 : Value} (h : x.heap[b]? = some (.cells #[c0, c1, c2, c3, c4] T (0, 0))) (v0 v1 v2 v3 v4 : Value) :
    (put5 x b v0 v1 v2 v3 v4).heap[b]? = some (.cells #[v0, v1, v2, v3, v4] T (0, 0)) := by
  have := heap_put (heap_put (heap_put (heap_put (heap_put h 0 v0) 1 v1) 2 v2) 3 v3) 4 v4
  unfold put5
  rw [this]
  simp
theorem upd_put5 {F : Nat → Prop} {w x : World} {b : Nat} (h : Upd F w x) (hb : b < w.heap.size → F b) (v0 v1 v2 v3 v4 : Value) : Upd F w (put5 x b v0 v1 v2 v3 v4) :=
  ((((h.setCell (p := ⟨b, 0, none⟩) hb v0).setCell (p := ⟨b, 1, none⟩) hb v1).setCell (p := ⟨b, 2, none⟩) hb v2).setCell (p := ⟨b, 3, none⟩) hb v3).setCell (p := ⟨b, 4, none⟩) hb v4
set_option maxHeartbeats 32000000 in
set_option maxRecDepth 100000 in
theorem sessionRises_walk (v : Value) (ops : List Sop) (cx : Int) (w : World) (h : RSl Rep.sop w (Old w) v ops) (hcx : (Lit.int .i64 cx).wf = true) :
    Calls Try.prog 8 #[v, .int .i64 cx] w fun e w' => e = .returned (.bool true) ∧ Upd NoB w w' := by
  have HX := Lib.hid h
  obtain ⟨A, cc, _, rfl, d1, d2, _⟩ := h
  have d2' : cc ≤ 9223372036854775807 := d2
  go_enter Try.func8, Try.ntmps8
  go_wp2_with fail
  refine (newtable_any _).mono ?_
  rintro e w1 ⟨p, b, rfl, hp, hb, hT, hu⟩
  obtain ⟨hpl, hbl1⟩ := hT.lt
  have u2 := (Upd.refl NoB w1).alloc (.cells #[.int .u64 0, .bool false, .int .i64 0, .int .i64 0, .int .u64 0] 61)
  have HT0 := Lib.hid (hT.keep u2 (fun h => h) (fun h => h))
  have HU0 := Lib.hid (hu.trans u2)
  have HP0 := Lib.hid (show (w1.alloc (.cells #[.int .u64 0, .bool false, .int .i64 0, .int .i64 0, .int .u64 0] 61)).heap[w1.heap.size]? = some (.cells #[.int .u64 (Tab.new.get cx).seq, .bool (Tab.new.get cx).opn, .int .i64 (Tab.new.get cx).at_, .int .i64 (Tab.new.get cx).code, .int .u64 (Tab.new.get cx).num] 61 (0, 0)) from heap_alloc_new _ _)
  have hpwz := hu.size
  clear hT hu u2
  go_wp2_with fail
  generalize hq : w1.heap.size = pw at *
  generalize w1.alloc (.cells #[.int .u64 0, .bool false, .int .i64 0, .int .i64 0, .int .u64 0] 61) = w2 at *
  clear hq
  go_loopw [7, 8, 9, 10, 11, 16] (fun x7 x8 x9 x10 x11 i wr => ∃ k : Nat, k ≤ ops.length ∧ k ≤ 30 ∧ i = .int .i64 k ∧ ∃ (m : Tab), m.n ≤ k ∧ ∃ B : Bool, x7 = .bool B ∧ Hid (Tbl wr p b m) ∧ Hid (B = (m.f cx).isSome) ∧ Hid (wr.heap[pw]? = some (.cells #[.int .u64 (m.get cx).seq, .bool (m.get cx).opn, .int .i64 (m.get cx).at_, .int .i64 (m.get cx).code, .int .u64 (m.get cx).num] 61 (0, 0))) ∧ Hid (Upd NoB w wr)) (fun _ _ _ _ _ i _ => ops.length - (intOf i).toNat)
  case atStart => exact ⟨0, by omega, by omega, rfl, Tab.new, by simp [Tab.new], false, rfl, HT0, Lib.hid rfl, HP0, HU0⟩
  case round =>
    obtain ⟨k, hk, hk30, rfl, m, hmn, B, rfl, hT, hE, hP, hU⟩ := hrel
    by_cases hlt : k < ops.length
    · obtain ⟨g, o, rcs, rfl, hrep, hcell, hg⟩ := HX.out.cellN k hlt
      obtain ⟨hr1, hwc, hwq, _⟩ := hrep
      subst hr1
      have c0 : wr.cell? ⟨g, o + k * 6, none⟩ = some (.int .i64 ops[k].kd) := hU.out.cell (hcell 0 _ rfl) (fun h => h)
      have c1 : wr.cell? ⟨g, o + k * 6 + 1, none⟩ = some (.int .i64 ops[k].cl) := hU.out.cell (hcell 1 _ rfl) (fun h => h)
      have c2 : wr.cell? ⟨g, o + k * 6 + 2, none⟩ = some (.int .u64 ops[k].sq) := hU.out.cell (hcell 2 _ rfl) (fun h => h)
      have c3 : wr.cell? ⟨g, o + k * 6 + 3, none⟩ = some (.int .i64 ops[k].a) := hU.out.cell (hcell 3 _ rfl) (fun h => h)
      have c4 : wr.cell? ⟨g, o + k * 6 + 4, none⟩ = some (.int .i64 ops[k].code) := hU.out.cell (hcell 4 _ rfl) (fun h => h)
      have c5 : wr.cell? ⟨g, o + k * 6 + 5, none⟩ = some (.int .u64 ops[k].num) := hU.out.cell (hcell 5 _ rfl) (fun h => h)
      generalize ops[k] = y at *
      obtain ⟨kd, c, sq, a, code, num⟩ := y
      simp only at c0 c1 c2 c3 c4 c5 hwc hwq
      have hsq : 0 ≤ sq := by simp [Lit.wf, IntKind.min, IntKind.max, IntKind.signed, IntKind.bits] at hwq; omega
      clear hcell
      by_cases h30 : 30 ≤ k
      · have hI30 : (30 : Int) ≤ (k : Int) := by omega
        have hd30 : decide ((30 : Int) ≤ (k : Int)) = true := decide_eq_true hI30
        clear h30
        go_wp2_with fail
        refine (sessAwake_any _).mono ?_
        rintro e w99 ⟨rfl, hu⟩
        have HU99 := Lib.hid ((hU.out.alloc _).trans hu)
        clear hu
        go_wp2_with fail
        go_ret
        exact ⟨rfl, HU99.out⟩
      · have hI30 : ¬ (30 : Int) ≤ (k : Int) := by omega
        have hd30 : decide ((30 : Int) ≤ (k : Int)) = false := decide_eq_false hI30
        obtain ⟨wa, hwa⟩ : ∃ wa, wr.alloc (.cells #[.int .i64 kd, .int .i64 c, .int .u64 sq, .int .i64 a, .int .i64 code, .int .u64 num] 55) = wa := ⟨_, rfl⟩
        have hua : Upd NoB wr wa := by rw [← hwa]; exact (Upd.refl _ _).alloc _
        have hB := Lib.hid (show wa.heap[wr.heap.size]? = some (.cells #[.int .i64 kd, .int .i64 c, .int .u64 sq, .int .i64 a, .int .i64 code, .int .u64 num] 55 (0, 0)) by rw [← hwa]; exact heap_alloc_new _ _)
        obtain ⟨x0, x1, x2, x3, x4, x5⟩ := six_cells hB.out
        have HTa := Lib.hid (hT.out.keep hua (fun h => h) (fun h => h))
        have HUa := Lib.hid (hU.out.trans hua)
        have HPa := Lib.hid (hua.heap hP.out (fun h => h))
        have hn1 := stepT_n kd c sq a code num m
        have hri := fun hb => step_rises kd c sq a code num m cx hb
        have hst0 := Lib.hid (fun (hk : kd = 0 ∨ kd = 1) => show ∀ x (h : Tbl x p b m), Calls Try.prog 32 #[.pointer (some ⟨p, 0, none⟩), .agg #[.int .i64 c, .int .u64 sq], .int .i64 a] x fun e w' => e = .returned (.int .i64 (m.may c sq a false)) ∧ Tbl w' p b (stepT kd c sq a code num m) ∧ Upd (fun y => y = b) x w' from fun x h => by
          unfold stepT
          rw [if_pos hk]
          exact open_any p b m c sq a x h hwc (by omega))
        have hst2 := Lib.hid (fun (hk0 : ¬ (kd = 0 ∨ kd = 1)) (hk : kd = 2 ∨ kd = 3) => show ∀ x (h : Tbl x p b m), Calls Try.prog 33 #[.pointer (some ⟨p, 0, none⟩), .agg #[.int .i64 c, .int .u64 sq], .int .i64 a, .int .i64 code, .int .u64 num] x fun e w' => e = .returned (.int .i64 (m.may c sq a true)) ∧ Tbl w' p b (stepT kd c sq a code num m) ∧ Upd (fun y => y = b) x w' from fun x h => by
          unfold stepT
          rw [if_neg hk0, if_pos hk]
          exact done_any p b m c sq a code num x h hwc (by omega))
        have hst3 := Lib.hid (fun (hk0 : ¬ (kd = 0 ∨ kd = 1)) (hk : ¬ (kd = 2 ∨ kd = 3)) => show stepT kd c sq a code num m = m by unfold stepT; rw [if_neg hk0, if_neg hk])
        generalize m.may c sq a false = E1 at *
        generalize m.may c sq a true = E2 at *
        generalize stepT kd c sq a code num m = m2 at *
        have HOF := Lib.hid (fun x (h : Tbl x p b m2) => of_any p b m2 cx x h hcx)
        obtain ⟨s2, hs2⟩ : ∃ s2, s2 = m2.get cx := ⟨_, rfl⟩
        obtain ⟨B2, hB2⟩ : ∃ B2, B2 = (m2.f cx).isSome := ⟨_, rfl⟩
        obtain ⟨s, hs⟩ : ∃ s, s = m.get cx := ⟨_, rfl⟩
        rw [← hs2] at hri HOF
        rw [← hB2] at hri HOF
        rw [← hs] at hri HPa
        have hS2 := Lib.hid hs2.symm
        have hE2 := Lib.hid hB2
        rw [← hE.out] at hri
        clear hs2 hB2 hs hua h30
        have HRI := Lib.hid hri
        clear hri
        go_upto_block 2 with fail
        go_cut [16] from 16 to 84 (fun v16 wc => v16 = .int .i64 k ∧ Hid (Tbl wc p b m2) ∧ Hid (Upd NoB w wc) ∧ Hid (wc.heap[pw]? = some (.cells #[.int .u64 s.seq, .bool s.opn, .int .i64 s.at_, .int .i64 s.code, .int .u64 s.num] 61 (0, 0))))
        case first =>
          by_cases hk0 : kd = 0 ∨ kd = 1
          · have hst := hst0.out hk0
            have hst := Lib.hid hst
            rcases hk0 with rfl | rfl
            · skip
              go_wp2_with fail
              refine (hst.out _ HTa.out).mono ?_
              rintro e w3 ⟨rfl, hT3, hu⟩
              have HT3 := Lib.hid hT3
              have HU3 := Lib.hid (HUa.out.then hu (fun y hy e => by have e' : y = b := e; omega))
              have HP3 := Lib.hid (hu.heap HPa.out (fun h => by have e' : pw = b := h; omega))
              clear hT3 hu
              go_wp2_with fail
              go_meet
              exact ⟨rfl, HT3, HU3, HP3⟩
            · skip
              go_wp2_with fail
              refine (hst.out _ HTa.out).mono ?_
              rintro e w3 ⟨rfl, hT3, hu⟩
              have HT3 := Lib.hid hT3
              have HU3 := Lib.hid (HUa.out.then hu (fun y hy e => by have e' : y = b := e; omega))
              have HP3 := Lib.hid (hu.heap HPa.out (fun h => by have e' : pw = b := h; omega))
              clear hT3 hu
              go_wp2_with fail
              go_meet
              exact ⟨rfl, HT3, HU3, HP3⟩
          · have n0 : (kd == 0) = false := by simp; omega
            have n1 : (kd == 1) = false := by simp; omega
            by_cases hk2 : kd = 2 ∨ kd = 3
            · have hst := hst2.out hk0 hk2
              have hst := Lib.hid hst
              clear hk0
              rcases hk2 with rfl | rfl
              · clear n0 n1
                go_wp2_with fail
                refine (hst.out _ HTa.out).mono ?_
                rintro e w3 ⟨rfl, hT3, hu⟩
                have HT3 := Lib.hid hT3
                have HU3 := Lib.hid (HUa.out.then hu (fun y hy e => by have e' : y = b := e; omega))
                have HP3 := Lib.hid (hu.heap HPa.out (fun h => by have e' : pw = b := h; omega))
                clear hT3 hu
                go_wp2_with fail
                go_meet
                exact ⟨rfl, HT3, HU3, HP3⟩
              · clear n0 n1
                go_wp2_with fail
                refine (hst.out _ HTa.out).mono ?_
                rintro e w3 ⟨rfl, hT3, hu⟩
                have HT3 := Lib.hid hT3
                have HU3 := Lib.hid (HUa.out.then hu (fun y hy e => by have e' : y = b := e; omega))
                have HP3 := Lib.hid (hu.heap HPa.out (fun h => by have e' : pw = b := h; omega))
                clear hT3 hu
                go_wp2_with fail
                go_meet
                exact ⟨rfl, HT3, HU3, HP3⟩
            · have n2 : (kd == 2) = false := by simp; omega
              have n3 : (kd == 3) = false := by simp; omega
              have he := hst3.out hk0 hk2
              have HT3 := Lib.hid (show Tbl wa p b m2 by rw [he]; exact HTa.out)
              have HU3 := HUa
              have HP3 := HPa
              clear hk0 hk2 he
              go_wp2_with fail
              go_meet
              exact ⟨rfl, HT3, HU3, HP3⟩
        case rest =>
          obtain ⟨rfl, HT3, HU3, HP3⟩ := hcut
          clear hst0 hst2 hst3 hB HTa HUa HPa x0 x1 x2 x3 x4 x5
          cases B
          · clear HRI
            go_wp2_with fail
            refine (HOF.out _ HT3.out).mono ?_
            rintro e w5 ⟨rfl, hu⟩
            have HT5 := Lib.hid (HT3.out.keep hu (fun h => h) (fun h => h))
            have HU5 := Lib.hid (HU3.out.trans hu)
            have HP5 := Lib.hid (hu.heap HP3.out (fun h => h))
            obtain ⟨y0, y1, y2, y3, y4⟩ := five_cells HP5.out
            obtain ⟨f0, f1, f2, f3, f4⟩ := five_frz HP5.out
            skip
            have hpw5 : pw < w5.heap.size := lt_of_heap HP5.out
            have hfin1 := Lib.hid (fun (o : Obj) => (Upd.refl NoB _).alloc o |>.heap (heap_put5 HP5.out (.int .u64 s2.seq) (.bool s2.opn) (.int .i64 s2.at_) (.int .i64 s2.code) (.int .u64 s2.num)) (fun h => h))
            have hfinU := Lib.hid (fun (o : Obj) => (upd_put5 HU5.out (b := pw) (fun h => by omega) (.int .u64 s2.seq) (.bool s2.opn) (.int .i64 s2.at_) (.int .i64 s2.code) (.int .u64 s2.num)).alloc o)
            have hfinT := Lib.hid (fun (o : Obj) => (HT5.out.keep (upd_put5 (Upd.refl (fun y => y = pw) w5) (b := pw) (fun _ => rfl) (.int .u64 s2.seq) (.bool s2.opn) (.int .i64 s2.at_) (.int .i64 s2.code) (.int .u64 s2.num)) (fun h => by have e' : p = pw := h; omega) (fun h => by have e' : b = pw := h; omega)).keep ((Upd.refl NoB _).alloc o) (fun h => h) (fun h => h))
            clear hu
            go_wp2_with fail
            go_roundw
            case measure => simp [intOf]; omega
            case rel => exact ⟨k + 1, by omega, by omega, by go_num, m2, by omega, _, rfl, Lib.hid (hfinT.out _), hE2, Lib.hid (by rw [hS2.out]; exact hfin1.out _), Lib.hid (hfinU.out _)⟩
          · obtain ⟨hr1, hr2, hr3⟩ := HRI.out rfl
            subst hr1
            clear HRI
            by_cases hlt2 : s.seq < s2.seq
            · have l1 : decide (s2.seq < s.seq) = false := decide_eq_false (by omega)
              have l2 : (s2.seq == s.seq) = false := by simp; omega
              clear hr2 hr3 hlt2
              go_wp2_with fail
              refine (HOF.out _ HT3.out).mono ?_
              rintro e w5 ⟨rfl, hu⟩
              have HT5 := Lib.hid (HT3.out.keep hu (fun h => h) (fun h => h))
              have HU5 := Lib.hid (HU3.out.trans hu)
              have HP5 := Lib.hid (hu.heap HP3.out (fun h => h))
              obtain ⟨y0, y1, y2, y3, y4⟩ := five_cells HP5.out
              obtain ⟨f0, f1, f2, f3, f4⟩ := five_frz HP5.out
              skip
              have hpw5 : pw < w5.heap.size := lt_of_heap HP5.out
              have hfin1 := Lib.hid (fun (o : Obj) => (Upd.refl NoB _).alloc o |>.heap (heap_put5 HP5.out (.int .u64 s2.seq) (.bool s2.opn) (.int .i64 s2.at_) (.int .i64 s2.code) (.int .u64 s2.num)) (fun h => h))
              have hfinU := Lib.hid (fun (o : Obj) => (upd_put5 HU5.out (b := pw) (fun h => by omega) (.int .u64 s2.seq) (.bool s2.opn) (.int .i64 s2.at_) (.int .i64 s2.code) (.int .u64 s2.num)).alloc o)
              have hfinT := Lib.hid (fun (o : Obj) => (HT5.out.keep (upd_put5 (Upd.refl (fun y => y = pw) w5) (b := pw) (fun _ => rfl) (.int .u64 s2.seq) (.bool s2.opn) (.int .i64 s2.at_) (.int .i64 s2.code) (.int .u64 s2.num)) (fun h => by have e' : p = pw := h; omega) (fun h => by have e' : b = pw := h; omega)).keep ((Upd.refl NoB _).alloc o) (fun h => h) (fun h => h))
              clear hu
              go_wp2_with fail
              go_roundw
              case measure => simp [intOf]; omega
              case rel => exact ⟨k + 1, by omega, by omega, by go_num, m2, by omega, _, rfl, Lib.hid (hfinT.out _), hE2, Lib.hid (by rw [hS2.out]; exact hfin1.out _), Lib.hid (hfinU.out _)⟩
            · have hse : s2.seq = s.seq := by omega
              by_cases hO : s.opn = true
              · have l1 : decide (s2.seq < s.seq) = false := decide_eq_false (by omega)
                have l2 : (s2.seq == s.seq) = true := by simp [hse]
                clear hr2 hr3 hlt2 hse
                replace hO := Lib.hid hO
                go_wp2_with fail
                refine (HOF.out _ HT3.out).mono ?_
                rintro e w5 ⟨rfl, hu⟩
                have HT5 := Lib.hid (HT3.out.keep hu (fun h => h) (fun h => h))
                have HU5 := Lib.hid (HU3.out.trans hu)
                have HP5 := Lib.hid (hu.heap HP3.out (fun h => h))
                obtain ⟨y0, y1, y2, y3, y4⟩ := five_cells HP5.out
                obtain ⟨f0, f1, f2, f3, f4⟩ := five_frz HP5.out
                rw [hO.out] at y1
                have hpw5 : pw < w5.heap.size := lt_of_heap HP5.out
                have hfin1 := Lib.hid (fun (o : Obj) => (Upd.refl NoB _).alloc o |>.heap (heap_put5 HP5.out (.int .u64 s2.seq) (.bool s2.opn) (.int .i64 s2.at_) (.int .i64 s2.code) (.int .u64 s2.num)) (fun h => h))
                have hfinU := Lib.hid (fun (o : Obj) => (upd_put5 HU5.out (b := pw) (fun h => by omega) (.int .u64 s2.seq) (.bool s2.opn) (.int .i64 s2.at_) (.int .i64 s2.code) (.int .u64 s2.num)).alloc o)
                have hfinT := Lib.hid (fun (o : Obj) => (HT5.out.keep (upd_put5 (Upd.refl (fun y => y = pw) w5) (b := pw) (fun _ => rfl) (.int .u64 s2.seq) (.bool s2.opn) (.int .i64 s2.at_) (.int .i64 s2.code) (.int .u64 s2.num)) (fun h => by have e' : p = pw := h; omega) (fun h => by have e' : b = pw := h; omega)).keep ((Upd.refl NoB _).alloc o) (fun h => h) (fun h => h))
                clear hu
                go_wp2_with fail
                go_roundw
                case measure => simp [intOf]; omega
                case rel => exact ⟨k + 1, by omega, by omega, by go_num, m2, by omega, _, rfl, Lib.hid (hfinT.out _), hE2, Lib.hid (by rw [hS2.out]; exact hfin1.out _), Lib.hid (hfinU.out _)⟩
              · have hO' : s.opn = false := by simpa using hO
                have hss := hr3 hse hO'
                subst hss
                obtain ⟨q2, o2, a2, e2, n2⟩ := s2
                simp only at hO'
                subst hO'
                dsimp only at HOF HP3
                clear hr2 hr3 hlt2 hse hO
                go_wp2_with fail
                refine (HOF.out _ HT3.out).mono ?_
                rintro e w5 ⟨rfl, hu⟩
                have HT5 := Lib.hid (HT3.out.keep hu (fun h => h) (fun h => h))
                have HU5 := Lib.hid (HU3.out.trans hu)
                have HP5 := Lib.hid (hu.heap HP3.out (fun h => h))
                obtain ⟨y0, y1, y2, y3, y4⟩ := five_cells HP5.out
                obtain ⟨f0, f1, f2, f3, f4⟩ := five_frz HP5.out
                skip
                have hpw5 : pw < w5.heap.size := lt_of_heap HP5.out
                have hfin1 := Lib.hid (fun (o : Obj) => (Upd.refl NoB _).alloc o |>.heap (heap_put5 HP5.out (.int .u64 q2) (.bool false) (.int .i64 a2) (.int .i64 e2) (.int .u64 n2)) (fun h => h))
                have hfinU := Lib.hid (fun (o : Obj) => (upd_put5 HU5.out (b := pw) (fun h => by omega) (.int .u64 q2) (.bool false) (.int .i64 a2) (.int .i64 e2) (.int .u64 n2)).alloc o)
                have hfinT := Lib.hid (fun (o : Obj) => (HT5.out.keep (upd_put5 (Upd.refl (fun y => y = pw) w5) (b := pw) (fun _ => rfl) (.int .u64 q2) (.bool false) (.int .i64 a2) (.int .i64 e2) (.int .u64 n2)) (fun h => by have e' : p = pw := h; omega) (fun h => by have e' : b = pw := h; omega)).keep ((Upd.refl NoB _).alloc o) (fun h => h) (fun h => h))
                clear hu
                go_wp2_with fail
                go_roundw
                case measure => simp [intOf]; omega
                case rel => exact ⟨k + 1, by omega, by omega, by go_num, m2, by omega, _, rfl, Lib.hid (hfinT.out _), hE2, Lib.hid (by rw [hS2.out]; exact hfin1.out _), Lib.hid (hfinU.out _)⟩
    · obtain rfl : k = ops.length := by omega
      go_wp2_with fail
      refine (sessAwake_any _).mono ?_
      rintro e w99 ⟨rfl, hu⟩
      have HU99 := Lib.hid (hU.out.trans hu)
      clear hu
      go_wp2_with fail
      go_ret
      exact ⟨rfl, HU99.out⟩
end Go.Proofs.Ytmcpcladjfddmaa
