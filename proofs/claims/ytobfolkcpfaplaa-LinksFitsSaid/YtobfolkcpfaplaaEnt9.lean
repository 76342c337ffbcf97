/- Entries of a log, any: may an entry be (the program's)? -/
import Derived.Test.YtobfolkcpfaplaaEnt8
namespace Go.Proofs.Ytobfolkcpfaplaa
open Go.RowKit Kit
set_option linter.unusedVariables false
/-- Is it no transaction? -/
def noneB (tc tq : Int) (pl : Bool) (rd : List Rd) (wt : List Wt) : Bool := decide (tc = 0 ∧ tq = 0) && (!pl && decide (rd.length + wt.length = 0))
def codeB (c : Int) : Bool := decide (c = 0) || (decide (c = 8) || decide (c = 11))
/-- May an entry be? -/
def rightB (x : Ent) : Bool :=
  !decide (x.ep = 0) && (if x.kd = 1 then txnB x.tc x.tq x.pl x.rd x.wr && (decide (x.ec = 0 ∧ x.eq = 0) && decide (x.cd = 0))
    else if x.kd = 2 then noneB x.tc x.tq x.pl x.rd x.wr && (idB x.ec x.eq && codeB x.cd) else false)
set_option maxHeartbeats 4000000 in
theorem enone_any (tc tq : Int) (pl : Bool) (rd : List Rd) (wt : List Wt) (A B : Option Addr) (c d : Nat) (w : World) (hn : rd.length ≤ 100000) (hm : wt.length ≤ 100000) :
    Calls Try.prog 80 #[.agg #[.int .i64 tc, .int .u64 tq, .bool pl, .slice A rd.length c, .slice B wt.length d]] w fun e w' => e = .returned (.bool (noneB tc tq pl rd wt)) ∧ Upd NoB w w' := by
  have HU := Lib.hid (fun o => (Upd.refl NoB w).alloc o)
  have hws : IntKind.i64.wrap ((rd.length : Int) + wt.length) = (rd.length : Int) + wt.length := by simp only [IntKind.wrap_i64]; omega
  by_cases h1 : tc = 0
  · by_cases h2 : tq = 0
    · subst h1 h2
      cases pl
      · by_cases h0 : rd.length + wt.length = 0
        · have hres := Lib.hid (show noneB 0 0 false rd wt = true from by unfold noneB; rw [show decide (rd.length + wt.length = 0) = true from decide_eq_true h0]; rfl)
          have d0 : ((rd.length : Int) + (wt.length : Int) == 0) = true := beq_iff_eq.2 (by omega)
          clear h0 hn hm
          go_enter Try.func80, Try.ntmps80
          go_wp2_with fail
          go_ret
          exact ⟨by rw [hres.out]; rfl, HU.out _⟩
        · have hres := Lib.hid (show noneB 0 0 false rd wt = false from by unfold noneB; rw [show decide (rd.length + wt.length = 0) = false from decide_eq_false h0]; rfl)
          have d0 : ((rd.length : Int) + (wt.length : Int) == 0) = false := beq_eq_false_iff_ne.2 (by omega)
          clear h0 hn hm
          go_enter Try.func80, Try.ntmps80
          go_wp2_with fail
          go_ret
          exact ⟨by rw [hres.out]; rfl, HU.out _⟩
      · have hres := Lib.hid (show noneB 0 0 true rd wt = false from rfl)
        clear hn hm
        go_enter Try.func80, Try.ntmps80
        go_wp2_with fail
        go_ret
        exact ⟨by rw [hres.out]; rfl, HU.out _⟩
    · have hres := Lib.hid (show noneB tc tq pl rd wt = false from by unfold noneB; rw [show decide (tc = 0 ∧ tq = 0) = false from decide_eq_false (fun h => h2 h.2)]; rfl)
      have d2 : (tq == 0) = false := beq_eq_false_iff_ne.2 h2
      clear hn hm
      go_enter Try.func80, Try.ntmps80
      go_wp2_with fail
      go_ret
      exact ⟨by rw [hres.out]; rfl, HU.out _⟩
  · have hres := Lib.hid (show noneB tc tq pl rd wt = false from by unfold noneB; rw [show decide (tc = 0 ∧ tq = 0) = false from decide_eq_false (fun h => h1 h.1)]; rfl)
    have d1 : (tc == 0) = false := beq_eq_false_iff_ne.2 h1
    clear hn hm
    go_enter Try.func80, Try.ntmps80
    go_wp2_with fail
    go_ret
    exact ⟨by rw [hres.out]; rfl, HU.out _⟩
theorem codeB_cases (c : Int) : (c = 0 ∧ codeB c = true) ∨ (c = 8 ∧ codeB c = true) ∨ (c = 11 ∧ codeB c = true) ∨ (((c == 0) = false ∧ (c == 8) = false ∧ (c == 11) = false) ∧ codeB c = false) := by
  unfold codeB
  by_cases h1 : c = 0
  · exact .inl ⟨h1, by simp [h1]⟩
  by_cases h2 : c = 8
  · exact .inr (.inl ⟨h2, by simp [h2]⟩)
  by_cases h3 : c = 11
  · exact .inr (.inr (.inl ⟨h3, by simp [h3]⟩))
  · exact .inr (.inr (.inr ⟨⟨beq_eq_false_iff_ne.2 h1, beq_eq_false_iff_ne.2 h2, beq_eq_false_iff_ne.2 h3⟩, by simp [h1, h2, h3]⟩))
set_option maxHeartbeats 8000000 in
set_option maxRecDepth 100000 in
theorem eright_any {S : Nat → Prop} (x : Ent) (A B : Option Addr) (c d : Nat) (w : World) (h1 : RSl Rep.rd w S (.slice A x.rd.length c) x.rd) (h2 : RSl Rep.wt w S (.slice B x.wr.length d) x.wr) (hsm : x.small) (hq : 0 ≤ x.tq) (hq2 : 0 ≤ x.eq) :
    Calls Try.prog 63 #[.agg #[.int .u64 x.ep, .int .i64 x.kd, .int .i64 x.tc, .int .u64 x.tq, .bool x.pl, .slice A x.rd.length c, .slice B x.wr.length d, .int .i64 x.ec, .int .u64 x.eq, .int .i64 x.cd]] w fun e w' => e = .returned (.bool (rightB x)) ∧ Upd NoB w w' := by
  obtain ⟨wa, hwa0⟩ : ∃ wa, w.alloc (.cells #[.int .u64 x.ep, .int .i64 x.kd, .int .i64 x.tc, .int .u64 x.tq, .bool x.pl, .slice A x.rd.length c, .slice B x.wr.length d, .int .i64 x.ec, .int .u64 x.eq, .int .i64 x.cd] 65) = wa := ⟨_, rfl⟩
  have hua : Upd NoB w wa := by rw [← hwa0]; exact (Upd.refl _ _).alloc _
  have hB0 : wa.heap[w.heap.size]? = some (.cells #[.int .u64 x.ep, .int .i64 x.kd, .int .i64 x.tc, .int .u64 x.tq, .bool x.pl, .slice A x.rd.length c, .slice B x.wr.length d, .int .i64 x.ec, .int .u64 x.eq, .int .i64 x.cd] 65 (0, 0)) := by rw [← hwa0]; exact heap_alloc_new _ _
  have HUa := Lib.hid hua
  have HU0 := Lib.hid (Upd.refl NoB wa)
  have hb := Lib.hid (fun y (hy : Upd NoB wa y) => ten_cells (hy.heap hB0 (fun h => h)))
  have htx := Lib.hid (righttxn_any x.tc x.tq x.pl x.rd x.wr A B c d wa (h1.upd hua (fun _ _ h => h)) (h2.upd hua (fun _ _ h => h)) hq hsm.1 hsm.2)
  have hno := Lib.hid (enone_any x.tc x.tq x.pl x.rd x.wr A B c d wa hsm.1 hsm.2)
  have hri := Lib.hid (fun z => rid_any x.ec x.eq z hq2)
  obtain ⟨ep, kd, tc, tq, pl, rd, wt, ec, eq, cd⟩ := x
  simp only at hwa0 hb htx hno hri
  clear hua hB0 h1 h2 hq hq2 hsm
  by_cases he : ep = 0
  · have hres := Lib.hid (show rightB ⟨ep, kd, tc, tq, pl, rd, wt, ec, eq, cd⟩ = false from by unfold rightB; simp [he])
    have de : (ep == 0) = true := beq_iff_eq.2 he
    clear he
    skip
    obtain ⟨y0, y1, y2, y3, y4, y5, y6, y7, y8, y9⟩ := hb.out _ HU0.out
    go_enter Try.func63, Try.ntmps63
    go_wp2_with fail
    go_ret
    exact ⟨by rw [hres.out]; rfl, HUa.out.trans HU0.out⟩
  · have de : (ep == 0) = false := beq_eq_false_iff_ne.2 he
    have q0 : decide (ep = 0) = false := decide_eq_false he
    by_cases hk1 : kd = 1
    · subst hk1
      have hpass : rightB ⟨ep, 1, tc, tq, pl, rd, wt, ec, eq, cd⟩ = (txnB tc tq pl rd wt && (decide (ec = 0 ∧ eq = 0) && decide (cd = 0))) := by unfold rightB; simp only [q0]; rfl
      clear he q0
      cases hT : txnB tc tq pl rd wt
      · rw [hT] at htx hpass
        have hres := Lib.hid hpass
        clear hT hpass
        skip
        obtain ⟨y0, y1, y2, y3, y4, y5, y6, y7, y8, y9⟩ := hb.out _ HU0.out
        go_enter Try.func63, Try.ntmps63
        go_wp2_with fail
        refine htx.out.mono ?_
        rintro e w1 ⟨rfl, hu⟩
        have HU1 := Lib.hid hu
        clear hu
        go_wp2_with fail
        go_ret
        exact ⟨by rw [hres.out]; rfl, HUa.out.trans HU1.out⟩
      · rw [hT] at htx hpass
        clear hT
        by_cases h5 : ec = 0 ∧ eq = 0
        · obtain ⟨rfl, rfl⟩ := h5
          by_cases h6 : cd = 0
          · subst h6
            have hres := Lib.hid (show rightB ⟨ep, 1, tc, tq, pl, rd, wt, 0, 0, 0⟩ = true from by rw [hpass]; rfl)
            clear hpass
            skip
            obtain ⟨y0, y1, y2, y3, y4, y5, y6, y7, y8, y9⟩ := hb.out _ HU0.out
            go_enter Try.func63, Try.ntmps63
            go_wp2_with fail
            refine htx.out.mono ?_
            rintro e w1 ⟨rfl, hu⟩
            have HU1 := Lib.hid hu
            clear hu y0 y1 y2 y3 y4 y5 y6 y7 y8 y9
            obtain ⟨y0, y1, y2, y3, y4, y5, y6, y7, y8, y9⟩ := hb.out _ HU1.out
            go_wp2_with fail
            go_ret
            exact ⟨by rw [hres.out]; rfl, HUa.out.trans HU1.out⟩
          · have d6 : (cd == 0) = false := beq_eq_false_iff_ne.2 h6
            have hres := Lib.hid (show rightB ⟨ep, 1, tc, tq, pl, rd, wt, 0, 0, cd⟩ = false from by rw [hpass]; simp [h6])
            clear hpass h6
            skip
            obtain ⟨y0, y1, y2, y3, y4, y5, y6, y7, y8, y9⟩ := hb.out _ HU0.out
            go_enter Try.func63, Try.ntmps63
            go_wp2_with fail
            refine htx.out.mono ?_
            rintro e w1 ⟨rfl, hu⟩
            have HU1 := Lib.hid hu
            clear hu y0 y1 y2 y3 y4 y5 y6 y7 y8 y9
            obtain ⟨y0, y1, y2, y3, y4, y5, y6, y7, y8, y9⟩ := hb.out _ HU1.out
            go_wp2_with fail
            go_ret
            exact ⟨by rw [hres.out]; rfl, HUa.out.trans HU1.out⟩
        · have hres := Lib.hid (show rightB ⟨ep, 1, tc, tq, pl, rd, wt, ec, eq, cd⟩ = false from by rw [hpass, show decide (ec = 0 ∧ eq = 0) = false from decide_eq_false h5]; rfl)
          clear hpass
          by_cases h7 : ec = 0
          · have h8 : ¬ eq = 0 := fun h => h5 ⟨h7, h⟩
            have d7 : (ec == 0) = true := beq_iff_eq.2 h7
            have d8 : (eq == 0) = false := beq_eq_false_iff_ne.2 h8
            clear h5 h7 h8
            skip
            obtain ⟨y0, y1, y2, y3, y4, y5, y6, y7, y8, y9⟩ := hb.out _ HU0.out
            go_enter Try.func63, Try.ntmps63
            go_wp2_with fail
            refine htx.out.mono ?_
            rintro e w1 ⟨rfl, hu⟩
            have HU1 := Lib.hid hu
            clear hu y0 y1 y2 y3 y4 y5 y6 y7 y8 y9
            obtain ⟨y0, y1, y2, y3, y4, y5, y6, y7, y8, y9⟩ := hb.out _ HU1.out
            go_wp2_with fail
            go_ret
            exact ⟨by rw [hres.out]; rfl, HUa.out.trans HU1.out⟩
          · have d7 : (ec == 0) = false := beq_eq_false_iff_ne.2 h7
            clear h5 h7
            skip
            obtain ⟨y0, y1, y2, y3, y4, y5, y6, y7, y8, y9⟩ := hb.out _ HU0.out
            go_enter Try.func63, Try.ntmps63
            go_wp2_with fail
            refine htx.out.mono ?_
            rintro e w1 ⟨rfl, hu⟩
            have HU1 := Lib.hid hu
            clear hu y0 y1 y2 y3 y4 y5 y6 y7 y8 y9
            obtain ⟨y0, y1, y2, y3, y4, y5, y6, y7, y8, y9⟩ := hb.out _ HU1.out
            go_wp2_with fail
            go_ret
            exact ⟨by rw [hres.out]; rfl, HUa.out.trans HU1.out⟩
    · have d1 : (kd == 1) = false := beq_eq_false_iff_ne.2 hk1
      by_cases hk2 : kd = 2
      · subst hk2
        have hpass : rightB ⟨ep, 2, tc, tq, pl, rd, wt, ec, eq, cd⟩ = (noneB tc tq pl rd wt && (idB ec eq && codeB cd)) := by unfold rightB; simp only [q0]; rfl
        clear he q0 hk1 d1
        cases hT : noneB tc tq pl rd wt
        · rw [hT] at hno hpass
          have hres := Lib.hid hpass
          clear hT hpass
          skip
          obtain ⟨y0, y1, y2, y3, y4, y5, y6, y7, y8, y9⟩ := hb.out _ HU0.out
          go_enter Try.func63, Try.ntmps63
          go_wp2_with fail
          refine hno.out.mono ?_
          rintro e w1 ⟨rfl, hu⟩
          have HU1 := Lib.hid hu
          clear hu
          go_wp2_with fail
          go_ret
          exact ⟨by rw [hres.out]; rfl, HUa.out.trans HU1.out⟩
        · rw [hT] at hno hpass
          clear hT
          cases hI : idB ec eq
          · rw [hI] at hri hpass
            have hres := Lib.hid hpass
            clear hI hpass
            skip
            obtain ⟨y0, y1, y2, y3, y4, y5, y6, y7, y8, y9⟩ := hb.out _ HU0.out
            go_enter Try.func63, Try.ntmps63
            go_wp2_with fail
            refine hno.out.mono ?_
            rintro e w1 ⟨rfl, hu⟩
            have HU1 := Lib.hid hu
            clear hu y0 y1 y2 y3 y4 y5 y6 y7 y8 y9
            obtain ⟨y0, y1, y2, y3, y4, y5, y6, y7, y8, y9⟩ := hb.out _ HU1.out
            go_wp2_with fail
            refine (hri.out _).mono ?_
            rintro e w2 ⟨rfl, hu⟩
            have HU2 := Lib.hid (HU1.out.trans hu)
            clear hu y0 y1 y2 y3 y4 y5 y6 y7 y8 y9
            obtain ⟨y0, y1, y2, y3, y4, y5, y6, y7, y8, y9⟩ := hb.out _ HU2.out
            go_wp2_with fail
            go_ret
            exact ⟨by rw [hres.out]; rfl, HUa.out.trans HU2.out⟩
          · rw [hI] at hri hpass
            clear hI
            have hcc := codeB_cases cd
            rcases hcc with ⟨rfl, hc⟩ | ⟨rfl, hc⟩ | ⟨rfl, hc⟩ | ⟨⟨n1, n2, n3⟩, hc⟩
            all_goals
              rw [hc] at hpass
              have hres := Lib.hid hpass
              clear hc hpass
            · skip
              obtain ⟨y0, y1, y2, y3, y4, y5, y6, y7, y8, y9⟩ := hb.out _ HU0.out
              go_enter Try.func63, Try.ntmps63
              go_wp2_with fail
              refine hno.out.mono ?_
              rintro e w1 ⟨rfl, hu⟩
              have HU1 := Lib.hid hu
              clear hu y0 y1 y2 y3 y4 y5 y6 y7 y8 y9
              obtain ⟨y0, y1, y2, y3, y4, y5, y6, y7, y8, y9⟩ := hb.out _ HU1.out
              go_wp2_with fail
              refine (hri.out _).mono ?_
              rintro e w2 ⟨rfl, hu⟩
              have HU2 := Lib.hid (HU1.out.trans hu)
              clear hu y0 y1 y2 y3 y4 y5 y6 y7 y8 y9
              obtain ⟨y0, y1, y2, y3, y4, y5, y6, y7, y8, y9⟩ := hb.out _ HU2.out
              go_wp2_with fail
              go_ret
              exact ⟨by rw [hres.out]; rfl, HUa.out.trans HU2.out⟩
            · skip
              obtain ⟨y0, y1, y2, y3, y4, y5, y6, y7, y8, y9⟩ := hb.out _ HU0.out
              go_enter Try.func63, Try.ntmps63
              go_wp2_with fail
              refine hno.out.mono ?_
              rintro e w1 ⟨rfl, hu⟩
              have HU1 := Lib.hid hu
              clear hu y0 y1 y2 y3 y4 y5 y6 y7 y8 y9
              obtain ⟨y0, y1, y2, y3, y4, y5, y6, y7, y8, y9⟩ := hb.out _ HU1.out
              go_wp2_with fail
              refine (hri.out _).mono ?_
              rintro e w2 ⟨rfl, hu⟩
              have HU2 := Lib.hid (HU1.out.trans hu)
              clear hu y0 y1 y2 y3 y4 y5 y6 y7 y8 y9
              obtain ⟨y0, y1, y2, y3, y4, y5, y6, y7, y8, y9⟩ := hb.out _ HU2.out
              go_wp2_with fail
              go_ret
              exact ⟨by rw [hres.out]; rfl, HUa.out.trans HU2.out⟩
            · skip
              obtain ⟨y0, y1, y2, y3, y4, y5, y6, y7, y8, y9⟩ := hb.out _ HU0.out
              go_enter Try.func63, Try.ntmps63
              go_wp2_with fail
              refine hno.out.mono ?_
              rintro e w1 ⟨rfl, hu⟩
              have HU1 := Lib.hid hu
              clear hu y0 y1 y2 y3 y4 y5 y6 y7 y8 y9
              obtain ⟨y0, y1, y2, y3, y4, y5, y6, y7, y8, y9⟩ := hb.out _ HU1.out
              go_wp2_with fail
              refine (hri.out _).mono ?_
              rintro e w2 ⟨rfl, hu⟩
              have HU2 := Lib.hid (HU1.out.trans hu)
              clear hu y0 y1 y2 y3 y4 y5 y6 y7 y8 y9
              obtain ⟨y0, y1, y2, y3, y4, y5, y6, y7, y8, y9⟩ := hb.out _ HU2.out
              go_wp2_with fail
              go_ret
              exact ⟨by rw [hres.out]; rfl, HUa.out.trans HU2.out⟩
            · skip
              obtain ⟨y0, y1, y2, y3, y4, y5, y6, y7, y8, y9⟩ := hb.out _ HU0.out
              go_enter Try.func63, Try.ntmps63
              go_wp2_with fail
              refine hno.out.mono ?_
              rintro e w1 ⟨rfl, hu⟩
              have HU1 := Lib.hid hu
              clear hu y0 y1 y2 y3 y4 y5 y6 y7 y8 y9
              obtain ⟨y0, y1, y2, y3, y4, y5, y6, y7, y8, y9⟩ := hb.out _ HU1.out
              go_wp2_with fail
              refine (hri.out _).mono ?_
              rintro e w2 ⟨rfl, hu⟩
              have HU2 := Lib.hid (HU1.out.trans hu)
              clear hu y0 y1 y2 y3 y4 y5 y6 y7 y8 y9
              obtain ⟨y0, y1, y2, y3, y4, y5, y6, y7, y8, y9⟩ := hb.out _ HU2.out
              go_wp2_with fail
              go_ret
              exact ⟨by rw [hres.out]; rfl, HUa.out.trans HU2.out⟩
      · have d2 : (kd == 2) = false := beq_eq_false_iff_ne.2 hk2
        have hres := Lib.hid (show rightB ⟨ep, kd, tc, tq, pl, rd, wt, ec, eq, cd⟩ = false from by unfold rightB; rw [if_neg hk1, if_neg hk2]; simp)
        clear hk1 hk2 he q0
        skip
        obtain ⟨y0, y1, y2, y3, y4, y5, y6, y7, y8, y9⟩ := hb.out _ HU0.out
        go_enter Try.func63, Try.ntmps63
        go_wp2_with fail
        go_ret
        exact ⟨by rw [hres.out]; rfl, HUa.out.trans HU0.out⟩
end Go.Proofs.Ytobfolkcpfaplaa
