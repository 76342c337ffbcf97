/- Entries of a log, any: may an entry be (the document's)? -/
import Derived.Test.YtobfolkcpfaplaaEnt10
namespace Go.Proofs.Ytobfolkcpfaplaa
open Go.RowKit Kit
set_option linter.unusedVariables false
theorem id_cells {x : World} {b : Nat} {T : TypeId} {fr : Nat × Nat} {c0 c1 : Value} (h : x.heap[b]? = some (.cells #[c0, c1] T fr)) : x.cell? ⟨b, 0, none⟩ = some c0 ∧ x.cell? ⟨b, 1, none⟩ = some c1 := by
  simp [World.cell?, h]
set_option maxHeartbeats 8000000 in
set_option maxRecDepth 100000 in
theorem refright_any {S : Nat → Prop} (x : Ent) (A B : Option Addr) (c d : Nat) (w : World) (h1 : RSl Rep.rd w S (.slice A x.rd.length c) x.rd) (h2 : RSl Rep.wt w S (.slice B x.wr.length d) x.wr) (hsm : x.small) (hq : 0 ≤ x.tq) (hq2 : 0 ≤ x.eq) :
    Calls Try.prog 78 #[.agg #[.int .u64 x.ep, .int .i64 x.kd, .int .i64 x.tc, .int .u64 x.tq, .bool x.pl, .slice A x.rd.length c, .slice B x.wr.length d, .int .i64 x.ec, .int .u64 x.eq, .int .i64 x.cd]] w fun e w' => e = .returned (.bool (rightB x)) ∧ Upd NoB w w' := by
  obtain ⟨wa, hwa0⟩ : ∃ wa, w.alloc (.cells #[.int .u64 x.ep, .int .i64 x.kd, .int .i64 x.tc, .int .u64 x.tq, .bool x.pl, .slice A x.rd.length c, .slice B x.wr.length d, .int .i64 x.ec, .int .u64 x.eq, .int .i64 x.cd] 72) = wa := ⟨_, rfl⟩
  have hua : Upd NoB w wa := by rw [← hwa0]; exact (Upd.refl _ _).alloc _
  have hB0 : wa.heap[w.heap.size]? = some (.cells #[.int .u64 x.ep, .int .i64 x.kd, .int .i64 x.tc, .int .u64 x.tq, .bool x.pl, .slice A x.rd.length c, .slice B x.wr.length d, .int .i64 x.ec, .int .u64 x.eq, .int .i64 x.cd] 72 (0, 0)) := by rw [← hwa0]; exact heap_alloc_new _ _
  have HUa := Lib.hid hua
  have HU0 := Lib.hid (Upd.refl NoB wa)
  have HUo := Lib.hid (fun o => (Upd.refl NoB wa).alloc o)
  have hb := Lib.hid (fun y (hy : Upd NoB wa y) => ten_cells (hy.heap hB0 (fun h => h)))
  have hN := Lib.hid (fun y (hy : Upd NoB (wa.alloc (.cells #[.int .i64 0, .int .u64 0] 31)) y) => id_cells (hy.heap (heap_alloc_new wa _) (fun h => h)))
  have htx := Lib.hid (fun z (hz : Upd NoB wa z) => reftxn_any x.tc x.tq x.pl x.rd x.wr A B c d z (h1.upd (hua.trans hz) (fun _ _ h => h)) (h2.upd (hua.trans hz) (fun _ _ h => h)) hq hsm.1 hsm.2)
  have hri := Lib.hid (fun z => refrid_any x.ec x.eq z hq2)
  obtain ⟨ep, kd, tc, tq, pl, rd, wt, ec, eq, cd⟩ := x
  simp only at hwa0 hb htx hri
  have hlr : rd.length ≤ 100000 := hsm.1
  have hlw : wt.length ≤ 100000 := hsm.2
  clear hua hB0 h1 h2 hq hq2 hsm
  by_cases he : ep = 0
  · have hres := Lib.hid (show rightB ⟨ep, kd, tc, tq, pl, rd, wt, ec, eq, cd⟩ = false from by unfold rightB; simp [he])
    have de : (ep == 0) = true := beq_iff_eq.2 he
    clear he
    skip
    obtain ⟨y0, y1, y2, y3, y4, y5, y6, y7, y8, y9⟩ := hb.out _ HU0.out
    have x0 := fun o => (hb.out _ (HUo.out o)).1
    have x1 := fun o => (hb.out _ (HUo.out o)).2.1
    have x2 := fun o => (hb.out _ (HUo.out o)).2.2.1
    have x3 := fun o => (hb.out _ (HUo.out o)).2.2.2.1
    have x4 := fun o => (hb.out _ (HUo.out o)).2.2.2.2.1
    have x5 := fun o => (hb.out _ (HUo.out o)).2.2.2.2.2.1
    have x6 := fun o => (hb.out _ (HUo.out o)).2.2.2.2.2.2.1
    have x7 := fun o => (hb.out _ (HUo.out o)).2.2.2.2.2.2.2.1
    have x8 := fun o => (hb.out _ (HUo.out o)).2.2.2.2.2.2.2.2.1
    have x9 := fun o => (hb.out _ (HUo.out o)).2.2.2.2.2.2.2.2.2
    go_enter Try.func78, Try.ntmps78
    go_wp2_with fail
    go_ret
    exact ⟨by rw [hres.out]; rfl, HUa.out.trans HU0.out⟩
  · have de : (ep == 0) = false := beq_eq_false_iff_ne.2 he
    have q0 : decide (ep = 0) = false := decide_eq_false he
    by_cases hk1 : kd = 1
    · subst hk1
      have hpass : rightB ⟨ep, 1, tc, tq, pl, rd, wt, ec, eq, cd⟩ = (txnB tc tq pl rd wt && (decide (ec = 0 ∧ eq = 0) && decide (cd = 0))) := by unfold rightB; simp only [q0]; rfl
      clear he q0
      cases hT : txnB tc tq pl rd wt
      · rw [hT] at htx hpass
        have hres := Lib.hid hpass
        clear hT hpass
        skip
        obtain ⟨y0, y1, y2, y3, y4, y5, y6, y7, y8, y9⟩ := hb.out _ HU0.out
        have x0 := fun o => (hb.out _ (HUo.out o)).1
        have x1 := fun o => (hb.out _ (HUo.out o)).2.1
        have x2 := fun o => (hb.out _ (HUo.out o)).2.2.1
        have x3 := fun o => (hb.out _ (HUo.out o)).2.2.2.1
        have x4 := fun o => (hb.out _ (HUo.out o)).2.2.2.2.1
        have x5 := fun o => (hb.out _ (HUo.out o)).2.2.2.2.2.1
        have x6 := fun o => (hb.out _ (HUo.out o)).2.2.2.2.2.2.1
        have x7 := fun o => (hb.out _ (HUo.out o)).2.2.2.2.2.2.2.1
        have x8 := fun o => (hb.out _ (HUo.out o)).2.2.2.2.2.2.2.2.1
        have x9 := fun o => (hb.out _ (HUo.out o)).2.2.2.2.2.2.2.2.2
        go_enter Try.func78, Try.ntmps78
        go_wp2_with fail
        refine (htx.out _ (HUo.out _)).mono ?_
        rintro e w1 ⟨rfl, hu⟩
        have HU1 := Lib.hid ((HUo.out _).trans hu)
        obtain ⟨z0, z1⟩ := hN.out _ hu
        clear hu y0 y1 y2 y3 y4 y5 y6 y7 y8 y9 x0 x1 x2 x3 x4 x5 x6 x7 x8 x9
        obtain ⟨y0, y1, y2, y3, y4, y5, y6, y7, y8, y9⟩ := hb.out _ HU1.out
        go_wp2_with fail
        go_ret
        exact ⟨by rw [hres.out]; rfl, HUa.out.trans HU1.out⟩
      · rw [hT] at htx hpass
        clear hT
        by_cases h5 : ec = 0 ∧ eq = 0
        · obtain ⟨rfl, rfl⟩ := h5
          by_cases h6 : cd = 0
          · subst h6
            have hres := Lib.hid (show rightB ⟨ep, 1, tc, tq, pl, rd, wt, 0, 0, 0⟩ = true from by rw [hpass]; rfl)
            clear hpass
            skip
            obtain ⟨y0, y1, y2, y3, y4, y5, y6, y7, y8, y9⟩ := hb.out _ HU0.out
            have x0 := fun o => (hb.out _ (HUo.out o)).1
            have x1 := fun o => (hb.out _ (HUo.out o)).2.1
            have x2 := fun o => (hb.out _ (HUo.out o)).2.2.1
            have x3 := fun o => (hb.out _ (HUo.out o)).2.2.2.1
            have x4 := fun o => (hb.out _ (HUo.out o)).2.2.2.2.1
            have x5 := fun o => (hb.out _ (HUo.out o)).2.2.2.2.2.1
            have x6 := fun o => (hb.out _ (HUo.out o)).2.2.2.2.2.2.1
            have x7 := fun o => (hb.out _ (HUo.out o)).2.2.2.2.2.2.2.1
            have x8 := fun o => (hb.out _ (HUo.out o)).2.2.2.2.2.2.2.2.1
            have x9 := fun o => (hb.out _ (HUo.out o)).2.2.2.2.2.2.2.2.2
            go_enter Try.func78, Try.ntmps78
            go_wp2_with fail
            refine (htx.out _ (HUo.out _)).mono ?_
            rintro e w1 ⟨rfl, hu⟩
            have HU1 := Lib.hid ((HUo.out _).trans hu)
            obtain ⟨z0, z1⟩ := hN.out _ hu
            clear hu y0 y1 y2 y3 y4 y5 y6 y7 y8 y9 x0 x1 x2 x3 x4 x5 x6 x7 x8 x9
            obtain ⟨y0, y1, y2, y3, y4, y5, y6, y7, y8, y9⟩ := hb.out _ HU1.out
            go_wp2_with fail
            go_ret
            exact ⟨by rw [hres.out]; rfl, HUa.out.trans HU1.out⟩
          · have d6 : (cd == 0) = false := beq_eq_false_iff_ne.2 h6
            have hres := Lib.hid (show rightB ⟨ep, 1, tc, tq, pl, rd, wt, 0, 0, cd⟩ = false from by rw [hpass]; simp [h6])
            clear hpass h6
            skip
            obtain ⟨y0, y1, y2, y3, y4, y5, y6, y7, y8, y9⟩ := hb.out _ HU0.out
            have x0 := fun o => (hb.out _ (HUo.out o)).1
            have x1 := fun o => (hb.out _ (HUo.out o)).2.1
            have x2 := fun o => (hb.out _ (HUo.out o)).2.2.1
            have x3 := fun o => (hb.out _ (HUo.out o)).2.2.2.1
            have x4 := fun o => (hb.out _ (HUo.out o)).2.2.2.2.1
            have x5 := fun o => (hb.out _ (HUo.out o)).2.2.2.2.2.1
            have x6 := fun o => (hb.out _ (HUo.out o)).2.2.2.2.2.2.1
            have x7 := fun o => (hb.out _ (HUo.out o)).2.2.2.2.2.2.2.1
            have x8 := fun o => (hb.out _ (HUo.out o)).2.2.2.2.2.2.2.2.1
            have x9 := fun o => (hb.out _ (HUo.out o)).2.2.2.2.2.2.2.2.2
            go_enter Try.func78, Try.ntmps78
            go_wp2_with fail
            refine (htx.out _ (HUo.out _)).mono ?_
            rintro e w1 ⟨rfl, hu⟩
            have HU1 := Lib.hid ((HUo.out _).trans hu)
            obtain ⟨z0, z1⟩ := hN.out _ hu
            clear hu y0 y1 y2 y3 y4 y5 y6 y7 y8 y9 x0 x1 x2 x3 x4 x5 x6 x7 x8 x9
            obtain ⟨y0, y1, y2, y3, y4, y5, y6, y7, y8, y9⟩ := hb.out _ HU1.out
            go_wp2_with fail
            go_ret
            exact ⟨by rw [hres.out]; rfl, HUa.out.trans HU1.out⟩
        · have hres := Lib.hid (show rightB ⟨ep, 1, tc, tq, pl, rd, wt, ec, eq, cd⟩ = false from by rw [hpass, show decide (ec = 0 ∧ eq = 0) = false from decide_eq_false h5]; rfl)
          clear hpass
          by_cases h7 : ec = 0
          · have h8 : ¬ eq = 0 := fun h => h5 ⟨h7, h⟩
            have d7 : (ec == 0) = true := beq_iff_eq.2 h7
            have d8 : (eq == 0) = false := beq_eq_false_iff_ne.2 h8
            clear h5 h7 h8
            skip
            obtain ⟨y0, y1, y2, y3, y4, y5, y6, y7, y8, y9⟩ := hb.out _ HU0.out
            have x0 := fun o => (hb.out _ (HUo.out o)).1
            have x1 := fun o => (hb.out _ (HUo.out o)).2.1
            have x2 := fun o => (hb.out _ (HUo.out o)).2.2.1
            have x3 := fun o => (hb.out _ (HUo.out o)).2.2.2.1
            have x4 := fun o => (hb.out _ (HUo.out o)).2.2.2.2.1
            have x5 := fun o => (hb.out _ (HUo.out o)).2.2.2.2.2.1
            have x6 := fun o => (hb.out _ (HUo.out o)).2.2.2.2.2.2.1
            have x7 := fun o => (hb.out _ (HUo.out o)).2.2.2.2.2.2.2.1
            have x8 := fun o => (hb.out _ (HUo.out o)).2.2.2.2.2.2.2.2.1
            have x9 := fun o => (hb.out _ (HUo.out o)).2.2.2.2.2.2.2.2.2
            go_enter Try.func78, Try.ntmps78
            go_wp2_with fail
            refine (htx.out _ (HUo.out _)).mono ?_
            rintro e w1 ⟨rfl, hu⟩
            have HU1 := Lib.hid ((HUo.out _).trans hu)
            obtain ⟨z0, z1⟩ := hN.out _ hu
            clear hu y0 y1 y2 y3 y4 y5 y6 y7 y8 y9 x0 x1 x2 x3 x4 x5 x6 x7 x8 x9
            obtain ⟨y0, y1, y2, y3, y4, y5, y6, y7, y8, y9⟩ := hb.out _ HU1.out
            go_wp2_with fail
            go_ret
            exact ⟨by rw [hres.out]; rfl, HUa.out.trans HU1.out⟩
          · have d7 : (ec == 0) = false := beq_eq_false_iff_ne.2 h7
            clear h5 h7
            skip
            obtain ⟨y0, y1, y2, y3, y4, y5, y6, y7, y8, y9⟩ := hb.out _ HU0.out
            have x0 := fun o => (hb.out _ (HUo.out o)).1
            have x1 := fun o => (hb.out _ (HUo.out o)).2.1
            have x2 := fun o => (hb.out _ (HUo.out o)).2.2.1
            have x3 := fun o => (hb.out _ (HUo.out o)).2.2.2.1
            have x4 := fun o => (hb.out _ (HUo.out o)).2.2.2.2.1
            have x5 := fun o => (hb.out _ (HUo.out o)).2.2.2.2.2.1
            have x6 := fun o => (hb.out _ (HUo.out o)).2.2.2.2.2.2.1
            have x7 := fun o => (hb.out _ (HUo.out o)).2.2.2.2.2.2.2.1
            have x8 := fun o => (hb.out _ (HUo.out o)).2.2.2.2.2.2.2.2.1
            have x9 := fun o => (hb.out _ (HUo.out o)).2.2.2.2.2.2.2.2.2
            go_enter Try.func78, Try.ntmps78
            go_wp2_with fail
            refine (htx.out _ (HUo.out _)).mono ?_
            rintro e w1 ⟨rfl, hu⟩
            have HU1 := Lib.hid ((HUo.out _).trans hu)
            obtain ⟨z0, z1⟩ := hN.out _ hu
            clear hu y0 y1 y2 y3 y4 y5 y6 y7 y8 y9 x0 x1 x2 x3 x4 x5 x6 x7 x8 x9
            obtain ⟨y0, y1, y2, y3, y4, y5, y6, y7, y8, y9⟩ := hb.out _ HU1.out
            go_wp2_with fail
            go_ret
            exact ⟨by rw [hres.out]; rfl, HUa.out.trans HU1.out⟩
    · have d1 : (kd == 1) = false := beq_eq_false_iff_ne.2 hk1
      by_cases hk2 : kd = 2
      · subst hk2
        have hpass : rightB ⟨ep, 2, tc, tq, pl, rd, wt, ec, eq, cd⟩ = (noneB tc tq pl rd wt && (idB ec eq && codeB cd)) := by unfold rightB; simp only [q0]; rfl
        clear he q0 hk1 d1
        by_cases h1 : tc = 0
        · by_cases h2 : tq = 0
          · subst h1 h2
            cases pl
            · by_cases h3 : rd.length = 0
              · have dr : decide ((0 : Int) < (rd.length : Int)) = false := decide_eq_false (by omega)
                have drn : decide (0 < rd.length) = false := decide_eq_false (by omega)
                by_cases h4 : wt.length = 0
                · have dw : decide ((0 : Int) < (wt.length : Int)) = false := decide_eq_false (by omega)
                  have dwn : decide (0 < wt.length) = false := decide_eq_false (by omega)
                  rw [show noneB 0 0 false rd wt = true from by unfold noneB; rw [show decide (rd.length + wt.length = 0) = true from decide_eq_true (by omega)]; rfl, Bool.true_and] at hpass
                  clear h3 h4
                  cases hI : idB ec eq
                  · rw [hI] at hri hpass
                    have hres := Lib.hid hpass
                    clear hI hpass
                    skip
                    obtain ⟨y0, y1, y2, y3, y4, y5, y6, y7, y8, y9⟩ := hb.out _ HU0.out
                    have x0 := fun o => (hb.out _ (HUo.out o)).1
                    have x1 := fun o => (hb.out _ (HUo.out o)).2.1
                    have x2 := fun o => (hb.out _ (HUo.out o)).2.2.1
                    have x3 := fun o => (hb.out _ (HUo.out o)).2.2.2.1
                    have x4 := fun o => (hb.out _ (HUo.out o)).2.2.2.2.1
                    have x5 := fun o => (hb.out _ (HUo.out o)).2.2.2.2.2.1
                    have x6 := fun o => (hb.out _ (HUo.out o)).2.2.2.2.2.2.1
                    have x7 := fun o => (hb.out _ (HUo.out o)).2.2.2.2.2.2.2.1
                    have x8 := fun o => (hb.out _ (HUo.out o)).2.2.2.2.2.2.2.2.1
                    have x9 := fun o => (hb.out _ (HUo.out o)).2.2.2.2.2.2.2.2.2
                    go_enter Try.func78, Try.ntmps78
                    go_wp2_with fail
                    refine (hri.out _).mono ?_
                    rintro e w1 ⟨rfl, hu⟩
                    have HU1 := Lib.hid ((HUo.out _).trans hu)
                    clear hu y0 y1 y2 y3 y4 y5 y6 y7 y8 y9 x0 x1 x2 x3 x4 x5 x6 x7 x8 x9
                    obtain ⟨y0, y1, y2, y3, y4, y5, y6, y7, y8, y9⟩ := hb.out _ HU1.out
                    go_wp2_with fail
                    go_ret
                    exact ⟨by rw [hres.out]; rfl, HUa.out.trans HU1.out⟩
                  · rw [hI] at hri hpass
                    clear hI
                    have hcc := codeB_cases cd
                    rcases hcc with ⟨rfl, hc⟩ | ⟨rfl, hc⟩ | ⟨rfl, hc⟩ | ⟨⟨n1, n2, n3⟩, hc⟩
                    all_goals
                      rw [hc] at hpass
                      have hres := Lib.hid hpass
                      clear hc hpass
                    · skip
                      skip
                      obtain ⟨y0, y1, y2, y3, y4, y5, y6, y7, y8, y9⟩ := hb.out _ HU0.out
                      have x0 := fun o => (hb.out _ (HUo.out o)).1
                      have x1 := fun o => (hb.out _ (HUo.out o)).2.1
                      have x2 := fun o => (hb.out _ (HUo.out o)).2.2.1
                      have x3 := fun o => (hb.out _ (HUo.out o)).2.2.2.1
                      have x4 := fun o => (hb.out _ (HUo.out o)).2.2.2.2.1
                      have x5 := fun o => (hb.out _ (HUo.out o)).2.2.2.2.2.1
                      have x6 := fun o => (hb.out _ (HUo.out o)).2.2.2.2.2.2.1
                      have x7 := fun o => (hb.out _ (HUo.out o)).2.2.2.2.2.2.2.1
                      have x8 := fun o => (hb.out _ (HUo.out o)).2.2.2.2.2.2.2.2.1
                      have x9 := fun o => (hb.out _ (HUo.out o)).2.2.2.2.2.2.2.2.2
                      go_enter Try.func78, Try.ntmps78
                      go_wp2_with fail
                      refine (hri.out _).mono ?_
                      rintro e w1 ⟨rfl, hu⟩
                      have HU1 := Lib.hid ((HUo.out _).trans hu)
                      clear hu y0 y1 y2 y3 y4 y5 y6 y7 y8 y9 x0 x1 x2 x3 x4 x5 x6 x7 x8 x9
                      obtain ⟨y0, y1, y2, y3, y4, y5, y6, y7, y8, y9⟩ := hb.out _ HU1.out
                      go_wp2_with fail
                      go_ret
                      exact ⟨by rw [hres.out]; rfl, HUa.out.trans HU1.out⟩
                    · skip
                      skip
                      obtain ⟨y0, y1, y2, y3, y4, y5, y6, y7, y8, y9⟩ := hb.out _ HU0.out
                      have x0 := fun o => (hb.out _ (HUo.out o)).1
                      have x1 := fun o => (hb.out _ (HUo.out o)).2.1
                      have x2 := fun o => (hb.out _ (HUo.out o)).2.2.1
                      have x3 := fun o => (hb.out _ (HUo.out o)).2.2.2.1
                      have x4 := fun o => (hb.out _ (HUo.out o)).2.2.2.2.1
                      have x5 := fun o => (hb.out _ (HUo.out o)).2.2.2.2.2.1
                      have x6 := fun o => (hb.out _ (HUo.out o)).2.2.2.2.2.2.1
                      have x7 := fun o => (hb.out _ (HUo.out o)).2.2.2.2.2.2.2.1
                      have x8 := fun o => (hb.out _ (HUo.out o)).2.2.2.2.2.2.2.2.1
                      have x9 := fun o => (hb.out _ (HUo.out o)).2.2.2.2.2.2.2.2.2
                      go_enter Try.func78, Try.ntmps78
                      go_wp2_with fail
                      refine (hri.out _).mono ?_
                      rintro e w1 ⟨rfl, hu⟩
                      have HU1 := Lib.hid ((HUo.out _).trans hu)
                      clear hu y0 y1 y2 y3 y4 y5 y6 y7 y8 y9 x0 x1 x2 x3 x4 x5 x6 x7 x8 x9
                      obtain ⟨y0, y1, y2, y3, y4, y5, y6, y7, y8, y9⟩ := hb.out _ HU1.out
                      go_wp2_with fail
                      go_ret
                      exact ⟨by rw [hres.out]; rfl, HUa.out.trans HU1.out⟩
                    · skip
                      skip
                      obtain ⟨y0, y1, y2, y3, y4, y5, y6, y7, y8, y9⟩ := hb.out _ HU0.out
                      have x0 := fun o => (hb.out _ (HUo.out o)).1
                      have x1 := fun o => (hb.out _ (HUo.out o)).2.1
                      have x2 := fun o => (hb.out _ (HUo.out o)).2.2.1
                      have x3 := fun o => (hb.out _ (HUo.out o)).2.2.2.1
                      have x4 := fun o => (hb.out _ (HUo.out o)).2.2.2.2.1
                      have x5 := fun o => (hb.out _ (HUo.out o)).2.2.2.2.2.1
                      have x6 := fun o => (hb.out _ (HUo.out o)).2.2.2.2.2.2.1
                      have x7 := fun o => (hb.out _ (HUo.out o)).2.2.2.2.2.2.2.1
                      have x8 := fun o => (hb.out _ (HUo.out o)).2.2.2.2.2.2.2.2.1
                      have x9 := fun o => (hb.out _ (HUo.out o)).2.2.2.2.2.2.2.2.2
                      go_enter Try.func78, Try.ntmps78
                      go_wp2_with fail
                      refine (hri.out _).mono ?_
                      rintro e w1 ⟨rfl, hu⟩
                      have HU1 := Lib.hid ((HUo.out _).trans hu)
                      clear hu y0 y1 y2 y3 y4 y5 y6 y7 y8 y9 x0 x1 x2 x3 x4 x5 x6 x7 x8 x9
                      obtain ⟨y0, y1, y2, y3, y4, y5, y6, y7, y8, y9⟩ := hb.out _ HU1.out
                      go_wp2_with fail
                      go_ret
                      exact ⟨by rw [hres.out]; rfl, HUa.out.trans HU1.out⟩
                    · skip
                      skip
                      obtain ⟨y0, y1, y2, y3, y4, y5, y6, y7, y8, y9⟩ := hb.out _ HU0.out
                      have x0 := fun o => (hb.out _ (HUo.out o)).1
                      have x1 := fun o => (hb.out _ (HUo.out o)).2.1
                      have x2 := fun o => (hb.out _ (HUo.out o)).2.2.1
                      have x3 := fun o => (hb.out _ (HUo.out o)).2.2.2.1
                      have x4 := fun o => (hb.out _ (HUo.out o)).2.2.2.2.1
                      have x5 := fun o => (hb.out _ (HUo.out o)).2.2.2.2.2.1
                      have x6 := fun o => (hb.out _ (HUo.out o)).2.2.2.2.2.2.1
                      have x7 := fun o => (hb.out _ (HUo.out o)).2.2.2.2.2.2.2.1
                      have x8 := fun o => (hb.out _ (HUo.out o)).2.2.2.2.2.2.2.2.1
                      have x9 := fun o => (hb.out _ (HUo.out o)).2.2.2.2.2.2.2.2.2
                      go_enter Try.func78, Try.ntmps78
                      go_wp2_with fail
                      refine (hri.out _).mono ?_
                      rintro e w1 ⟨rfl, hu⟩
                      have HU1 := Lib.hid ((HUo.out _).trans hu)
                      clear hu y0 y1 y2 y3 y4 y5 y6 y7 y8 y9 x0 x1 x2 x3 x4 x5 x6 x7 x8 x9
                      obtain ⟨y0, y1, y2, y3, y4, y5, y6, y7, y8, y9⟩ := hb.out _ HU1.out
                      go_wp2_with fail
                      go_ret
                      exact ⟨by rw [hres.out]; rfl, HUa.out.trans HU1.out⟩
                · have dw : decide ((0 : Int) < (wt.length : Int)) = true := decide_eq_true (by omega)
                  have dwn : decide (0 < wt.length) = true := decide_eq_true (by omega)
                  have hres := Lib.hid (show rightB ⟨ep, 2, 0, 0, false, rd, wt, ec, eq, cd⟩ = false from by rw [hpass]; unfold noneB; rw [show decide (rd.length + wt.length = 0) = false from decide_eq_false (by omega)]; rfl)
                  clear hpass h3 h4
                  skip
                  obtain ⟨y0, y1, y2, y3, y4, y5, y6, y7, y8, y9⟩ := hb.out _ HU0.out
                  have x0 := fun o => (hb.out _ (HUo.out o)).1
                  have x1 := fun o => (hb.out _ (HUo.out o)).2.1
                  have x2 := fun o => (hb.out _ (HUo.out o)).2.2.1
                  have x3 := fun o => (hb.out _ (HUo.out o)).2.2.2.1
                  have x4 := fun o => (hb.out _ (HUo.out o)).2.2.2.2.1
                  have x5 := fun o => (hb.out _ (HUo.out o)).2.2.2.2.2.1
                  have x6 := fun o => (hb.out _ (HUo.out o)).2.2.2.2.2.2.1
                  have x7 := fun o => (hb.out _ (HUo.out o)).2.2.2.2.2.2.2.1
                  have x8 := fun o => (hb.out _ (HUo.out o)).2.2.2.2.2.2.2.2.1
                  have x9 := fun o => (hb.out _ (HUo.out o)).2.2.2.2.2.2.2.2.2
                  go_enter Try.func78, Try.ntmps78
                  go_wp2_with fail
                  go_ret
                  exact ⟨by rw [hres.out]; rfl, HUa.out.trans (HUo.out _)⟩
              · have dr : decide ((0 : Int) < (rd.length : Int)) = true := decide_eq_true (by omega)
                have drn : decide (0 < rd.length) = true := decide_eq_true (by omega)
                have hres := Lib.hid (show rightB ⟨ep, 2, 0, 0, false, rd, wt, ec, eq, cd⟩ = false from by rw [hpass]; unfold noneB; rw [show decide (rd.length + wt.length = 0) = false from decide_eq_false (by omega)]; rfl)
                clear hpass h3
                skip
                obtain ⟨y0, y1, y2, y3, y4, y5, y6, y7, y8, y9⟩ := hb.out _ HU0.out
                have x0 := fun o => (hb.out _ (HUo.out o)).1
                have x1 := fun o => (hb.out _ (HUo.out o)).2.1
                have x2 := fun o => (hb.out _ (HUo.out o)).2.2.1
                have x3 := fun o => (hb.out _ (HUo.out o)).2.2.2.1
                have x4 := fun o => (hb.out _ (HUo.out o)).2.2.2.2.1
                have x5 := fun o => (hb.out _ (HUo.out o)).2.2.2.2.2.1
                have x6 := fun o => (hb.out _ (HUo.out o)).2.2.2.2.2.2.1
                have x7 := fun o => (hb.out _ (HUo.out o)).2.2.2.2.2.2.2.1
                have x8 := fun o => (hb.out _ (HUo.out o)).2.2.2.2.2.2.2.2.1
                have x9 := fun o => (hb.out _ (HUo.out o)).2.2.2.2.2.2.2.2.2
                go_enter Try.func78, Try.ntmps78
                go_wp2_with fail
                go_ret
                exact ⟨by rw [hres.out]; rfl, HUa.out.trans (HUo.out _)⟩
            · have hres := Lib.hid (show rightB ⟨ep, 2, 0, 0, true, rd, wt, ec, eq, cd⟩ = false from by rw [hpass]; rfl)
              clear hpass
              skip
              obtain ⟨y0, y1, y2, y3, y4, y5, y6, y7, y8, y9⟩ := hb.out _ HU0.out
              have x0 := fun o => (hb.out _ (HUo.out o)).1
              have x1 := fun o => (hb.out _ (HUo.out o)).2.1
              have x2 := fun o => (hb.out _ (HUo.out o)).2.2.1
              have x3 := fun o => (hb.out _ (HUo.out o)).2.2.2.1
              have x4 := fun o => (hb.out _ (HUo.out o)).2.2.2.2.1
              have x5 := fun o => (hb.out _ (HUo.out o)).2.2.2.2.2.1
              have x6 := fun o => (hb.out _ (HUo.out o)).2.2.2.2.2.2.1
              have x7 := fun o => (hb.out _ (HUo.out o)).2.2.2.2.2.2.2.1
              have x8 := fun o => (hb.out _ (HUo.out o)).2.2.2.2.2.2.2.2.1
              have x9 := fun o => (hb.out _ (HUo.out o)).2.2.2.2.2.2.2.2.2
              go_enter Try.func78, Try.ntmps78
              go_wp2_with fail
              go_ret
              exact ⟨by rw [hres.out]; rfl, HUa.out.trans (HUo.out _)⟩
          · have hres := Lib.hid (show rightB ⟨ep, 2, tc, tq, pl, rd, wt, ec, eq, cd⟩ = false from by rw [hpass]; unfold noneB; rw [show decide (tc = 0 ∧ tq = 0) = false from decide_eq_false (fun h => h2 h.2)]; rfl)
            have d3 : (tc == 0) = true := beq_iff_eq.2 h1
            have d4 : (tq == 0) = false := beq_eq_false_iff_ne.2 h2
            clear hpass h1 h2
            skip
            obtain ⟨y0, y1, y2, y3, y4, y5, y6, y7, y8, y9⟩ := hb.out _ HU0.out
            have x0 := fun o => (hb.out _ (HUo.out o)).1
            have x1 := fun o => (hb.out _ (HUo.out o)).2.1
            have x2 := fun o => (hb.out _ (HUo.out o)).2.2.1
            have x3 := fun o => (hb.out _ (HUo.out o)).2.2.2.1
            have x4 := fun o => (hb.out _ (HUo.out o)).2.2.2.2.1
            have x5 := fun o => (hb.out _ (HUo.out o)).2.2.2.2.2.1
            have x6 := fun o => (hb.out _ (HUo.out o)).2.2.2.2.2.2.1
            have x7 := fun o => (hb.out _ (HUo.out o)).2.2.2.2.2.2.2.1
            have x8 := fun o => (hb.out _ (HUo.out o)).2.2.2.2.2.2.2.2.1
            have x9 := fun o => (hb.out _ (HUo.out o)).2.2.2.2.2.2.2.2.2
            go_enter Try.func78, Try.ntmps78
            go_wp2_with fail
            go_ret
            exact ⟨by rw [hres.out]; rfl, HUa.out.trans (HUo.out _)⟩
        · have hres := Lib.hid (show rightB ⟨ep, 2, tc, tq, pl, rd, wt, ec, eq, cd⟩ = false from by rw [hpass]; unfold noneB; rw [show decide (tc = 0 ∧ tq = 0) = false from decide_eq_false (fun h => h1 h.1)]; rfl)
          have d3 : (tc == 0) = false := beq_eq_false_iff_ne.2 h1
          clear hpass h1
          skip
          obtain ⟨y0, y1, y2, y3, y4, y5, y6, y7, y8, y9⟩ := hb.out _ HU0.out
          have x0 := fun o => (hb.out _ (HUo.out o)).1
          have x1 := fun o => (hb.out _ (HUo.out o)).2.1
          have x2 := fun o => (hb.out _ (HUo.out o)).2.2.1
          have x3 := fun o => (hb.out _ (HUo.out o)).2.2.2.1
          have x4 := fun o => (hb.out _ (HUo.out o)).2.2.2.2.1
          have x5 := fun o => (hb.out _ (HUo.out o)).2.2.2.2.2.1
          have x6 := fun o => (hb.out _ (HUo.out o)).2.2.2.2.2.2.1
          have x7 := fun o => (hb.out _ (HUo.out o)).2.2.2.2.2.2.2.1
          have x8 := fun o => (hb.out _ (HUo.out o)).2.2.2.2.2.2.2.2.1
          have x9 := fun o => (hb.out _ (HUo.out o)).2.2.2.2.2.2.2.2.2
          go_enter Try.func78, Try.ntmps78
          go_wp2_with fail
          go_ret
          exact ⟨by rw [hres.out]; rfl, HUa.out.trans (HUo.out _)⟩
      · have d2 : (kd == 2) = false := beq_eq_false_iff_ne.2 hk2
        have d2' : (kd != 2) = true := bne_iff_ne.2 hk2
        have hres := Lib.hid (show rightB ⟨ep, kd, tc, tq, pl, rd, wt, ec, eq, cd⟩ = false from by unfold rightB; rw [if_neg hk1, if_neg hk2]; simp)
        clear hk1 hk2 he q0
        skip
        obtain ⟨y0, y1, y2, y3, y4, y5, y6, y7, y8, y9⟩ := hb.out _ HU0.out
        have x0 := fun o => (hb.out _ (HUo.out o)).1
        have x1 := fun o => (hb.out _ (HUo.out o)).2.1
        have x2 := fun o => (hb.out _ (HUo.out o)).2.2.1
        have x3 := fun o => (hb.out _ (HUo.out o)).2.2.2.1
        have x4 := fun o => (hb.out _ (HUo.out o)).2.2.2.2.1
        have x5 := fun o => (hb.out _ (HUo.out o)).2.2.2.2.2.1
        have x6 := fun o => (hb.out _ (HUo.out o)).2.2.2.2.2.2.1
        have x7 := fun o => (hb.out _ (HUo.out o)).2.2.2.2.2.2.2.1
        have x8 := fun o => (hb.out _ (HUo.out o)).2.2.2.2.2.2.2.2.1
        have x9 := fun o => (hb.out _ (HUo.out o)).2.2.2.2.2.2.2.2.2
        go_enter Try.func78, Try.ntmps78
        go_wp2_with fail
        go_ret
        exact ⟨by rw [hres.out]; rfl, HUa.out.trans (HUo.out _)⟩
end Go.Proofs.Ytobfolkcpfaplaa
