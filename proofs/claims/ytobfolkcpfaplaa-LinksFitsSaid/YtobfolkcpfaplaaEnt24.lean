/- Whether a piece fits, and how many of it are there already, is as the chapter says (LinksFits): the law's walk. -/
import Derived.Test.YtobfolkcpfaplaaEnt23
import Derived.Test.YtobfolkcpfaplaaLink10
namespace Go.Proofs.Ytobfolkcpfaplaa
open Go.RowKit Kit
set_option linter.unusedVariables false
def finE (x : Fin) : Ent := ⟨x.ep, 2, 0, 0, false, [], [], 0, x.sq, 0⟩
theorem rows_finE {w : World} {S : Nat → Prop} : ∀ {l : List Fin} {cs : List Value}, Kit.Rows Rep.fin w S l cs → Kit.Rows Rep.ent w S (l.map finE) cs
  | [], _, h => h
  | x :: xs, _, ⟨c, rest, e, hc, hr⟩ => ⟨c, rest, e, ⟨.slice none 0 0, .slice none 0 0, hc, RSl.nil _ _, RSl.nil _ _⟩, rows_finE hr⟩
theorem rsl_finE {w : World} {S : Nat → Prop} {v : Value} {l : List Fin} (h : RSl Rep.fin w S v l) : RSl Rep.ent w S v (l.map finE) := by
  obtain ⟨A, c, cs, rfl, h1, h2, h3, h4, h5⟩ := h
  exact ⟨A, c, cs, by rw [List.length_map], by rw [List.length_map]; exact h1, h2, rows_finE h3, h4, h5⟩
/-- Two rows of such entries that grow side by side. -/
structure PQ (wz wr : World) (vp vq : Value) (L : List Fin) : Prop where
  op : OSl Rep.fin 65 wr (fun b => vp.ownBlock = some b) vp L
  oq : OSl Rep.fin 72 wr (fun b => vq.ownBlock = some b) vq L
  ne : ∀ b, vp.ownBlock = some b → vq.ownBlock ≠ some b
  gp : ∀ b, vp.ownBlock = some b → wz.heap.size ≤ b ∧ b < wr.heap.size
  gq : ∀ b, vq.ownBlock = some b → wz.heap.size ≤ b ∧ b < wr.heap.size
  upd : Upd NoB wz wr
theorem PQ.start (w : World) : PQ w w (.slice none 0 0) (.slice none 0 0) [] :=
  ⟨OSl.nil _ _ _, OSl.nil _ _ _, fun _ h => (by cases h), fun _ h => (by cases h), fun _ h => (by cases h), Upd.refl _ _⟩
theorem PQ.keep {wz wr x : World} {vp vq : Value} {L : List Fin} (h : PQ wz wr vp vq L) (u : Upd NoB wr x) : PQ wz x vp vq L :=
  ⟨h.op.upd u (fun _ _ h => h), h.oq.upd u (fun _ _ h => h), h.ne, fun b hb => ⟨(h.gp b hb).1, Nat.lt_of_lt_of_le (h.gp b hb).2 u.size⟩, fun b hb => ⟨(h.gq b hb).1, Nat.lt_of_lt_of_le (h.gq b hb).2 u.size⟩, h.upd.trans u⟩
/-- One row has grown, the other one not yet. -/
structure PQ1 (wz wr : World) (vp vq : Value) (L : List Fin) (x : Fin) : Prop where
  op : OSl Rep.fin 65 wr (fun b => vp.ownBlock = some b) vp (L ++ [x])
  oq : OSl Rep.fin 72 wr (fun b => vq.ownBlock = some b) vq L
  ne : ∀ b, vp.ownBlock = some b → vq.ownBlock ≠ some b
  gp : ∀ b, vp.ownBlock = some b → wz.heap.size ≤ b ∧ b < wr.heap.size
  gq : ∀ b, vq.ownBlock = some b → wz.heap.size ≤ b ∧ b < wr.heap.size
  upd : Upd NoB wz wr
theorem PQ1.keep {wz wr x : World} {vp vq : Value} {L : List Fin} {f : Fin} (h : PQ1 wz wr vp vq L f) (u : Upd NoB wr x) : PQ1 wz x vp vq L f :=
  ⟨h.op.upd u (fun _ _ h => h), h.oq.upd u (fun _ _ h => h), h.ne, fun b hb => ⟨(h.gp b hb).1, Nat.lt_of_lt_of_le (h.gp b hb).2 u.size⟩, fun b hb => ⟨(h.gq b hb).1, Nat.lt_of_lt_of_le (h.gq b hb).2 u.size⟩, h.upd.trans u⟩
theorem own_of {e : TypeId} {w : World} {S : Nat → Prop} {v : Value} {l : List Fin} (h : OSl Rep.fin e w S v l) (b : Nat) (hb : v.ownBlock = some b) : S b := by
  obtain ⟨_, _, hset, _⟩ := h
  exact hset b hb
theorem PQ.app1 {wz W w1 : World} {vp vq v1 : Value} {L : List Fin} {f : Fin} (h : PQ wz W vp vq L) (ho : OSl Rep.fin 65 w1 (grow (fun b => vp.ownBlock = some b) W w1) v1 (L ++ [f])) (hu : Upd (fun b => vp.ownBlock = some b) W w1) : PQ1 wz w1 v1 vq L f := by
  have hv := fun b hb => own_of ho b hb
  refine ⟨OSl.self2 flat_fin ho, h.oq.upd hu (fun b hb f => h.ne b f hb), fun b hb => ?_, fun b hb => ?_, fun b hb => ⟨(h.gq b hb).1, Nat.lt_of_lt_of_le (h.gq b hb).2 hu.size⟩, h.upd.then hu (fun i hi e => by have := (h.gp i e).1; omega)⟩
  · rcases (hv b hb).1 with h1 | h1
    · exact h.ne b h1
    · intro e; have := (h.gq b e).2; omega
  · rcases (hv b hb).1 with h1 | h1
    · exact ⟨(h.gp b h1).1, (hv b hb).2⟩
    · exact ⟨Nat.le_trans h.upd.size h1, (hv b hb).2⟩
theorem PQ1.app2 {wz W w1 : World} {vp vq v1 : Value} {L : List Fin} {f : Fin} (h : PQ1 wz W vp vq L f) (ho : OSl Rep.fin 72 w1 (grow (fun b => vq.ownBlock = some b) W w1) v1 (L ++ [f])) (hu : Upd (fun b => vq.ownBlock = some b) W w1) : PQ wz w1 vp v1 (L ++ [f]) := by
  have hv := fun b hb => own_of ho b hb
  refine ⟨h.op.upd hu (fun b hb f => h.ne b hb f), OSl.self2 flat_fin ho, fun b hb e => ?_, fun b hb => ⟨(h.gp b hb).1, Nat.lt_of_lt_of_le (h.gp b hb).2 hu.size⟩, fun b hb => ?_, h.upd.then hu (fun i hi e => by have := (h.gq i e).1; omega)⟩
  · rcases (hv b e).1 with h1 | h1
    · exact h.ne b hb h1
    · have := (h.gp b hb).2; omega
  · rcases (hv b hb).1 with h1 | h1
    · exact ⟨(h.gq b h1).1, (hv b hb).2⟩
    · exact ⟨Nat.le_trans h.upd.size h1, (hv b hb).2⟩
theorem PQ.bdp {wz wr : World} {vp vq : Value} {L : List Fin} (h : PQ wz wr vp vq L) : Bd (fun b => vp.ownBlock = some b) wr := fun b hb => (h.gp b hb).2
theorem PQ1.bdq {wz wr : World} {vp vq : Value} {L : List Fin} {f : Fin} (h : PQ1 wz wr vp vq L f) : Bd (fun b => vq.ownBlock = some b) wr := fun b hb => (h.gq b hb).2
set_option maxHeartbeats 16000000 in
set_option maxRecDepth 100000 in
theorem linksFits_walk (v v2 : Value) (ops : List Eop) (prev ep : Int) (es : List Int) (w : World) (h : RSl Rep.eop w (Old w) v ops) (h2 : RSl (Rep.int .u64) w (Old w) v2 es) :
    Calls Try.prog 7 #[v, .int .i64 prev, .int .u64 ep, v2] w fun e w' => e = .returned (.bool true) ∧ Upd NoB w w' := by
  have HO := Lib.hid h
  have HX := Lib.hid h2
  obtain ⟨A, c, _, rfl, d1, d2, _⟩ := h
  obtain ⟨B, d, _, rfl, d3, d4, _⟩ := h2
  have d4' : d ≤ 9223372036854775807 := d4
  go_enter Try.func7, Try.ntmps7
  go_wp2_with fail
  refine (newlog_any _).mono ?_
  rintro e w1 ⟨p, rfl, hp, hu1, hl1⟩
  have HL := Lib.hid (Lg.new (w := w) hl1)
  have HU1 := Lib.hid hu1
  have hpl := Lib.hid hp
  have hplay := Lib.hid (play_any p (.slice A ops.length c) ops 20 w1 (by omega) HL.out (HO.out.upd hu1 (fun _ _ h => h)) (fun e => by have e' : p < w.heap.size := e; omega))
  clear hl1 hu1 hp
  go_wp2_with fail
  refine hplay.out.mono ?_
  rintro e w2 ⟨vw, l, S, F, rfl, hP, hl30⟩
  obtain ⟨Aw, cw, _, rfl, _⟩ := id hP.rf
  have HP2 := Lib.hid hP
  have HU2 := Lib.hid (HU1.out.then hP.upd (fun j hj e => by have e' : j = p := e; have := hpl.out; omega))
  have hl9 := Lib.hid hl30
  have HQ0 := Lib.hid (PQ.start w2)
  clear hP
  go_wp2_with fail
  go_loopw [12, 13, 26] (fun x12 x13 x26 wr => ∃ k : Nat, k ≤ es.length ∧ x26 = .int .i64 k ∧ Hid (PQ w2 wr x12 x13 ((es.take 10).take k |>.map fun t => ⟨t, 1⟩))) (fun _ _ x26 _ => es.length - (intOf x26).toNat)
  case atStart => exact ⟨0, by omega, rfl, Lib.hid (by simpa using HQ0.out)⟩
  case round =>
    clear HQ0
    obtain ⟨k, hk, rfl, hQ⟩ := hrel
    obtain ⟨A1, c1, _, q1, _⟩ := hQ.out.op.read
    obtain ⟨A2, c2, _, q2, _⟩ := hQ.out.oq.read
    by_cases hlt : k < es.length
    · obtain ⟨g, o, u, rfl, hrep, hcell, _⟩ := HX.out.cell1 rfl k hlt
      have hr1 := hrep.1
      cases hr1
      have c0 : wr.cell? ⟨g, o + k, none⟩ = some (.int .u64 es[k]) := (HU2.out.trans hQ.out.upd).cell hcell (fun h => h)
      have hq1 := Lib.hid (show k < 10 → ((es.take 10).take (k + 1) |>.map fun t => (⟨t, 1⟩ : Fin)) = ((es.take 10).take k |>.map fun t => ⟨t, 1⟩) ++ [⟨es[k], 1⟩] from fun h => by
        rw [List.take_succ_eq_append_getElem (by rw [List.length_take]; omega), List.getElem_take, List.map_append]; rfl)
      have hq2 := Lib.hid (show ¬ k < 10 → (es.take 10).take (k + 1) = (es.take 10).take k from fun h => by
        rw [List.take_take, List.take_take, show min (k + 1) 10 = min k 10 by omega])
      have hall : (((es.take 10).take k |>.map fun t => (⟨t, 1⟩ : Fin)).length + 1) * 112 ≤ 140737488355328 := by rw [List.length_map, List.length_take, List.length_take]; omega
      generalize es[k] = x at *
      by_cases h10 : k < 10
      · have hd10 : decide ((k : Int) < 10) = true := decide_eq_true (by omega)
        have hI10 : (k : Int) < 10 := by omega
        replace hq1 := Lib.hid (hq1.out h10)
        generalize ((es.take 10).take k |>.map fun t => (⟨t, 1⟩ : Fin)) = L at *
        have hone := Lib.hid (one_any x)
        have hpla := Lib.hid (plain_any x 1)
        unfold finV at hone hpla
        clear q1 q2 h10 hq2 hrep hcell
        go_wp2_with fail
        refine (hone.out _).mono ?_
        rintro e w3 ⟨rfl, hu3⟩
        have hQ3 := Lib.hid (hQ.out.keep hu3)
        have HO3 := Lib.hid hQ3.out.op
        have HB3 := Lib.hid hQ3.out.bdp
        have hy := Lib.hid (show Rep.fin.rep w3 NoB ⟨x, 1⟩ (#[.int .u64 x, .int .i64 2, .int .i64 0, .int .u64 0, .bool false, .slice none 0 0, .slice none 0 0, .int .i64 0, .int .u64 1, .int .i64 0] : Array Value).toList from rfl)
        clear hu3
        go_wp2_with (at_builtin; go_must (refine app_one (r := Rep.fin) (v := u12) (y := ⟨x, 1⟩) rfl _ _ 59 65 (.agg #[.int .u64 0, .int .i64 0, .int .i64 0, .int .u64 0, .bool false, .slice none 0 0, .slice none 0 0, .int .i64 0, .int .u64 0, .int .i64 0]) 112 rfl Try.underlying59 iFin rfl (by decide) rfl rfl HO3.out HB3.out hy.out (fun b hb => hb.elim) hall ?_))
        intro v1 w4 ho4 hu4
        have hQ4 := Lib.hid (hQ3.out.app1 ho4 hu4)
        clear ho4 hu4
        go_wp2_with fail
        refine (hone.out _).mono ?_
        rintro e w5 ⟨rfl, hu5⟩
        have hQ5 := Lib.hid (hQ4.out.keep hu5)
        clear hu5
        go_wp2_with fail
        refine (hpla.out _).mono ?_
        rintro e w6 ⟨rfl, hu6⟩
        have hQ6 := Lib.hid (hQ5.out.keep hu6)
        have HO6 := Lib.hid hQ6.out.oq
        have HB6 := Lib.hid hQ6.out.bdq
        have hy6 := Lib.hid (show Rep.fin.rep w6 NoB ⟨x, 1⟩ (#[.int .u64 x, .int .i64 2, .int .i64 0, .int .u64 0, .bool false, .slice none 0 0, .slice none 0 0, .int .i64 0, .int .u64 1, .int .i64 0] : Array Value).toList from rfl)
        clear hu6
        go_wp2_with (at_builtin; go_must (refine app_one (r := Rep.fin) (v := u13) (y := ⟨x, 1⟩) rfl _ _ 56 72 (.agg #[.int .u64 0, .int .i64 0, .int .i64 0, .int .u64 0, .bool false, .slice none 0 0, .slice none 0 0, .int .i64 0, .int .u64 0, .int .i64 0]) 112 rfl Try.underlying56 iFin2 rfl (by decide) rfl rfl HO6.out HB6.out hy6.out (fun b hb => hb.elim) hall ?_))
        intro v7 w7 ho7 hu7
        have hQ7 := Lib.hid (hQ6.out.app2 ho7 hu7)
        clear ho7 hu7
        go_wp2_with fail
        go_roundw
        case measure => simp [intOf]; omega
        case rel => exact ⟨k + 1, by omega, by go_num, Lib.hid (by rw [hq1.out]; exact hQ7.out)⟩
      · have hd10 : decide ((k : Int) < 10) = false := decide_eq_false (by omega)
        have hI10 : ¬ (k : Int) < 10 := by omega
        clear q1 q2
        go_wp2_with fail
        go_roundw
        case measure => simp [intOf]; omega
        case rel => exact ⟨k + 1, by omega, by go_num, Lib.hid (by rw [hq2.out h10]; exact hQ.out)⟩
    · obtain rfl : k = es.length := by omega
      have HPz := Lib.hid (HP2.out.keep hQ.out.upd)
      have HUz := Lib.hid (HU2.out.trans hQ.out.upd)
      have hlf0 : (((es.take 10).take es.length).map fun t => (⟨t, 1⟩ : Fin)).length ≤ 100000 := by rw [List.length_map, List.length_take, List.length_take]; omega
      generalize (((es.take 10).take es.length).map fun t => (⟨t, 1⟩ : Fin)) = LF at *
      have hlf := Lib.hid hlf0
      subst q1 q2
      clear hlt hlf0
      by_cases h1 : 0 ≤ prev
      · have e1 : decide (0 ≤ prev) = true := decide_eq_true h1
        obtain ⟨a, rfl⟩ : ∃ a : Nat, prev = a := Int.eq_ofNat_of_zero_le h1
        by_cases h2 : a ≤ l.length
        · have e2 : decide (a ≤ l.length) = true := decide_eq_true h2
          have e2' : decide ((a : Int) ≤ (l.length : Int)) = true := decide_eq_true (by omega)
          cases hE : (epE l a == ep)
          · have hfit := Lib.hid (show fitE l a ep = false from by unfold fitE; rw [e1, e2', hE]; rfl)
            clear h1 h2
            go_wp2_with fail
            refine (refepoch_any _ l a _ HPz.out.rf (by have := hl9.out; omega)).mono ?_
            rintro e w10 ⟨rfl, hu10⟩
            have HP10 := Lib.hid (HPz.out.keep hu10)
            have HU10 := Lib.hid (HUz.out.trans hu10)
            have HQ10 := Lib.hid (hQ.out.keep hu10)
            clear hu10
            go_wp2_with fail
            refine (efits_any p l a ep _ HP10.out.lg.read (by have := hl9.out; omega)).mono ?_
            rintro e w11 ⟨rfl, hu11⟩
            have HP11 := Lib.hid (HP10.out.keep hu11)
            have HU11 := Lib.hid (HU10.out.trans hu11)
            have HQ11 := Lib.hid (HQ10.out.keep hu11)
            clear hu11
            rw [hfit.out]
            go_wp2_with fail
            refine (esame2_any p l (LF.map finE) _ a _ HP11.out.lg.read (rsl_finE HQ11.out.op.read) (by have := hl9.out; omega) (by rw [List.length_map]; exact hlf.out)).mono ?_
            rintro e w12 ⟨rfl, hu12⟩
            have HP12 := Lib.hid (HP11.out.keep hu12)
            have HU12 := Lib.hid (HU11.out.trans hu12)
            have HQ12 := Lib.hid (HQ11.out.keep hu12)
            clear hu12
            go_wp2_with fail
            refine (refsame_any _ _ l (LF.map finE) a _ HP12.out.rf (rsl_finE HQ12.out.oq.read) (by have := hl9.out; omega) (by rw [List.length_map]; exact hlf.out)).mono ?_
            rintro e w13 ⟨rfl, hu13⟩
            have HU13 := Lib.hid (HU12.out.trans hu13)
            clear hu13
            generalize sameE l a (LF.map finE) = N at *
            go_wp2_with fail
            refine (linksAwake_any _).mono ?_
            rintro e w99 ⟨rfl, hu⟩
            have HU99 := Lib.hid (HU13.out.trans hu)
            clear hu
            go_wp2_with fail
            go_ret
            exact ⟨rfl, HU99.out⟩
          · have hfit := Lib.hid (show fitE l a ep = true from by unfold fitE; rw [e1, e2', hE]; rfl)
            clear h1 h2
            go_wp2_with fail
            refine (refepoch_any _ l a _ HPz.out.rf (by have := hl9.out; omega)).mono ?_
            rintro e w10 ⟨rfl, hu10⟩
            have HP10 := Lib.hid (HPz.out.keep hu10)
            have HU10 := Lib.hid (HUz.out.trans hu10)
            have HQ10 := Lib.hid (hQ.out.keep hu10)
            clear hu10
            go_wp2_with fail
            refine (efits_any p l a ep _ HP10.out.lg.read (by have := hl9.out; omega)).mono ?_
            rintro e w11 ⟨rfl, hu11⟩
            have HP11 := Lib.hid (HP10.out.keep hu11)
            have HU11 := Lib.hid (HU10.out.trans hu11)
            have HQ11 := Lib.hid (HQ10.out.keep hu11)
            clear hu11
            rw [hfit.out]
            go_wp2_with fail
            refine (esame2_any p l (LF.map finE) _ a _ HP11.out.lg.read (rsl_finE HQ11.out.op.read) (by have := hl9.out; omega) (by rw [List.length_map]; exact hlf.out)).mono ?_
            rintro e w12 ⟨rfl, hu12⟩
            have HP12 := Lib.hid (HP11.out.keep hu12)
            have HU12 := Lib.hid (HU11.out.trans hu12)
            have HQ12 := Lib.hid (HQ11.out.keep hu12)
            clear hu12
            go_wp2_with fail
            refine (refsame_any _ _ l (LF.map finE) a _ HP12.out.rf (rsl_finE HQ12.out.oq.read) (by have := hl9.out; omega) (by rw [List.length_map]; exact hlf.out)).mono ?_
            rintro e w13 ⟨rfl, hu13⟩
            have HU13 := Lib.hid (HU12.out.trans hu13)
            clear hu13
            generalize sameE l a (LF.map finE) = N at *
            go_wp2_with fail
            refine (linksAwake_any _).mono ?_
            rintro e w99 ⟨rfl, hu⟩
            have HU99 := Lib.hid (HU13.out.trans hu)
            clear hu
            go_wp2_with fail
            go_ret
            exact ⟨rfl, HU99.out⟩
        · have e2 : decide (a ≤ l.length) = false := decide_eq_false h2
          have e2' : decide ((a : Int) ≤ (l.length : Int)) = false := decide_eq_false (by omega)
          have hfit := Lib.hid (show fitE l a ep = false from by unfold fitE; rw [e1, e2']; rfl)
          clear h1 h2
          go_wp2_with fail
          refine (efits_any p l a ep _ HPz.out.lg.read (by have := hl9.out; omega)).mono ?_
          rintro e w11 ⟨rfl, hu11⟩
          have HP11 := Lib.hid (HPz.out.keep hu11)
          have HU11 := Lib.hid (HUz.out.trans hu11)
          have HQ11 := Lib.hid (hQ.out.keep hu11)
          clear hu11
          rw [hfit.out]
          go_wp2_with fail
          refine (esame2_any p l (LF.map finE) _ a _ HP11.out.lg.read (rsl_finE HQ11.out.op.read) (by have := hl9.out; omega) (by rw [List.length_map]; exact hlf.out)).mono ?_
          rintro e w12 ⟨rfl, hu12⟩
          have HP12 := Lib.hid (HP11.out.keep hu12)
          have HU12 := Lib.hid (HU11.out.trans hu12)
          have HQ12 := Lib.hid (HQ11.out.keep hu12)
          clear hu12
          go_wp2_with fail
          refine (refsame_any _ _ l (LF.map finE) a _ HP12.out.rf (rsl_finE HQ12.out.oq.read) (by have := hl9.out; omega) (by rw [List.length_map]; exact hlf.out)).mono ?_
          rintro e w13 ⟨rfl, hu13⟩
          have HU13 := Lib.hid (HU12.out.trans hu13)
          clear hu13
          generalize sameE l a (LF.map finE) = N at *
          go_wp2_with fail
          refine (linksAwake_any _).mono ?_
          rintro e w99 ⟨rfl, hu⟩
          have HU99 := Lib.hid (HU13.out.trans hu)
          clear hu
          go_wp2_with fail
          go_ret
          exact ⟨rfl, HU99.out⟩
      · have e1 : decide (0 ≤ prev) = false := decide_eq_false h1
        have hfit := Lib.hid (show fitE l prev ep = false from by unfold fitE; rw [e1]; rfl)
        clear h1
        go_wp2_with fail
        refine (efits_any p l prev ep _ HPz.out.lg.read (by have := hl9.out; omega)).mono ?_
        rintro e w11 ⟨rfl, hu11⟩
        have HP11 := Lib.hid (HPz.out.keep hu11)
        have HU11 := Lib.hid (HUz.out.trans hu11)
        have HQ11 := Lib.hid (hQ.out.keep hu11)
        clear hu11
        rw [hfit.out]
        go_wp2_with fail
        refine (esame2_any p l (LF.map finE) _ prev _ HP11.out.lg.read (rsl_finE HQ11.out.op.read) (by have := hl9.out; omega) (by rw [List.length_map]; exact hlf.out)).mono ?_
        rintro e w12 ⟨rfl, hu12⟩
        have HP12 := Lib.hid (HP11.out.keep hu12)
        have HU12 := Lib.hid (HU11.out.trans hu12)
        have HQ12 := Lib.hid (HQ11.out.keep hu12)
        clear hu12
        go_wp2_with fail
        refine (refsame_any _ _ l (LF.map finE) prev _ HP12.out.rf (rsl_finE HQ12.out.oq.read) (by have := hl9.out; omega) (by rw [List.length_map]; exact hlf.out)).mono ?_
        rintro e w13 ⟨rfl, hu13⟩
        have HU13 := Lib.hid (HU12.out.trans hu13)
        clear hu13
        generalize sameE l prev (LF.map finE) = N at *
        go_wp2_with fail
        refine (linksAwake_any _).mono ?_
        rintro e w99 ⟨rfl, hu⟩
        have HU99 := Lib.hid (HU13.out.trans hu)
        clear hu
        go_wp2_with fail
        go_ret
        exact ⟨rfl, HU99.out⟩
end Go.Proofs.Ytobfolkcpfaplaa
