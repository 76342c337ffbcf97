/- A log of entries, any, function by function (5): a cut. -/
import Derived.Test.YtobfolkcpfaplaaEnt15
namespace Go.Proofs.Ytobfolkcpfaplaa
open Go.RowKit Kit
set_option linter.unusedVariables false
set_option maxHeartbeats 1000000 in
set_option maxRecDepth 100000 in
theorem eclone_any {S : Nat → Prop} (v : Value) (l : List Ent) (w : World) (h : RSl Rep.ent w S v l) (hb : Bd S w) (hl : l.length * 112 ≤ 140737488355328) :
    Calls Try.prog 65 #[v] w fun e w' => ∃ v', e = .returned v' ∧ OSl Rep.ent 65 w' (grow S w w') v' l ∧ Upd NoB w w' := by
  obtain ⟨A, c, cs, rfl, h1, h2, h3, h4, h5⟩ := id h
  cases A with
  | none =>
    obtain rfl : c = 0 := h4 rfl
    obtain rfl : l = [] := List.eq_nil_of_length_eq_zero (by omega)
    have hnil := fun w => Lib.run_eql_slice_nil (P := Try.prog) w 59 65 none 0 0 0 0 Try.underlying59
    have fin := Lib.hid (show OSl Rep.ent 65 w (grow S w w) (.slice none 0 0) [] from OSl.nil _ _ _)
    have HU := Lib.hid (Upd.refl NoB w)
    clear h h3 h5
    go_enter Try.func65, Try.ntmps65
    go_wp2_with fail
    go_ret
    exact ⟨_, rfl, fin.out, HU.out⟩
  | some a =>
    have hnil := fun w => Lib.run_eql_slice_nil (P := Try.prog) w 59 65 (some a) l.length c 0 0 Try.underlying59
    have u0 : Upd NoB w (w.alloc (.cells #[] 65)) := (Upd.refl NoB w).alloc _
    have H := Lib.hid (h.upd u0 (fun b _ hf => hf))
    have HO := Lib.hid (show OSl Rep.ent 65 (w.alloc (.cells #[] 65)) (grow S w (w.alloc (.cells #[] 65))) (.slice (some ⟨w.heap.size, 0, none⟩) 0 0) [] from
      OSl.made (r := Rep.ent) (e := 65) (w := w) (S := grow S w (w.alloc (.cells #[] 65))) #[] 0 (by simp) (by decide) ⟨.inr (Nat.le_refl _), by simp⟩)
    have HB := Lib.hid (Bd.grow S w (w.alloc (.cells #[] 65)))
    have HU0 := Lib.hid u0
    have HT := Lib.hid (fun cs (hc : Kit.Rows Rep.ent (w.alloc (.cells #[] 65)) S l cs) => show Kit.Rows Rep.ent (w.alloc (.cells #[] 65)) (fun b => grow S w (w.alloc (.cells #[] 65)) b ∧ (Value.slice (some ⟨w.heap.size, 0, none⟩) 0 0).ownBlock ≠ some b) l cs from
      have key : ∀ b, S b → grow S w (w.alloc (.cells #[] 65)) b ∧ (Value.slice (some ⟨w.heap.size, 0, none⟩) 0 0).ownBlock ≠ some b := fun b h' => ⟨⟨.inl h', Nat.lt_of_lt_of_le (hb b h') u0.size⟩, fun e => by have e' := Option.some.inj e; have := hb b h'; simp only at e'; omega⟩
      hc.keep (fun b h' _ => ⟨key b h', rfl⟩) key)
    clear h h3 h5 h4
    go_enter Try.func65, Try.ntmps65
    go_wp2_with (at_builtin; go_must (refine app_all (r := Rep.ent) (v := .slice (some ⟨w.heap.size, 0, none⟩) 0 0) rfl _ _ 59 65 (.agg #[.int .u64 0, .int .i64 0, .int .i64 0, .int .u64 0, .bool false, .slice none 0 0, .slice none 0 0, .int .i64 0, .int .u64 0, .int .i64 0]) 112 rfl Try.underlying59 (iEnt _ (by decide)) rfl (by decide) rfl rfl HO.out HB.out H.out HT.out ?_ ?_))
    · simpa using hl
    · intro v1 w1 ho hu
      have fin := Lib.hid (show OSl Rep.ent 65 w1 (grow S w w1) v1 l from by
        have := ho.mono (fun b hb => show grow S w w1 b from ⟨hb.1.elim (fun h => h.1) (fun h => .inr (by have := HU0.out.size; omega)), hb.2⟩)
        simpa using this)
      have HU := Lib.hid (show Upd NoB w w1 from HU0.out.then hu (fun i hi e => by have e' : w.heap.size = i := Option.some.inj e; omega))
      clear ho hu
      go_wp2_with fail
      go_ret
      exact ⟨_, rfl, fin.out, HU.out⟩
set_option maxHeartbeats 4000000 in
set_option maxRecDepth 100000 in
theorem ecut_ok {S : Nat → Prop} (p : Nat) (l : List Ent) (n : Nat) (w : World) (h : Lg S w p l) (hl : l.length ≤ 100000) (hn : n ≤ l.length) :
    Calls Try.prog 44 #[.pointer (some ⟨p, 0, none⟩), .int .i64 n] w fun e w' => e = .returned (.int .i64 0) ∧ Lg (grow S w w') w' p (l.take n) ∧ Upd (fun b => b = p ∨ S b) w w' := by
  have hln := Lib.hid (elen_any p l w h.read)
  obtain ⟨⟨v, h1, h2⟩, _⟩ := id h
  have H1 := Lib.hid h1
  have HR := Lib.hid h2.read
  obtain ⟨A, c, cs, rfl, d1, d2, d3, d4, d5⟩ := id h2.read
  have e1 : ¬ (n : Int) < 0 := by omega
  have e2 : decide (l.length < n) = false := decide_eq_false (by omega)
  have e3 : n ≤ c := by omega
  clear h1 h2 d3
  cases A with
  | none =>
    obtain rfl : c = 0 := d4 rfl
    obtain rfl : n = 0 := by omega
    have HP := Lib.hid (show RSl Rep.ent w S (.slice none 0 0) (l.take 0) from by simpa using RSl.nil (r := Rep.ent) w S)
    clear d4 d5 e3
    skip
    have hcl := Lib.hid (fun z (hz : Upd NoB w z) => eclone_any (.slice none 0 0) (l.take 0) z (HP.out.upd (F := NoB) hz (fun _ _ h => h)) (h.2.2.upd hz) (by rw [List.length_take]; omega))
    have hnp := Lib.hid h.2.1
    clear h
    go_enter Try.func44, Try.ntmps44
    go_wp2_with fail
    refine hln.out.mono ?_
    rintro e w1 ⟨rfl, hu⟩
    have HU1 := Lib.hid hu
    clear hu
    have c1 := one_cell (HU1.out.heap H1.out (fun h => h))
    go_wp2_with fail
    refine (hcl.out _ HU1.out).mono ?_
    rintro e w2 ⟨v2, rfl, hM, hu⟩
    have hM2 := Lib.hid (hM.mono (fun b hb => show grow S w w2 b from ⟨hb.1.elim .inl (fun h => .inr (Nat.le_trans HU1.out.size h)), hb.2⟩))
    have HU2 := Lib.hid (HU1.out.trans hu)
    have g2 := hu.heap (HU1.out.heap H1.out (fun h => h)) (fun h => h)
    have G2 := Lib.hid (heap_put g2 0 v2)
    have f0 : w2.frozen? ⟨p, 0, none⟩ = false := by simp [World.frozen?, g2]
    have k0 := one_cell g2
    obtain ⟨A2, c2, _, rfl, _⟩ := id hM.read
    generalize (l.take 0).length = N2 at *
    have U10 := Lib.hid ((Upd.refl (fun b => b = p) w2).setCell (p := ⟨p, 0, none⟩) (fun _ => rfl) (.slice A2 N2 c2))
    have hgp := Lib.hid (fun (e : grow S w w2 p) => show False from e.1.elim hnp.out (fun h => by have := lt_of_heap H1.out; omega))
    clear hM hu g2 c1
    go_wp2_with fail
    go_ret
    refine ⟨rfl, ⟨⟨_, by simpa using G2.out, (hM2.out.upd U10.out (fun b hb e => by have e' : b = p := e; subst e'; exact hgp.out hb)).mono (fun b hb => ⟨hb.1, by simpa [World.setCell] using hb.2⟩)⟩, fun e => hgp.out ⟨e.1, by simpa [World.setCell] using e.2⟩, Bd.grow _ _ _⟩, ?_⟩
    exact (HU2.out.mono (fun _ _ h => h.elim)).then U10.out (fun i hi e => .inl e)
  | some A0 =>
    obtain ⟨f1, f2, f3⟩ := d5 _ rfl
    obtain ⟨g, o, sp⟩ := A0
    simp only at f1
    subst f1
    have HP := Lib.hid (HR.out.pre n hn (c' := c) (by omega) (Nat.le_refl _))
    clear d4 d5 f2 f3
    skip
    have hcl := Lib.hid (fun z (hz : Upd NoB w z) => eclone_any (.slice (some ⟨g, o, none⟩) n c) (l.take n) z (HP.out.upd (F := NoB) hz (fun _ _ h => h)) (h.2.2.upd hz) (by rw [List.length_take]; omega))
    have hnp := Lib.hid h.2.1
    clear h
    go_enter Try.func44, Try.ntmps44
    go_wp2_with fail
    refine hln.out.mono ?_
    rintro e w1 ⟨rfl, hu⟩
    have HU1 := Lib.hid hu
    clear hu
    have c1 := one_cell (HU1.out.heap H1.out (fun h => h))
    go_wp2_with fail
    refine (hcl.out _ HU1.out).mono ?_
    rintro e w2 ⟨v2, rfl, hM, hu⟩
    have hM2 := Lib.hid (hM.mono (fun b hb => show grow S w w2 b from ⟨hb.1.elim .inl (fun h => .inr (Nat.le_trans HU1.out.size h)), hb.2⟩))
    have HU2 := Lib.hid (HU1.out.trans hu)
    have g2 := hu.heap (HU1.out.heap H1.out (fun h => h)) (fun h => h)
    have G2 := Lib.hid (heap_put g2 0 v2)
    have f0 : w2.frozen? ⟨p, 0, none⟩ = false := by simp [World.frozen?, g2]
    have k0 := one_cell g2
    obtain ⟨A2, c2, _, rfl, _⟩ := id hM.read
    generalize (l.take n).length = N2 at *
    have U10 := Lib.hid ((Upd.refl (fun b => b = p) w2).setCell (p := ⟨p, 0, none⟩) (fun _ => rfl) (.slice A2 N2 c2))
    have hgp := Lib.hid (fun (e : grow S w w2 p) => show False from e.1.elim hnp.out (fun h => by have := lt_of_heap H1.out; omega))
    clear hM hu g2 c1
    go_wp2_with fail
    go_ret
    refine ⟨rfl, ⟨⟨_, by simpa using G2.out, (hM2.out.upd U10.out (fun b hb e => by have e' : b = p := e; subst e'; exact hgp.out hb)).mono (fun b hb => ⟨hb.1, by simpa [World.setCell] using hb.2⟩)⟩, fun e => hgp.out ⟨e.1, by simpa [World.setCell] using e.2⟩, Bd.grow _ _ _⟩, ?_⟩
    exact (HU2.out.mono (fun _ _ h => h.elim)).then U10.out (fun i hi e => .inl e)
set_option maxHeartbeats 1000000 in
theorem ecut_no {S : Nat → Prop} (p : Nat) (l : List Ent) (n : Int) (w : World) (h : Rl S w p l) (hn : ¬ (0 ≤ n ∧ n ≤ (l.length : Int))) :
    Calls Try.prog 44 #[.pointer (some ⟨p, 0, none⟩), .int .i64 n] w fun e w' => e = .returned (.int .i64 1) ∧ Upd NoB w w' := by
  have hln := Lib.hid (elen_any p l w h)
  have HU := Lib.hid (Upd.refl NoB w)
  clear h
  by_cases h0 : n < 0
  · have d0 : decide (n < 0) = true := decide_eq_true h0
    clear hn
    go_enter Try.func44, Try.ntmps44
    go_wp2_with fail
    go_ret
    exact ⟨rfl, HU.out⟩
  · have d0 : decide (n < 0) = false := decide_eq_false h0
    obtain ⟨k, rfl⟩ : ∃ k : Nat, n = k := Int.eq_ofNat_of_zero_le (by omega)
    have d1 : decide (l.length < k) = true := decide_eq_true (by omega)
    clear hn h0
    go_enter Try.func44, Try.ntmps44
    go_wp2_with fail
    refine hln.out.mono ?_
    rintro e w1 ⟨rfl, hu⟩
    have HU1 := Lib.hid hu
    clear hu
    go_wp2_with fail
    go_ret
    exact ⟨rfl, HU1.out⟩
end Go.Proofs.Ytobfolkcpfaplaa
