/- A log of entries that end something, function by function (6): all of them; a cut; what a log takes of a piece. -/
import Derived.Test.YtobfolkcpfaplaaLink6
namespace Go.Proofs.Ytobfolkcpfaplaa
open Go.RowKit Kit
set_option linter.unusedVariables false

set_option maxHeartbeats 1000000 in
set_option maxRecDepth 100000 in
/-- slices.Clone of what is read: a row of its own. -/
theorem clonef_any {S : Nat → Prop} (v : Value) (l : List Fin) (w : World) (h : RSl Rep.fin w S v l) (hl : l.length * 112 ≤ 140737488355328) :
    Calls Try.prog 65 #[v] w fun e w' => ∃ v', e = .returned v' ∧ Mine Rep.fin 65 w w' v' l := by
  obtain ⟨A, c, cs, rfl, h1, h2, h3, h4, h5⟩ := id h
  cases A with
  | none =>
    obtain rfl : c = 0 := h4 rfl
    obtain rfl : l = [] := List.eq_nil_of_length_eq_zero (by omega)
    have hnil := fun w => Lib.run_eql_slice_nil (P := Try.prog) w 59 65 none 0 0 0 0 Try.underlying59
    have fin := Lib.hid (show Mine Rep.fin 65 w w (.slice none 0 0) [] from Mine.nil _ (Upd.refl _ _))
    clear h h3 h5
    go_enter Try.func65, Try.ntmps65
    go_wp2_with fail
    go_ret
    exact ⟨_, rfl, fin.out⟩
  | some a =>
    have hnil := fun w => Lib.run_eql_slice_nil (P := Try.prog) w 59 65 (some a) l.length c 0 0 Try.underlying59
    have hs : S a.block := (h5 a rfl).2.1
    have u0 : Upd NoB w (w.alloc (.cells #[] 65)) := (Upd.refl NoB w).alloc _
    have H := Lib.hid (h.upd u0 (fun b _ hf => hf))
    have H0 := Lib.hid (show Mine Rep.fin 65 w (w.alloc (.cells #[] 65)) (.slice (some ⟨w.heap.size, 0, none⟩) 0 0) [] from
      ⟨OSl.made (r := Rep.fin) (e := 65) (w := w) (S := grow NoB w (w.alloc (.cells #[] 65))) #[] 0 (by simp) (by decide) ⟨.inr (Nat.le_refl _), by simp⟩, u0⟩)
    have HB := Lib.hid H0.out.bd
    have HO := Lib.hid H0.out.1
    clear h h3 h5 h4
    go_enter Try.func65, Try.ntmps65
    go_wp2_with (at_builtin; go_must (refine app_all (r := Rep.fin) rfl _ _ 59 65 (.agg #[.int .u64 0, .int .i64 0, .int .i64 0, .int .u64 0, .bool false, .slice none 0 0, .slice none 0 0, .int .i64 0, .int .u64 0, .int .i64 0]) 112 rfl Try.underlying59 iFin rfl (by decide) rfl rfl HO.out HB.out H.out (fun cs hc => Rows.flat flat_fin hc _ _) ?_ ?_))
    · simpa using hl
    · intro v1 w1 ho hu
      have fin := Lib.hid (H0.out.app ho hu)
      clear ho hu
      go_wp2_with fail
      go_ret
      exact ⟨_, rfl, by simpa using fin.out⟩
theorem fromL_all (l : List Fin) : fromL l 0 l.length = l := by
  unfold fromL
  by_cases h : l.length = 0
  · rw [if_pos (.inr (.inl (by omega))), List.eq_nil_of_length_eq_zero h]
  · rw [if_neg (by omega)]
    simp
set_option maxHeartbeats 1000000 in
theorem all_any (w0 : World) (xs : List Nat) (p : Nat) (l : List Fin) (w : World) (h : Ll w0 w xs p l) (hl : l.length ≤ 100000) :
    Calls Try.prog 45 #[.pointer (some ⟨p, 0, none⟩)] w fun e w' => ∃ v', e = .returned v' ∧ Mine Rep.fin 65 w w' v' l := by
  have hln := Lib.hid (len_any w0 xs p l w h)
  have hfr := Lib.hid (fun x (hx : Upd NoB w x) => from_any w0 xs p l 0 l.length x (h.keep hx (fun h => h) (fun _ h => h.elim)) hl)
  rw [fromL_all] at hfr
  clear h
  go_enter Try.func45, Try.ntmps45
  go_wp2_with fail
  refine hln.out.mono ?_
  rintro e w1 ⟨rfl, hu⟩
  have HU1 := Lib.hid hu
  clear hu
  go_wp2_with fail
  refine (hfr.out _ HU1.out).mono ?_
  rintro e w2 ⟨v', rfl, hM⟩
  have fin := Lib.hid (show Mine Rep.fin 65 w w2 v' l from ⟨hM.1.mono (fun b hb => ⟨.inr (Nat.le_trans HU1.out.size (hb.1.resolve_left (fun h => h))), hb.2⟩), HU1.out.trans hM.2⟩)
  clear hM
  go_wp2_with fail
  go_ret
  exact ⟨_, rfl, fin.out⟩
set_option maxHeartbeats 4000000 in
set_option maxRecDepth 100000 in
theorem cut_any (w0 : World) (xs : List Nat) (p : Nat) (l : List Fin) (n : Nat) (w : World) (h : Ll w0 w xs p l) (hl : l.length ≤ 100000) (hn : n ≤ l.length) (hp : p ∈ xs) (hxs : ∀ x ∈ xs, x < w.heap.size) (h0 : w0.heap.size ≤ w.heap.size) :
    Calls Try.prog 44 #[.pointer (some ⟨p, 0, none⟩), .int .i64 n] w fun e w' => e = .returned (.int .i64 0) ∧ Ll w0 w' xs p (l.take n) ∧ Upd (fun b => b = p ∨ New w0 w xs b) w w' := by
  have hln := Lib.hid (len_any w0 xs p l w h)
  obtain ⟨v, h1, h2⟩ := h
  have H1 := Lib.hid h1
  have HR := Lib.hid h2.read
  obtain ⟨A, c, cs, rfl, d1, d2, d3, d4, d5⟩ := id h2.read
  have e1 : ¬ (n : Int) < 0 := by omega
  have e2 : decide (l.length < n) = false := decide_eq_false (by omega)
  have e3 : n ≤ c := by omega
  clear h1 h2 d3
  cases A with
  | none =>
    obtain rfl : c = 0 := d4 rfl
    obtain rfl : n = 0 := by omega
    have HP := Lib.hid (show RSl Rep.fin w NoB (.slice none 0 0) (l.take 0) from by simpa using RSl.nil (r := Rep.fin) w NoB)
    clear d4 d5 e3
    skip
    have hcl := Lib.hid (fun x (hx : Upd NoB w x) => clonef_any (.slice none 0 0) (l.take 0) x (HP.out.upd (F := NoB) hx (fun _ _ h => h)) (by rw [List.length_take]; omega))
    go_enter Try.func44, Try.ntmps44
    go_wp2_with fail
    refine hln.out.mono ?_
    rintro e w1 ⟨rfl, hu⟩
    have HU1 := Lib.hid hu
    clear hu
    have c1 := one_cell (HU1.out.heap H1.out (fun h => h))
    go_wp2_with fail
    refine (hcl.out _ HU1.out).mono ?_
    rintro e w2 ⟨v2, rfl, hM⟩
    have hM2 := Lib.hid hM
    have g2 := hM.2.heap (HU1.out.heap H1.out (fun h => h)) (fun h => h)
    have G2 := Lib.hid (heap_put g2 0 v2)
    have f0 : w2.frozen? ⟨p, 0, none⟩ = false := by simp [World.frozen?, g2]
    have k0 := one_cell g2
    obtain ⟨A2, c2, _, rfl, _⟩ := id hM.1.read
    generalize (l.take 0).length = N2 at *
    have U10 := Lib.hid ((Upd.refl (fun b => b = p) w2).setCell (p := ⟨p, 0, none⟩) (fun _ => rfl) (.slice A2 N2 c2))
    clear hM g2 c1
    go_wp2_with fail
    go_ret
    refine ⟨rfl, ⟨_, by simpa using G2.out, ?_⟩, (((HU1.out.trans hM2.out.2).mono (fun _ _ h => h.elim)).then U10.out (fun i hi e => .inl e))⟩
    refine OSl.new_keep (w := w2) ?_ U10.out (fun b hb => .inl (by rw [show b = p from hb]; exact hp))
    refine hM2.out.1.mono (fun b hb => ⟨?_, hb.2, fun hm => ?_⟩)
    · have := hb.1.resolve_left (fun h => h); have := HU1.out.size; omega
    · have := hb.1.resolve_left (fun h => h); have := HU1.out.size; have := hxs b hm; omega
  | some A0 =>
    obtain ⟨f1, f2, f3⟩ := d5 _ rfl
    obtain ⟨g, o, sp⟩ := A0
    simp only at f1
    subst f1
    have HP := Lib.hid (HR.out.pre n hn (c' := c) (by omega) (Nat.le_refl _))
    clear d4 d5 f2 f3
    skip
    have hcl := Lib.hid (fun x (hx : Upd NoB w x) => clonef_any (.slice (some ⟨g, o, none⟩) n c) (l.take n) x (HP.out.upd (F := NoB) hx (fun _ _ h => h)) (by rw [List.length_take]; omega))
    go_enter Try.func44, Try.ntmps44
    go_wp2_with fail
    refine hln.out.mono ?_
    rintro e w1 ⟨rfl, hu⟩
    have HU1 := Lib.hid hu
    clear hu
    have c1 := one_cell (HU1.out.heap H1.out (fun h => h))
    go_wp2_with fail
    refine (hcl.out _ HU1.out).mono ?_
    rintro e w2 ⟨v2, rfl, hM⟩
    have hM2 := Lib.hid hM
    have g2 := hM.2.heap (HU1.out.heap H1.out (fun h => h)) (fun h => h)
    have G2 := Lib.hid (heap_put g2 0 v2)
    have f0 : w2.frozen? ⟨p, 0, none⟩ = false := by simp [World.frozen?, g2]
    have k0 := one_cell g2
    obtain ⟨A2, c2, _, rfl, _⟩ := id hM.1.read
    generalize (l.take n).length = N2 at *
    have U10 := Lib.hid ((Upd.refl (fun b => b = p) w2).setCell (p := ⟨p, 0, none⟩) (fun _ => rfl) (.slice A2 N2 c2))
    clear hM g2 c1
    go_wp2_with fail
    go_ret
    refine ⟨rfl, ⟨_, by simpa using G2.out, ?_⟩, (((HU1.out.trans hM2.out.2).mono (fun _ _ h => h.elim)).then U10.out (fun i hi e => .inl e))⟩
    refine OSl.new_keep (w := w2) ?_ U10.out (fun b hb => .inl (by rw [show b = p from hb]; exact hp))
    refine hM2.out.1.mono (fun b hb => ⟨?_, hb.2, fun hm => ?_⟩)
    · have := hb.1.resolve_left (fun h => h); have := HU1.out.size; omega
    · have := hb.1.resolve_left (fun h => h); have := HU1.out.size; have := hxs b hm; omega
end Go.Proofs.Ytobfolkcpfaplaa
