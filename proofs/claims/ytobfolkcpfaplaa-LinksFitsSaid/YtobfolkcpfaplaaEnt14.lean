/- A log of entries, any, function by function (3): one of it; one more. -/
import Derived.Test.YtobfolkcpfaplaaEnt13
import Derived.Test.YtobfolkcpfaplaaEnt9
import Derived.Test.YtobfolkcpfaplaaLink3
namespace Go.Proofs.Ytobfolkcpfaplaa
open Go.RowKit Kit
set_option linter.unusedVariables false
set_option maxHeartbeats 2000000 in
set_option maxRecDepth 100000 in
theorem eat_no {S : Nat → Prop} (p : Nat) (l : List Ent) (i : Int) (w : World) (h : Rl S w p l) (hi : ¬ (1 ≤ i ∧ i ≤ (l.length : Int))) :
    Calls Try.prog 43 #[.pointer (some ⟨p, 0, none⟩), .int .i64 i] w fun e w' => e = .returned (.tuple #[zeroV, .bool false]) ∧ Upd NoB w w' := by
  have hh := Lib.hid (fun z (hz : Upd NoB w z) => has_of _ _ i z (fun _ _ => trivial) (elen_any p l z (h.keep hz)))
  rw [decide_eq_false hi] at hh
  clear h hi
  unfold zeroV
  have HU := Lib.hid (fun o => (Upd.refl NoB w).alloc o)
  have hz := Lib.hid (fun (x : World) (hx : Upd NoB (w.alloc (.cells #[.int .u64 0, .int .i64 0, .int .i64 0, .int .u64 0, .bool false, .slice none 0 0, .slice none 0 0, .int .i64 0, .int .u64 0, .int .i64 0] 65)) x) =>
    hx.heap (heap_alloc_new w (.cells #[.int .u64 0, .int .i64 0, .int .i64 0, .int .u64 0, .bool false, .slice none 0 0, .slice none 0 0, .int .i64 0, .int .u64 0, .int .i64 0] 65 (0, 0))) (fun h => h))
  have hsg := Lib.hid (fun (y z : World) (hy : Upd (fun b => b = w.heap.size) y z) (i : Nat) (u : Value) => hy.setCell (p := ⟨w.heap.size, i, none⟩) (fun _ => rfl) u)
  go_enter Try.func43, Try.ntmps43
  go_wp2_with fail
  refine (hh.out _ (HU.out _)).mono ?_
  rintro e w1 ⟨rfl, hu⟩
  have hz1 := hz.out _ hu
  obtain ⟨y0, y1, y2, y3, y4, y5, y6, y7, y8, y9⟩ := ten_cells hz1
  have f : ∀ i, w1.frozen? ⟨w.heap.size, i, none⟩ = false := fun i => by simp [World.frozen?, hz1]
  have HU1 := Lib.hid ((HU.out _).trans hu)
  have U10 := Lib.hid (fun a0 a1 a2 a3 a4 a5 a6 a7 a8 a9 => hsg.out _ _ (hsg.out _ _ (hsg.out _ _ (hsg.out _ _ (hsg.out _ _ (hsg.out _ _ (hsg.out _ _ (hsg.out _ _ (hsg.out _ _ (hsg.out _ _ (Upd.refl _ w1) 0 a0) 1 a1) 2 a2) 3 a3) 4 a4) 5 a5) 6 a6) 7 a7) 8 a8) 9 a9)
  clear hu hz1
  go_wp2_with fail
  exact bodyPost_ret (v := .tuple #[.agg #[.int .u64 0, .int .i64 0, .int .i64 0, .int .u64 0, .bool false, .slice none 0 0, .slice none 0 0, .int .i64 0, .int .u64 0, .int .i64 0], .bool false]) (by simp [results, Try.results43, go_sem, *]) rfl ⟨rfl, HU1.out.then (U10.out _ _ _ _ _ _ _ _ _ _) (fun i hi e => by have e' : i = w.heap.size := e; omega)⟩
set_option maxHeartbeats 4000000 in
set_option maxRecDepth 100000 in
theorem eat_yes {S : Nat → Prop} (p : Nat) (l : List Ent) (k : Nat) (w : World) (x : Ent) (h : Rl S w p l) (hk : k < l.length) (hx : l[k]'hk = x) (hl : l.length ≤ 100000) (hs : ∀ x ∈ l, x.small) :
    Calls Try.prog 43 #[.pointer (some ⟨p, 0, none⟩), .int .i64 ((k : Int) + 1)] w fun e w' => ∃ cs, e = .returned (.tuple #[.agg cs, .bool true]) ∧ Rep.ent.rep w' (grow NoB w w') x cs.toList ∧ Upd NoB w w' := by
  have HX := Lib.hid hx
  have hh := Lib.hid (fun z (hz : Upd NoB w z) => has_of _ _ ((k : Int) + 1) z (fun _ _ => trivial) (elen_any p l z (h.keep hz)))
  rw [decide_eq_true (show 1 ≤ (k : Int) + 1 ∧ (k : Int) + 1 ≤ (l.length : Int) by omega)] at hh
  have HK := Lib.hid (fun z (hz : Upd NoB w z) => h.keep hz)
  have w1e : IntKind.i64.wrap ((k : Int) + 1 - 1) = k := by simp only [IntKind.wrap_i64]; omega
  have w1f : IntKind.i64.wrap (k : Int) = k := by simp only [IntKind.wrap_i64]; omega
  have hsm : x.small := hx ▸ hs _ (List.getElem_mem hk)
  clear h hs hx
  have HU := Lib.hid (fun o => (Upd.refl NoB w).alloc o)
  have hz := Lib.hid (fun (x : World) (hx : Upd NoB (w.alloc (.cells #[.int .u64 0, .int .i64 0, .int .i64 0, .int .u64 0, .bool false, .slice none 0 0, .slice none 0 0, .int .i64 0, .int .u64 0, .int .i64 0] 65)) x) =>
    hx.heap (heap_alloc_new w (.cells #[.int .u64 0, .int .i64 0, .int .i64 0, .int .u64 0, .bool false, .slice none 0 0, .slice none 0 0, .int .i64 0, .int .u64 0, .int .i64 0] 65 (0, 0))) (fun h => h))
  have hsg := Lib.hid (fun (y z : World) (hy : Upd (fun b => b = w.heap.size) y z) (i : Nat) (u : Value) => hy.setCell (p := ⟨w.heap.size, i, none⟩) (fun _ => rfl) u)
  go_enter Try.func43, Try.ntmps43
  go_wp2_with fail
  refine (hh.out _ (HU.out _)).mono ?_
  rintro e w1 ⟨rfl, hu⟩
  obtain ⟨v, k1, k2⟩ := HK.out w1 ((HU.out _).trans hu)
  have c0 := one_cell k1
  obtain ⟨A, c, _, rfl, _⟩ := id k2
  have T := ten_at (v := .bool true) k2 (Upd.refl NoB w1) k hk
  rw [HX.out] at T
  obtain ⟨g, o, A1, B1, m1, m2, rfl, hr1, hr2, d0, d1, d2, d3, d4, d5, d6, d7, d8, d9⟩ := T
  have hco := Lib.hid (ecopied_any x A1 B1 m1 m2 w1 hr1 hr2 hsm)
  have HU1 := Lib.hid ((HU.out _).trans hu)
  have HV1 := Lib.hid hu
  have hsz := Lib.hid (show w.heap.size < w1.heap.size from lt_of_heap (hz.out _ hu))
  have k0 : (0 : Int) ≤ (k : Int) := by omega
  clear hu k1 k2 hr1 hr2
  go_wp2_with fail
  refine hco.out.mono ?_
  rintro e w2 ⟨cs, rfl, hre, hu⟩
  have HU2 := Lib.hid (HU1.out.trans hu)
  have hz2 := hz.out _ (HV1.out.trans hu)
  have hre' := Lib.hid hre
  obtain ⟨A2, B2, n1, n2, rfl, _⟩ := ent_agg hre
  obtain ⟨y0, y1, y2, y3, y4, y5, y6, y7, y8, y9⟩ := ten_cells hz2
  have f : ∀ i, w2.frozen? ⟨w.heap.size, i, none⟩ = false := fun i => by simp [World.frozen?, hz2]
  have U10 := Lib.hid (fun a0 a1 a2 a3 a4 a5 a6 a7 a8 a9 => hsg.out _ _ (hsg.out _ _ (hsg.out _ _ (hsg.out _ _ (hsg.out _ _ (hsg.out _ _ (hsg.out _ _ (hsg.out _ _ (hsg.out _ _ (hsg.out _ _ (Upd.refl _ w2) 0 a0) 1 a1) 2 a2) 3 a3) 4 a4) 5 a5) 6 a6) 7 a7) 8 a8) 9 a9)
  have F1 := Lib.hid (fun y (hy : Upd (fun b => b = w.heap.size) w2 y) => Rep.ent_mono (Rep.ent_upd hre'.out hy (fun b hb f => by have := (grow_old hb).1; have := hsz.out; have f' : b = w.heap.size := f; omega)) (fun b hb => show grow NoB w y b from ⟨.inr (by have := (grow_old hb).1; have := hsz.out; omega), Nat.lt_of_lt_of_le hb.2 hy.size⟩))
  have F2 := Lib.hid (fun y (hy : Upd (fun b => b = w.heap.size) w2 y) => show Upd NoB w y from HU2.out.then hy (fun i hi e => by have e' : i = w.heap.size := e; omega))
  clear hu hre hz2 c0 d0 d1 d2 d3 d4 d5 d6 d7 d8 d9 hsm
  go_wp2_with fail
  exact bodyPost_ret (v := .tuple #[.agg #[.int .u64 x.ep, .int .i64 x.kd, .int .i64 x.tc, .int .u64 x.tq, .bool x.pl, .slice A2 x.rd.length n1, .slice B2 x.wr.length n2, .int .i64 x.ec, .int .u64 x.eq, .int .i64 x.cd], .bool true]) (by simp [results, Try.results43, go_sem, *]) rfl ⟨_, rfl, F1.out _ (U10.out _ _ _ _ _ _ _ _ _ _), F2.out _ (U10.out _ _ _ _ _ _ _ _ _ _)⟩
end Go.Proofs.Ytobfolkcpfaplaa
