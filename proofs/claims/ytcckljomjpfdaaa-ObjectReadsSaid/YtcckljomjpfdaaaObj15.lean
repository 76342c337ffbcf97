/- Versions (15): the document's own: at a number; without elder ones. -/
import Derived.Test.YtcckljomjpfdaaaObj14
namespace Go.Proofs.Ytcckljomjpfdaaa
open Go.RowKit Kit
set_option linter.unusedVariables false

theorem Mine.base {α : Type} {r : Rep α} {e : TypeId} {w wb x : World} {v : Value} {l : List α} (h : Mine r e wb x v l) (hb : Upd NoB w wb) : Mine r e w x v l :=
  ⟨h.1.mono (fun b hb' => ⟨.inr (Nat.le_trans hb.size (hb'.1.resolve_left (fun h => h))), hb'.2⟩), hb.trans h.2⟩
theorem readV_filt (l : List Ver) (n : Int) (h : rightB l = true) : (l.filter (fun x => decide (x.at_ ≤ n)))[(l.filter (fun x => decide (x.at_ ≤ n))).length - 1]? = readV l n := by
  have hu := uptoN_le l n
  rw [filt_upto l n h]
  unfold readV
  rw [if_pos h, List.length_take, Nat.min_eq_left hu]
  by_cases e : uptoN l n = 0
  · rw [if_pos e, e]; simp
  · rw [if_neg e, List.getElem?_take_of_lt (by omega)]
set_option maxHeartbeats 4000000 in
set_option maxRecDepth 100000 in
theorem refread_any {S : Nat → Prop} (v : Value) (l : List Ver) (n : Int) (w : World) (h : RSl Rep.ver w S v l) (hl : l.length ≤ 1000) (hr : rightB l = true) :
    Calls Try.prog 37 #[v, .int .i64 n] w fun e w' => e = .returned (.tuple #[((readV l n).getD zeroV).agg, .bool (readV l n).isSome]) ∧ Upd NoB w w' := by
  have hun := Lib.hid (fun w1 (hu : Upd NoB w w1) => refundo_any v l n w1 (h.upd hu (fun _ _ h => h)) hl)
  have hq := readV_filt l n hr
  obtain ⟨A, c, cs, rfl, _⟩ := h
  have hFl : (l.filter (fun x => decide (x.at_ ≤ n))).length ≤ 1000 := Nat.le_trans (List.length_filter_le _ _) hl
  generalize readV l n = q at *
  generalize l.filter (fun x => decide (x.at_ ≤ n)) = F at *
  obtain ⟨wa, hwa⟩ : ∃ wa, w.alloc (.cells #[.int .i64 0, .int .u64 0, .string ⟨#[]⟩, .bool false] 62) = wa := ⟨_, rfl⟩
  have hua : Upd NoB w wa := by rw [← hwa]; exact (Upd.refl _ _).alloc _
  have hBv : wa.heap[w.heap.size]? = some (.cells #[.int .i64 0, .int .u64 0, .string ⟨#[]⟩, .bool false] 62 (0, 0)) := by rw [← hwa]; exact heap_alloc_new _ _
  have HU := Lib.hid hua
  have hok := Lib.hid (fun x (hx : Upd NoB wa x) => show x.cell? ⟨w.heap.size, 0, none⟩ = some (.int .i64 0) ∧ x.cell? ⟨w.heap.size, 1, none⟩ = some (.int .u64 0) ∧ x.cell? ⟨w.heap.size, 2, none⟩ = some (.string ⟨#[]⟩) ∧ x.cell? ⟨w.heap.size, 3, none⟩ = some (.bool false) ∧ (∀ j, x.frozen? ⟨w.heap.size, j, none⟩ = false) by
    have b := hx.heap hBv (fun h => h)
    simp [World.cell?, World.frozen?, b])
  have hfin := Lib.hid (fun x (hx : Upd NoB wa x) (a b c d : Value) => show Upd NoB w ((((x.setCell ⟨w.heap.size, 0, none⟩ a).setCell ⟨w.heap.size, 1, none⟩ b).setCell ⟨w.heap.size, 2, none⟩ c).setCell ⟨w.heap.size, 3, none⟩ d) by
    have k : ∀ (y : World) j u, Upd NoB w y → Upd NoB w (y.setCell ⟨w.heap.size, j, none⟩ u) := fun y j u h => h.setCell (p := ⟨w.heap.size, j, none⟩) (fun e => by simp only at e; omega) u
    exact k _ _ _ (k _ _ _ (k _ _ _ (k _ _ _ (hua.trans hx)))))
  clear hBv hua
  by_cases h0 : F.length = 0
  · have hq0 := Lib.hid (show q = none by rw [← hq, List.eq_nil_of_length_eq_zero h0]; rfl)
    have hb : ((F.length : Int) == 0) = true := by simp [h0]
    clear hq h0
    go_enter Try.func37, Try.ntmps37
    go_wp2_with fail
    refine (hun.out _ HU.out).mono ?_
    rintro e w2 ⟨v2, rfl, hM⟩
    obtain ⟨A2, c2, _, rfl, _⟩ := hM.1.read
    obtain ⟨z1, z2, z3, z4, z6⟩ := hok.out w2 hM.2
    have f0 := z6 0
    have f1 := z6 1
    have f2 := z6 2
    have f3 := z6 3
    have HM := Lib.hid hM
    clear z6 hM
    go_wp2_with fail
    refine bodyPost_ret (v := .tuple #[zeroV.agg, .bool false]) (by simp [results, Try.results37, go_sem, zeroV, Ver.agg, *]) rfl ⟨by rw [hq0.out]; rfl, hfin.out w2 HM.out.2 _ _ _ _⟩
  · have hb : ((F.length : Int) == 0) = false := beq_false_of_ne (by omega)
    have hlt : F.length - 1 < F.length := by omega
    have hq0 := Lib.hid (show q = some F[F.length - 1] by rw [← hq]; exact List.getElem?_eq_getElem hlt)
    have hn5 : (F.length : Int) ≤ 1000 := by omega
    have hn6 : wrap64 ((F.length : Int) - 1) = (F.length : Int) - 1 := by unfold wrap64; omega
    have hn1 : (1 : Int) ≤ (F.length : Int) := by omega
    have hn2 : (F.length : Int) - 1 < (F.length : Int) := by omega
    have hn3 : ((F.length : Int) - 1).toNat = F.length - 1 := by omega
    have hn4 : (0 : Int) ≤ (F.length : Int) - 1 := by omega
    clear hq h0
    go_enter Try.func37, Try.ntmps37
    go_wp2_with fail
    refine (hun.out _ HU.out).mono ?_
    rintro e w2 ⟨v2, rfl, hM⟩
    obtain ⟨A2, c2, _, rfl, _⟩ := hM.1.read
    obtain ⟨z1, z2, z3, z4, z6⟩ := hok.out w2 hM.2
    have f0 := z6 0
    have f1 := z6 1
    have f2 := z6 2
    have f3 := z6 3
    have HM := Lib.hid hM
    clear z6 hM
    obtain ⟨g0, o0, rcs, rfl, hrep, hcs, hg⟩ := HM.out.1.read.cellN (F.length - 1) hlt
    obtain ⟨hr1, hr2⟩ := hrep
    subst hr1
    have k0 : w2.cell? ⟨g0, o0 + (F.length - 1) * 4, none⟩ = some (.int .i64 F[F.length - 1].at_) := hcs 0 _ rfl
    have k1 : w2.cell? ⟨g0, o0 + (F.length - 1) * 4 + 1, none⟩ = some (.int .u64 F[F.length - 1].num) := hcs 1 _ rfl
    have k2 : w2.cell? ⟨g0, o0 + (F.length - 1) * 4 + 2, none⟩ = some (.string F[F.length - 1].val) := hcs 2 _ rfl
    have k3 : w2.cell? ⟨g0, o0 + (F.length - 1) * 4 + 3, none⟩ = some (.bool F[F.length - 1].gone) := hcs 3 _ rfl
    generalize F[F.length - 1] = X at *
    clear hcs hg hr2
    go_wp2_with fail
    refine bodyPost_ret (v := .tuple #[X.agg, .bool true]) (by simp [results, Try.results37, go_sem, Ver.agg, *]) rfl ⟨by rw [hq0.out]; rfl, hfin.out w2 HM.out.2 _ _ _ _⟩
end Go.Proofs.Ytcckljomjpfdaaa
