/- Versions, function by function (9): are two the same? -/
import Derived.Test.YtcckljomjpfdaaaObj8
namespace Go.Proofs.Ytcckljomjpfdaaa
open Go.RowKit Kit
set_option linter.unusedVariables false

theorem ver_ne {x y : Ver} (h : x ≠ y) : x.at_ = y.at_ → (x.num : Int) = (y.num : Int) → x.val.toList = y.val.toList → ¬ x.gone = y.gone := by
  intro h1 h2 h3 h4
  refine h ?_
  have h3' : x.val = y.val := by rw [ByteArray.toList_eq, ByteArray.toList_eq] at h3; exact ByteArray.ext (Array.toList_inj.1 h3)
  obtain ⟨xa, xn, xv, xg⟩ := x
  obtain ⟨ya, yn, yv, yg⟩ := y
  simp only at h1 h2 h3' h4
  obtain rfl : xn = yn := by omega
  subst h1 h3' h4
  rfl
instance : DecidableEq Ver := fun x y => decidable_of_iff (x.at_ = y.at_ ∧ x.num = y.num ∧ x.val = y.val ∧ x.gone = y.gone)
  ⟨fun ⟨a, b, c, d⟩ => by cases x; cases y; simp only at a b c d; subst a b c d; rfl, fun h => by subst h; exact ⟨rfl, rfl, rfl, rfl⟩⟩
set_option maxHeartbeats 2000000 in
set_option maxRecDepth 100000 in
theorem equalv_any {S T : Nat → Prop} (v v' : Value) (l l' : List Ver) (w : World) (h : RSl Rep.ver w S v l) (h' : RSl Rep.ver w T v' l') :
    Calls Try.prog 53 #[v, v'] w fun e w' => e = .returned (.bool (decide (l = l'))) ∧ Upd NoB w w' := by
  have H := Lib.hid h
  have H' := Lib.hid h'
  obtain ⟨A, c, cs, rfl, d1, d2, _⟩ := h
  obtain ⟨A', c', cs', rfl, d1', d2', _⟩ := h'
  have e2 : c ≤ 9223372036854775807 := d2
  have e2' : c' ≤ 9223372036854775807 := d2'
  by_cases hll : l.length = l'.length
  · have hllb : ((l.length : Int) != (l'.length : Int)) = false := by simp; omega
    have HLL := Lib.hid hll
    clear hll
    go_enter Try.func53, Try.ntmps53
    go_wp2_with fail
    go_loopw [5, 13] (fun x5 i wr => ∃ k : Nat, k ≤ l.length ∧ i = .int .i64 k ∧ Hid (∀ j, j < k → l[j]? = l'[j]?) ∧ Hid (Upd NoB w wr)) (fun _ i _ => l.length - (intOf i).toNat)
    case atStart => exact ⟨0, by omega, rfl, Lib.hid (fun j hj => by omega), Lib.hid (Upd.refl _ _)⟩
    case round =>
      obtain ⟨k, hk, rfl, hE, hU⟩ := hrel
      by_cases hlt : k < l.length
      · have hlt' : k < l'.length := by rw [← HLL.out]; exact hlt
        obtain ⟨ga, oa, ua, rfl, hua, hca, _⟩ := H.out.cellN k hlt
        obtain ⟨gb, ob, ub, rfl, hub, hcb, _⟩ := H'.out.cellN k hlt'
        obtain ⟨rfl, hxa⟩ := hua
        obtain ⟨rfl, hxb⟩ := hub
        have HX := Lib.hid (show l[k]? = some l[k] from List.getElem?_eq_getElem hlt)
        have HY := Lib.hid (show l'[k]? = some l'[k] from List.getElem?_eq_getElem hlt')
        generalize l[k] = x at *
        generalize l'[k] = y at *
        have HCA := Lib.hid (fun x' (hx : Upd NoB wr.drew x') => show x'.cell? ⟨ga, oa + k * 4, none⟩ = some (.int .i64 x.at_) ∧ x'.cell? ⟨ga, oa + k * 4 + 1, none⟩ = some (.int .u64 x.num) ∧ x'.cell? ⟨ga, oa + k * 4 + 2, none⟩ = some (.string x.val) ∧ x'.cell? ⟨ga, oa + k * 4 + 3, none⟩ = some (.bool x.gone) from
          have hu := hU.out.drew.trans hx
          ⟨hu.cell (hca 0 _ rfl) (fun h => h), hu.cell (hca 1 _ rfl) (fun h => h), hu.cell (hca 2 _ rfl) (fun h => h), hu.cell (hca 3 _ rfl) (fun h => h)⟩)
        have HCB := Lib.hid (fun x' (hx : Upd NoB wr.drew x') => show x'.cell? ⟨gb, ob + k * 4, none⟩ = some (.int .i64 y.at_) ∧ x'.cell? ⟨gb, ob + k * 4 + 1, none⟩ = some (.int .u64 y.num) ∧ x'.cell? ⟨gb, ob + k * 4 + 2, none⟩ = some (.string y.val) ∧ x'.cell? ⟨gb, ob + k * 4 + 3, none⟩ = some (.bool y.gone) from
          have hu := hU.out.drew.trans hx
          ⟨hu.cell (hcb 0 _ rfl) (fun h => h), hu.cell (hcb 1 _ rfl) (fun h => h), hu.cell (hcb 2 _ rfl) (fun h => h), hu.cell (hcb 3 _ rfl) (fun h => h)⟩)
        have m1 : (0 : Int) ≤ (k : Int) := by omega
        have m2 : (k : Int) < (l.length : Int) := by omega
        have m3 : (k : Int) < (l'.length : Int) := by omega
        clear hca hcb hxa hxb
        by_cases hxy : x = y
        · have hn : Hid (∀ j, j < k + 1 → l[j]? = l'[j]?) := Lib.hid (fun j hj => by
            by_cases e : j = k
            · rw [e, HX.out, HY.out, hxy]
            · exact hE.out j (by omega))
          subst hxy
          go_wp2_with fail
          refine sched_begin NoB (by kernel_rfl) ?_
          refine sched_take 0 rfl (by kernel_rfl) (by kernel_rfl) (by kernel_rfl) (fun _ _ _ h => h) rfl (fun x hx => by go_simp; rfl) ?_
          go_simp
          refine sched_take 1 rfl (by kernel_rfl) (by kernel_rfl) (by kernel_rfl) (fun _ _ _ h => h) rfl (fun x hx => by go_simp; rfl) ?_
          go_simp
          refine sched_take 2 rfl (by kernel_rfl) (by kernel_rfl) (by kernel_rfl) (fun _ _ _ h => h) rfl (fun x hx => by go_simp; rfl) ?_
          go_simp
          refine sched_take 3 rfl (by kernel_rfl) (by kernel_rfl) (by kernel_rfl) (fun _ _ _ h => h) rfl (fun x hx => by obtain ⟨k1, k2, k3, k4⟩ := HCA.out _ hx; go_simp; rfl) ?_
          go_simp
          refine sched_take 4 rfl (by kernel_rfl) (by kernel_rfl) (by kernel_rfl) (fun _ _ _ h => h) rfl (fun x hx => by go_simp; rfl) ?_
          go_simp
          refine sched_take 5 rfl (by kernel_rfl) (by kernel_rfl) (by kernel_rfl) (fun _ _ _ h => h) rfl (fun x hx => by go_simp; rfl) ?_
          go_simp
          refine sched_take 6 rfl (by kernel_rfl) (by kernel_rfl) (by kernel_rfl) (fun _ _ _ h => h) rfl (fun x hx => by go_simp; rfl) ?_
          go_simp
          refine sched_take 7 rfl (by kernel_rfl) (by kernel_rfl) (by kernel_rfl) (fun _ _ _ h => h) rfl (fun x hx => by obtain ⟨k1, k2, k3, k4⟩ := HCB.out _ hx; go_simp; rfl) ?_
          go_simp
          refine sched_take 8 rfl (by kernel_rfl) (by kernel_rfl) (by kernel_rfl) (fun _ _ _ h => h) rfl (fun x hx => by go_simp; rfl) ?_
          go_simp
          refine sched_done (by kernel_rfl) ?_
          go_wp2_with fail
          go_roundw
          case measure => simp [intOf]; omega
          case rel => exact ⟨k + 1, by omega, by go_num, hn, Lib.hid hU.out.drew⟩
        · have hne := Lib.hid (ver_ne hxy)
          have hF := Lib.hid (show decide (l = l') = false from decide_eq_false (fun e => hxy (by have := HX.out; rw [e, HY.out] at this; exact (Option.some.inj this).symm)))
          clear hxy
          go_wp2_with fail
          refine sched_begin NoB (by kernel_rfl) ?_
          refine sched_take 0 rfl (by kernel_rfl) (by kernel_rfl) (by kernel_rfl) (fun _ _ _ h => h) rfl (fun x hx => by go_simp; rfl) ?_
          go_simp
          refine sched_take 1 rfl (by kernel_rfl) (by kernel_rfl) (by kernel_rfl) (fun _ _ _ h => h) rfl (fun x hx => by go_simp; rfl) ?_
          go_simp
          refine sched_take 2 rfl (by kernel_rfl) (by kernel_rfl) (by kernel_rfl) (fun _ _ _ h => h) rfl (fun x hx => by go_simp; rfl) ?_
          go_simp
          refine sched_take 3 rfl (by kernel_rfl) (by kernel_rfl) (by kernel_rfl) (fun _ _ _ h => h) rfl (fun x hx => by obtain ⟨k1, k2, k3, k4⟩ := HCA.out _ hx; go_simp; rfl) ?_
          go_simp
          refine sched_take 4 rfl (by kernel_rfl) (by kernel_rfl) (by kernel_rfl) (fun _ _ _ h => h) rfl (fun x hx => by go_simp; rfl) ?_
          go_simp
          refine sched_take 5 rfl (by kernel_rfl) (by kernel_rfl) (by kernel_rfl) (fun _ _ _ h => h) rfl (fun x hx => by go_simp; rfl) ?_
          go_simp
          refine sched_take 6 rfl (by kernel_rfl) (by kernel_rfl) (by kernel_rfl) (fun _ _ _ h => h) rfl (fun x hx => by go_simp; rfl) ?_
          go_simp
          refine sched_take 7 rfl (by kernel_rfl) (by kernel_rfl) (by kernel_rfl) (fun _ _ _ h => h) rfl (fun x hx => by obtain ⟨k1, k2, k3, k4⟩ := HCB.out _ hx; go_simp; rfl) ?_
          go_simp
          refine sched_take (v := .bool true) 8 rfl (by kernel_rfl) (by kernel_rfl) (by kernel_rfl) (fun _ _ _ h => h) rfl (fun x' hx => by go_simp; exact hne.out) ?_
          go_simp
          refine sched_done (by kernel_rfl) ?_
          go_wp2_with fail
          go_ret
          exact ⟨by rw [hF.out]; rfl, hU.out.drew⟩
      · have hT := Lib.hid (show decide (l = l') = true from decide_eq_true (List.ext_getElem? fun j => by
          by_cases e : j < k
          · exact hE.out j e
          · have := HLL.out
            rw [List.getElem?_eq_none (by omega), List.getElem?_eq_none (by omega)]))
        go_wp2_with fail
        go_ret
        exact ⟨by rw [hT.out]; rfl, hU.out⟩
  · have hllb : ((l.length : Int) != (l'.length : Int)) = true := by simp; omega
    have hF := Lib.hid (show decide (l = l') = false from decide_eq_false (fun e => hll (by rw [e])))
    clear hll
    go_enter Try.func53, Try.ntmps53
    go_wp2_with fail
    go_ret
    exact ⟨by rw [hF.out]; rfl, Upd.refl _ _⟩
set_option maxHeartbeats 2000000 in
set_option maxRecDepth 100000 in
theorem refsame_any {S T : Nat → Prop} (v v' : Value) (l l' : List Ver) (w : World) (h : RSl Rep.ver w S v l) (h' : RSl Rep.ver w T v' l') :
    Calls Try.prog 39 #[v, v'] w fun e w' => e = .returned (.bool (decide (l = l'))) ∧ Upd NoB w w' := by
  have H := Lib.hid h
  have H' := Lib.hid h'
  obtain ⟨A, c, cs, rfl, d1, d2, _⟩ := h
  obtain ⟨A', c', cs', rfl, d1', d2', _⟩ := h'
  have e2 : c ≤ 9223372036854775807 := d2
  have e2' : c' ≤ 9223372036854775807 := d2'
  by_cases hll : l.length = l'.length
  · have hllb : ((l.length : Int) != (l'.length : Int)) = false := by simp; omega
    have HLL := Lib.hid hll
    clear hll
    go_enter Try.func39, Try.ntmps39
    go_wp2_with fail
    go_loopw [5, 13] (fun x5 i wr => ∃ k : Nat, k ≤ l.length ∧ i = .int .i64 k ∧ Hid (∀ j, j < k → l[j]? = l'[j]?) ∧ Hid (Upd NoB w wr)) (fun _ i _ => l.length - (intOf i).toNat)
    case atStart => exact ⟨0, by omega, rfl, Lib.hid (fun j hj => by omega), Lib.hid (Upd.refl _ _)⟩
    case round =>
      obtain ⟨k, hk, rfl, hE, hU⟩ := hrel
      by_cases hlt : k < l.length
      · have hlt' : k < l'.length := by rw [← HLL.out]; exact hlt
        obtain ⟨ga, oa, ua, rfl, hua, hca, _⟩ := H.out.cellN k hlt
        obtain ⟨gb, ob, ub, rfl, hub, hcb, _⟩ := H'.out.cellN k hlt'
        obtain ⟨rfl, hxa⟩ := hua
        obtain ⟨rfl, hxb⟩ := hub
        have HX := Lib.hid (show l[k]? = some l[k] from List.getElem?_eq_getElem hlt)
        have HY := Lib.hid (show l'[k]? = some l'[k] from List.getElem?_eq_getElem hlt')
        generalize l[k] = x at *
        generalize l'[k] = y at *
        have HCA := Lib.hid (fun x' (hx : Upd NoB wr.drew x') => show x'.cell? ⟨ga, oa + k * 4, none⟩ = some (.int .i64 x.at_) ∧ x'.cell? ⟨ga, oa + k * 4 + 1, none⟩ = some (.int .u64 x.num) ∧ x'.cell? ⟨ga, oa + k * 4 + 2, none⟩ = some (.string x.val) ∧ x'.cell? ⟨ga, oa + k * 4 + 3, none⟩ = some (.bool x.gone) from
          have hu := hU.out.drew.trans hx
          ⟨hu.cell (hca 0 _ rfl) (fun h => h), hu.cell (hca 1 _ rfl) (fun h => h), hu.cell (hca 2 _ rfl) (fun h => h), hu.cell (hca 3 _ rfl) (fun h => h)⟩)
        have HCB := Lib.hid (fun x' (hx : Upd NoB wr.drew x') => show x'.cell? ⟨gb, ob + k * 4, none⟩ = some (.int .i64 y.at_) ∧ x'.cell? ⟨gb, ob + k * 4 + 1, none⟩ = some (.int .u64 y.num) ∧ x'.cell? ⟨gb, ob + k * 4 + 2, none⟩ = some (.string y.val) ∧ x'.cell? ⟨gb, ob + k * 4 + 3, none⟩ = some (.bool y.gone) from
          have hu := hU.out.drew.trans hx
          ⟨hu.cell (hcb 0 _ rfl) (fun h => h), hu.cell (hcb 1 _ rfl) (fun h => h), hu.cell (hcb 2 _ rfl) (fun h => h), hu.cell (hcb 3 _ rfl) (fun h => h)⟩)
        have m1 : (0 : Int) ≤ (k : Int) := by omega
        have m2 : (k : Int) < (l.length : Int) := by omega
        have m3 : (k : Int) < (l'.length : Int) := by omega
        clear hca hcb hxa hxb
        by_cases hxy : x = y
        · have hn : Hid (∀ j, j < k + 1 → l[j]? = l'[j]?) := Lib.hid (fun j hj => by
            by_cases e : j = k
            · rw [e, HX.out, HY.out, hxy]
            · exact hE.out j (by omega))
          subst hxy
          go_wp2_with fail
          refine sched_begin NoB (by kernel_rfl) ?_
          refine sched_take 0 rfl (by kernel_rfl) (by kernel_rfl) (by kernel_rfl) (fun _ _ _ h => h) rfl (fun x hx => by go_simp; rfl) ?_
          go_simp
          refine sched_take 1 rfl (by kernel_rfl) (by kernel_rfl) (by kernel_rfl) (fun _ _ _ h => h) rfl (fun x hx => by go_simp; rfl) ?_
          go_simp
          refine sched_take 2 rfl (by kernel_rfl) (by kernel_rfl) (by kernel_rfl) (fun _ _ _ h => h) rfl (fun x hx => by go_simp; rfl) ?_
          go_simp
          refine sched_take 3 rfl (by kernel_rfl) (by kernel_rfl) (by kernel_rfl) (fun _ _ _ h => h) rfl (fun x hx => by obtain ⟨k1, k2, k3, k4⟩ := HCA.out _ hx; go_simp; rfl) ?_
          go_simp
          refine sched_take 4 rfl (by kernel_rfl) (by kernel_rfl) (by kernel_rfl) (fun _ _ _ h => h) rfl (fun x hx => by go_simp; rfl) ?_
          go_simp
          refine sched_take 5 rfl (by kernel_rfl) (by kernel_rfl) (by kernel_rfl) (fun _ _ _ h => h) rfl (fun x hx => by go_simp; rfl) ?_
          go_simp
          refine sched_take 6 rfl (by kernel_rfl) (by kernel_rfl) (by kernel_rfl) (fun _ _ _ h => h) rfl (fun x hx => by go_simp; rfl) ?_
          go_simp
          refine sched_take 7 rfl (by kernel_rfl) (by kernel_rfl) (by kernel_rfl) (fun _ _ _ h => h) rfl (fun x hx => by obtain ⟨k1, k2, k3, k4⟩ := HCB.out _ hx; go_simp; rfl) ?_
          go_simp
          refine sched_take 8 rfl (by kernel_rfl) (by kernel_rfl) (by kernel_rfl) (fun _ _ _ h => h) rfl (fun x hx => by go_simp; rfl) ?_
          go_simp
          refine sched_done (by kernel_rfl) ?_
          go_wp2_with fail
          go_roundw
          case measure => simp [intOf]; omega
          case rel => exact ⟨k + 1, by omega, by go_num, hn, Lib.hid hU.out.drew⟩
        · have hne := Lib.hid (ver_ne hxy)
          have hF := Lib.hid (show decide (l = l') = false from decide_eq_false (fun e => hxy (by have := HX.out; rw [e, HY.out] at this; exact (Option.some.inj this).symm)))
          clear hxy
          go_wp2_with fail
          refine sched_begin NoB (by kernel_rfl) ?_
          refine sched_take 0 rfl (by kernel_rfl) (by kernel_rfl) (by kernel_rfl) (fun _ _ _ h => h) rfl (fun x hx => by go_simp; rfl) ?_
          go_simp
          refine sched_take 1 rfl (by kernel_rfl) (by kernel_rfl) (by kernel_rfl) (fun _ _ _ h => h) rfl (fun x hx => by go_simp; rfl) ?_
          go_simp
          refine sched_take 2 rfl (by kernel_rfl) (by kernel_rfl) (by kernel_rfl) (fun _ _ _ h => h) rfl (fun x hx => by go_simp; rfl) ?_
          go_simp
          refine sched_take 3 rfl (by kernel_rfl) (by kernel_rfl) (by kernel_rfl) (fun _ _ _ h => h) rfl (fun x hx => by obtain ⟨k1, k2, k3, k4⟩ := HCA.out _ hx; go_simp; rfl) ?_
          go_simp
          refine sched_take 4 rfl (by kernel_rfl) (by kernel_rfl) (by kernel_rfl) (fun _ _ _ h => h) rfl (fun x hx => by go_simp; rfl) ?_
          go_simp
          refine sched_take 5 rfl (by kernel_rfl) (by kernel_rfl) (by kernel_rfl) (fun _ _ _ h => h) rfl (fun x hx => by go_simp; rfl) ?_
          go_simp
          refine sched_take 6 rfl (by kernel_rfl) (by kernel_rfl) (by kernel_rfl) (fun _ _ _ h => h) rfl (fun x hx => by go_simp; rfl) ?_
          go_simp
          refine sched_take 7 rfl (by kernel_rfl) (by kernel_rfl) (by kernel_rfl) (fun _ _ _ h => h) rfl (fun x hx => by obtain ⟨k1, k2, k3, k4⟩ := HCB.out _ hx; go_simp; rfl) ?_
          go_simp
          refine sched_take (v := .bool true) 8 rfl (by kernel_rfl) (by kernel_rfl) (by kernel_rfl) (fun _ _ _ h => h) rfl (fun x' hx => by go_simp; exact hne.out) ?_
          go_simp
          refine sched_done (by kernel_rfl) ?_
          go_wp2_with fail
          go_ret
          exact ⟨by rw [hF.out]; rfl, hU.out.drew⟩
      · have hT := Lib.hid (show decide (l = l') = true from decide_eq_true (List.ext_getElem? fun j => by
          by_cases e : j < k
          · exact hE.out j e
          · have := HLL.out
            rw [List.getElem?_eq_none (by omega), List.getElem?_eq_none (by omega)]))
        go_wp2_with fail
        go_ret
        exact ⟨by rw [hT.out]; rfl, hU.out⟩
  · have hllb : ((l.length : Int) != (l'.length : Int)) = true := by simp; omega
    have hF := Lib.hid (show decide (l = l') = false from decide_eq_false (fun e => hll (by rw [e])))
    clear hll
    go_enter Try.func39, Try.ntmps39
    go_wp2_with fail
    go_ret
    exact ⟨by rw [hF.out]; rfl, Upd.refl _ _⟩
end Go.Proofs.Ytcckljomjpfdaaa
