/- Bytes: slices.Clone, slices.Equal. -/
import Derived.Test.YtcckljomjpfdaaaProg
import Derived.Test.YtcckljomjpfdaaaMine
import Derived.Test.YtcckljomjpfdaaaSched
import Derived.Lib.Hide
import Derived.ProofKit
namespace Go.Proofs.Ytcckljomjpfdaaa
open Go.RowKit Kit
set_option linter.unusedVariables false

theorem i5 : (Try.prog.info? 5).map (fun i => (i.zero, i.size, i.bytes)) = some (some (.int .u8 0), 1, 1) := by kernel_rfl
set_option maxHeartbeats 1000000 in
set_option maxRecDepth 100000 in
/-- slices.Clone of what is read: a row of its own. -/
theorem clone_any {S : Nat → Prop} (v : Value) (l : List UInt8) (w : World) (h : RSl Rep.byte w S v l) (hl : l.length * 1 ≤ 140737488355328) :
    Calls Try.prog 47 #[v] w fun e w' => ∃ v', e = .returned v' ∧ Mine Rep.byte 5 w w' v' l := by
  obtain ⟨A, c, cs, rfl, h1, h2, h3, h4, h5⟩ := id h
  cases A with
  | none =>
    obtain rfl : c = 0 := h4 rfl
    obtain rfl : l = [] := List.eq_nil_of_length_eq_zero (by omega)
    have hnil := fun w => Lib.run_eql_slice_nil (P := Try.prog) w 29 5 none 0 0 0 0 Try.underlying29
    have fin := Lib.hid (show Mine Rep.byte 5 w w (.slice none 0 0) [] from Mine.nil _ (Upd.refl _ _))
    clear h h3 h5
    go_enter Try.func47, Try.ntmps47
    go_wp2_with fail
    go_ret
    exact ⟨_, rfl, fin.out⟩
  | some a =>
    have hnil := fun w => Lib.run_eql_slice_nil (P := Try.prog) w 29 5 (some a) l.length c 0 0 Try.underlying29
    have hs : S a.block := (h5 a rfl).2.1
    have u0 : Upd NoB w (w.alloc (.cells #[] 5)) := (Upd.refl NoB w).alloc _
    have H := Lib.hid (h.upd u0 (fun b _ hf => hf))
    have H0 := Lib.hid (show Mine Rep.byte 5 w (w.alloc (.cells #[] 5)) (.slice (some ⟨w.heap.size, 0, none⟩) 0 0) [] from
      ⟨OSl.made (r := Rep.byte) (e := 5) (w := w) (S := grow NoB w (w.alloc (.cells #[] 5))) #[] 0 (by simp) (by decide) ⟨.inr (Nat.le_refl _), by simp⟩, u0⟩)
    have HB := Lib.hid H0.out.bd
    have HO := Lib.hid H0.out.1
    clear h h3 h5 h4
    go_enter Try.func47, Try.ntmps47
    go_wp2_with (at_builtin; go_must (refine app_all (r := Rep.byte) rfl _ _ 29 5 (.int .u8 0) 1 rfl Try.underlying29 i5 rfl (by decide) rfl rfl HO.out HB.out H.out (fun cs hc => Rows.flat flat_byte hc _ _) ?_ ?_))
    · simpa using hl
    · intro v1 w1 ho hu
      have fin := Lib.hid (H0.out.app ho hu)
      clear ho hu
      go_wp2_with fail
      go_ret
      exact ⟨_, rfl, by simpa using fin.out⟩

set_option maxHeartbeats 1000000 in
set_option maxRecDepth 100000 in
theorem equal_any {S T : Nat → Prop} (v v' : Value) (l l' : List UInt8) (w : World) (h : RSl Rep.byte w S v l) (h' : RSl Rep.byte w T v' l') :
    Calls Try.prog 48 #[v, v'] w fun e w' => e = .returned (.bool (decide (l = l'))) ∧ Upd NoB w w' := by
  have H := Lib.hid h
  have H' := Lib.hid h'
  obtain ⟨A, c, cs, rfl, d1, d2, _⟩ := h
  obtain ⟨A', c', cs', rfl, d1', d2', _⟩ := h'
  have e2 : c ≤ 9223372036854775807 := d2
  have e2' : c' ≤ 9223372036854775807 := d2'
  by_cases hll : l.length = l'.length
  · have hllb : ((l.length : Int) != (l'.length : Int)) = false := by simp; omega
    have HLL := Lib.hid hll
    clear hll
    go_enter Try.func48, Try.ntmps48
    go_wp2_with fail
    go_loopw [5, 13] (fun x5 i wr => ∃ k : Nat, k ≤ l.length ∧ i = .int .i64 k ∧ Hid (∀ j, j < k → l[j]? = l'[j]?) ∧ Hid (Upd NoB w wr)) (fun _ i _ => l.length - (intOf i).toNat)
    case atStart => exact ⟨0, by omega, rfl, Lib.hid (fun j hj => by omega), Lib.hid (Upd.refl _ _)⟩
    case round =>
      obtain ⟨k, hk, rfl, hE, hU⟩ := hrel
      by_cases hlt : k < l.length
      · have hlt' : k < l'.length := by rw [← HLL.out]; exact hlt
        obtain ⟨ga, oa, ua, rfl, hua, hca, _⟩ := H.out.cell1 rfl k hlt
        obtain ⟨gb, ob, ub, rfl, hub, hcb, _⟩ := H'.out.cell1 rfl k hlt'
        obtain rfl := (List.cons.inj hua).1
        obtain rfl := (List.cons.inj hub).1
        have HCA := Lib.hid (hU.out.drew.cell hca (fun h => h))
        have HCB := Lib.hid (hU.out.drew.cell hcb (fun h => h))
        have m1 : (0 : Int) ≤ (k : Int) := by omega
        have m2 : (k : Int) < (l.length : Int) := by omega
        have m3 : (k : Int) < (l'.length : Int) := by omega
        have HX := Lib.hid (show l[k]? = some l[k] from List.getElem?_eq_getElem hlt)
        have HY := Lib.hid (show l'[k]? = some l'[k] from List.getElem?_eq_getElem hlt')
        generalize l[k] = x at *
        generalize l'[k] = y at *
        clear hua hub hca hcb
        by_cases hxy : x = y
        · have hb : ((x.toNat : Int) != (y.toNat : Int)) = false := by rw [hxy]; simp
          have hn : Hid (∀ j, j < k + 1 → l[j]? = l'[j]?) := Lib.hid (fun j hj => by
            by_cases e : j = k
            · rw [e, HX.out, HY.out, hxy]
            · exact hE.out j (by omega))
          clear hxy
          go_wp2_with fail
          refine sched_begin NoB (by kernel_rfl) ?_
          refine sched_take 0 rfl (by kernel_rfl) (by kernel_rfl) (by kernel_rfl) (fun _ _ _ h => h) rfl (fun x hx => by go_simp; rfl) ?_
          go_simp
          refine sched_take 1 rfl (by kernel_rfl) (by kernel_rfl) (by kernel_rfl) (fun _ _ _ h => h) rfl (fun x hx => by go_simp; rfl) ?_
          go_simp
          refine sched_take 2 rfl (by kernel_rfl) (by kernel_rfl) (by kernel_rfl) (fun _ _ _ h => h) rfl (fun x hx => by go_simp; rfl) ?_
          go_simp
          refine sched_take 3 rfl (by kernel_rfl) (by kernel_rfl) (by kernel_rfl) (fun _ _ _ h => h) rfl (fun x hx => by have hcx := hx.cell HCA.out (fun h => h); go_simp; rfl) ?_
          go_simp
          refine sched_take 4 rfl (by kernel_rfl) (by kernel_rfl) (by kernel_rfl) (fun _ _ _ h => h) rfl (fun x hx => by go_simp; rfl) ?_
          go_simp
          refine sched_take 5 rfl (by kernel_rfl) (by kernel_rfl) (by kernel_rfl) (fun _ _ _ h => h) rfl (fun x hx => by go_simp; rfl) ?_
          go_simp
          refine sched_take 6 rfl (by kernel_rfl) (by kernel_rfl) (by kernel_rfl) (fun _ _ _ h => h) rfl (fun x hx => by go_simp; rfl) ?_
          go_simp
          refine sched_take 7 rfl (by kernel_rfl) (by kernel_rfl) (by kernel_rfl) (fun _ _ _ h => h) rfl (fun x hx => by have hcx := hx.cell HCB.out (fun h => h); go_simp; rfl) ?_
          go_simp
          refine sched_take 8 rfl (by kernel_rfl) (by kernel_rfl) (by kernel_rfl) (fun _ _ _ h => h) rfl (fun x hx => by go_simp; rfl) ?_
          go_simp
          refine sched_done (by kernel_rfl) ?_
          go_wp2_with fail
          go_roundw
          case measure => simp [intOf]; omega
          case rel => exact ⟨k + 1, by omega, by go_num, hn, Lib.hid hU.out.drew⟩
        · have hb : ((x.toNat : Int) != (y.toNat : Int)) = true := by
            simp only [bne_iff_ne]
            intro e
            exact hxy (UInt8.toNat_inj.1 (by omega))
          have hF := Lib.hid (show decide (l = l') = false from decide_eq_false (fun e => hxy (by have := HX.out; rw [e, HY.out] at this; exact (Option.some.inj this).symm)))
          clear hxy
          go_wp2_with fail
          refine sched_begin NoB (by kernel_rfl) ?_
          refine sched_take 0 rfl (by kernel_rfl) (by kernel_rfl) (by kernel_rfl) (fun _ _ _ h => h) rfl (fun x hx => by go_simp; rfl) ?_
          go_simp
          refine sched_take 1 rfl (by kernel_rfl) (by kernel_rfl) (by kernel_rfl) (fun _ _ _ h => h) rfl (fun x hx => by go_simp; rfl) ?_
          go_simp
          refine sched_take 2 rfl (by kernel_rfl) (by kernel_rfl) (by kernel_rfl) (fun _ _ _ h => h) rfl (fun x hx => by go_simp; rfl) ?_
          go_simp
          refine sched_take 3 rfl (by kernel_rfl) (by kernel_rfl) (by kernel_rfl) (fun _ _ _ h => h) rfl (fun x hx => by have hcx := hx.cell HCA.out (fun h => h); go_simp; rfl) ?_
          go_simp
          refine sched_take 4 rfl (by kernel_rfl) (by kernel_rfl) (by kernel_rfl) (fun _ _ _ h => h) rfl (fun x hx => by go_simp; rfl) ?_
          go_simp
          refine sched_take 5 rfl (by kernel_rfl) (by kernel_rfl) (by kernel_rfl) (fun _ _ _ h => h) rfl (fun x hx => by go_simp; rfl) ?_
          go_simp
          refine sched_take 6 rfl (by kernel_rfl) (by kernel_rfl) (by kernel_rfl) (fun _ _ _ h => h) rfl (fun x hx => by go_simp; rfl) ?_
          go_simp
          refine sched_take 7 rfl (by kernel_rfl) (by kernel_rfl) (by kernel_rfl) (fun _ _ _ h => h) rfl (fun x hx => by have hcx := hx.cell HCB.out (fun h => h); go_simp; rfl) ?_
          go_simp
          refine sched_take 8 rfl (by kernel_rfl) (by kernel_rfl) (by kernel_rfl) (fun _ _ _ h => h) rfl (fun x hx => by go_simp; rfl) ?_
          go_simp
          refine sched_done (by kernel_rfl) ?_
          go_wp2_with fail
          go_ret
          exact ⟨by rw [hF.out]; rfl, hU.out.drew⟩
      · have hT := Lib.hid (show decide (l = l') = true from decide_eq_true (List.ext_getElem? fun j => by
          by_cases e : j < k
          · exact hE.out j e
          · have := HLL.out
            rw [List.getElem?_eq_none (by omega), List.getElem?_eq_none (by omega)]))
        go_wp2_with fail
        go_ret
        exact ⟨by rw [hT.out]; rfl, hU.out⟩
  · have hllb : ((l.length : Int) != (l'.length : Int)) = true := by simp; omega
    have hF := Lib.hid (show decide (l = l') = false from decide_eq_false (fun e => hll (by rw [e])))
    clear hll
    go_enter Try.func48, Try.ntmps48
    go_wp2_with fail
    go_ret
    exact ⟨by rw [hF.out]; rfl, Upd.refl _ _⟩
end Go.Proofs.Ytcckljomjpfdaaa
