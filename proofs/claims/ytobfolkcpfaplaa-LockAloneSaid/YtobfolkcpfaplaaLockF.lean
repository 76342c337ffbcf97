/- Keys that are not too many, nor too long (few). -/
import Derived.Test.YtobfolkcpfaplaaLockR4
namespace Go.Proofs.Ytobfolkcpfaplaa
open Go.RowKit Kit
set_option linter.unusedVariables false

/-- A key's first 40 bytes. -/
def cut40 (s : ByteArray) : ByteArray := if 40 < s.size then s.extract 0 40 else s
def fewL (l : List ByteArray) : List ByteArray := (l.take 6).map cut40
theorem cut40_le (s : ByteArray) : (cut40 s).size ≤ 40 := by
  unfold cut40
  split
  · rw [ByteArray.size_extract]; omega
  · omega
theorem fewL_len (l : List ByteArray) : (fewL l).length ≤ 6 := by unfold fewL; simp; omega
set_option maxHeartbeats 4000000 in
set_option maxRecDepth 100000 in
theorem few_any {S : Nat → Prop} (v : Value) (l : List ByteArray) (w : World) (h : RSlW Rep.str w S v l) :
    Calls Try.prog 13 #[v] w fun e w' => ∃ v', e = .returned v' ∧ Mine Rep.str 9 w w' v' (fewL l) := by
  have HX := Lib.hid h
  obtain ⟨A, c, rfl, d1, d2⟩ := h.shape
  have d2' : c ≤ 9223372036854775807 := d2
  go_enter Try.func13, Try.ntmps13
  go_wp2_with fail
  go_loopw [3, 4, 5, 8] (fun x3 x4 x5 i wr => ∃ k : Nat, k ≤ l.length ∧ k ≤ 6 ∧ i = .int .i64 k ∧ Hid (Mine Rep.str 9 w wr x3 (fewL (l.take k)))) (fun _ _ _ i _ => l.length - (intOf i).toNat)
  case atStart => exact ⟨0, by omega, by omega, rfl, Lib.hid (Mine.nil w (Upd.refl _ _))⟩
  case round =>
    obtain ⟨k, hk, hk6, rfl, hM⟩ := hrel
    by_cases hlt : k < l.length
    · obtain ⟨g, o, u, rfl, hu, hcell, hg⟩ := HX.out.cell1 rfl k hlt
      obtain ⟨hu1, hu2⟩ := hu
      cases hu1
      have c0 := hM.out.2.cell hcell (fun h => h)
      have hx := Lib.hid (show l[k]? = some l[k] from List.getElem?_eq_getElem hlt)
      have hu2' : l[k].size ≤ 9223372036854775807 := hu2
      generalize l[k] = x at *
      clear hcell
      by_cases h6 : 6 ≤ k
      · obtain rfl : k = 6 := by omega
        have hend := Lib.hid (show fewL (l.take 6) = fewL l by unfold fewL; rw [List.take_take]; rfl)
        clear h6
        go_wp2_with fail
        go_ret
        exact ⟨_, rfl, by rw [← hend.out]; exact hM.out⟩
      · have h6d : decide ((6 : Int) ≤ (k : Int)) = false := decide_eq_false (by omega)
        have hI6 : ¬ (6 : Int) ≤ (k : Int) := by omega
        have hM2 := hM
        have HO := Lib.hid hM2.out.1
        have HB := Lib.hid hM2.out.bd
        have hall : ((fewL (l.take k)).length + 1) * 16 ≤ 140737488355328 := by have := fewL_len (l.take k); omega
        have hsuc := Lib.hid (show fewL (l.take (k + 1)) = fewL (l.take k) ++ [cut40 x] by
          unfold fewL
          rw [List.take_take, List.take_take, show min 6 (k + 1) = k + 1 by omega, show min 6 k = k by omega, List.take_add_one, hx.out]
          simp)
        by_cases h40 : 40 < x.size
        · have hI40 : (40 : Int) < (x.size : Int) := by omega
          have hcut : cut40 x = x.extract 0 40 := by unfold cut40; rw [if_pos h40]
          have hy := Lib.hid (show Rep.str.rep wr NoB (cut40 x) #[.string (x.extract 0 40)].toList from ⟨by rw [hcut], by have := cut40_le x; simp only [maxLen]; omega⟩)
          clear h40 hcut
          go_wp2_with (at_builtin; go_must (refine app_one (r := Rep.str) (y := cut40 x) rfl _ _ 32 9 (.string ⟨#[]⟩) 16 rfl Try.underlying32 iStr rfl (by decide) rfl rfl HO.out HB.out hy.out (fun b hb => hb.elim) hall ?_))
          intro v1 w3 ho3 hu3
          have fin := Lib.hid (show Mine Rep.str 9 w w3 v1 (fewL (l.take (k + 1))) by rw [hsuc.out]; exact hM2.out.app ho3 hu3)
          clear ho3 hu3
          go_wp2_with fail
          go_roundw
          case measure => simp [intOf]; omega
          case rel => exact ⟨k + 1, by omega, by omega, by go_num, fin⟩
        · have hI40 : ¬ (40 : Int) < (x.size : Int) := by omega
          have hcut : cut40 x = x := by unfold cut40; rw [if_neg h40]
          have hy := Lib.hid (show Rep.str.rep wr NoB (cut40 x) #[.string x].toList from ⟨by rw [hcut], by have := cut40_le x; simp only [maxLen]; omega⟩)
          clear h40 hcut
          go_wp2_with (at_builtin; go_must (refine app_one (r := Rep.str) (y := cut40 x) rfl _ _ 32 9 (.string ⟨#[]⟩) 16 rfl Try.underlying32 iStr rfl (by decide) rfl rfl HO.out HB.out hy.out (fun b hb => hb.elim) hall ?_))
          intro v1 w3 ho3 hu3
          have fin := Lib.hid (show Mine Rep.str 9 w w3 v1 (fewL (l.take (k + 1))) by rw [hsuc.out]; exact hM2.out.app ho3 hu3)
          clear ho3 hu3
          go_wp2_with fail
          go_roundw
          case measure => simp [intOf]; omega
          case rel => exact ⟨k + 1, by omega, by omega, by go_num, fin⟩
    · obtain rfl : k = l.length := by omega
      rw [List.take_length] at hM
      go_wp2_with fail
      go_ret
      exact ⟨_, rfl, hM.out⟩
end Go.Proofs.Ytobfolkcpfaplaa
