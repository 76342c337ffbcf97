/- Entries of a log, any: the keys of what is read and written; is each there once; may all be written? -/
import Derived.Test.YtobfolkcpfaplaaEnt5
import Derived.StringKeys
namespace Go.Proofs.Ytobfolkcpfaplaa
open Go.RowKit Kit
set_option linter.unusedVariables false
theorem iStr9 : (Try.prog.info? 9).map (fun i => (i.zero, i.size, i.bytes)) = some (some (.string ⟨#[]⟩), 1, 16) := by kernel_rfl
set_option maxHeartbeats 4000000 in
set_option maxRecDepth 100000 in
theorem readkeys_any {S : Nat → Prop} (tc tq : Int) (pl : Bool) (rd : List Rd) (wt : List Wt) (A B : Option Addr) (c d : Nat) (w : World) (h1 : RSl Rep.rd w S (.slice A rd.length c) rd) (h2 : RSl Rep.wt w S (.slice B wt.length d) wt) (hn : rd.length ≤ 100000) :
    Calls Try.prog 89 #[.agg #[.int .i64 tc, .int .u64 tq, .bool pl, .slice A rd.length c, .slice B wt.length d]] w fun e w' => ∃ v', e = .returned v' ∧ Mine Rep.str 9 w w' v' (rd.map fun x => x.key) := by
  have HX := Lib.hid h1
  clear h1 h2
  have H0 := Lib.hid (fun o => show Mine Rep.str 9 w (w.alloc o) (.slice none 0 0) [] from Mine.nil w ((Upd.refl _ _).alloc _))
  go_enter Try.func89, Try.ntmps89
  go_wp2_with fail
  go_loopw [3, 9] (fun x3 x9 wr => ∃ k : Nat, k ≤ rd.length ∧ x9 = .int .i64 k ∧ Hid (Mine Rep.str 9 w wr x3 ((rd.map fun x => x.key).take k))) (fun _ x9 _ => rd.length - (intOf x9).toNat)
  case atStart => exact ⟨0, by omega, rfl, Lib.hid (by simpa using (H0.out _))⟩
  case round =>
    clear H0
    obtain ⟨k, hk, rfl, hM⟩ := hrel
    by_cases hlt : k < rd.length
    · obtain ⟨g, o, rcs, rfl, hrep, hcs, _⟩ := HX.out.cellN k hlt
      have hr1 := hrep.1
      have hr2 := hrep.2
      subst hr1
      have hu := hM.out.2
      have c0 : wr.cell? ⟨g, o + k * 2, none⟩ = some (.string rd[k].key) := hu.cell (hcs 0 _ rfl) (fun h => h); have c1 : wr.cell? ⟨g, o + k * 2 + 1, none⟩ = some (.int .u64 rd[k].num) := hu.cell (hcs 1 _ rfl) (fun h => h)
      have hq := Lib.hid (show (rd.map fun x => x.key).take (k + 1) = (rd.map fun x => x.key).take k ++ [rd[k].key] from by
        rw [List.take_succ_eq_append_getElem (by rw [List.length_map]; omega), List.getElem_map])
      have hall : (((rd.map fun x => x.key).take k).length + 1) * 16 ≤ 140737488355328 := by rw [List.length_take, List.length_map]; omega
      generalize rd[k] = x at *
      generalize (rd.map fun x => x.key).take k = LL at *
      obtain ⟨wa, hwa⟩ : ∃ wa, wr.alloc (.cells #[.string x.key, .int .u64 x.num] 128) = wa := ⟨_, rfl⟩
      have hua : Upd NoB wr wa := by rw [← hwa]; exact (Upd.refl _ _).alloc _
      have hBa : wa.heap[wr.heap.size]? = some (.cells #[.string x.key, .int .u64 x.num] 128 (0, 0)) := by rw [← hwa]; exact heap_alloc_new _ _
      have e0 : wa.cell? ⟨wr.heap.size, 0, none⟩ = some (.string x.key) := by simp [World.cell?, hBa]
      have hM2 := Lib.hid (hM.out.upd hua)
      have HO := Lib.hid hM2.out.1
      have HB := Lib.hid hM2.out.bd
      have hy := Lib.hid (show Rep.str.rep wa NoB x.key #[.string x.key].toList from ⟨rfl, hr2⟩)
      clear hu hua hBa hrep hr2 hcs
      go_wp2_with (at_builtin; go_must (refine app_one (r := Rep.str) (y := x.key) rfl _ _ 32 9 (.string ⟨#[]⟩) 16 rfl Try.underlying32 iStr9 rfl (by decide) rfl rfl HO.out HB.out hy.out (fun b hb => hb.elim) hall ?_))
      intro v1 w3 ho2 hu2
      have fin := Lib.hid (hM2.out.app ho2 hu2)
      clear ho2 hu2
      go_wp2_with fail
      go_roundw
      case measure => simp [intOf]; omega
      case rel => exact ⟨k + 1, by omega, by go_num, Lib.hid (by rw [hq.out]; exact fin.out)⟩
    · obtain rfl : k = rd.length := by omega
      have fin := Lib.hid (show Mine Rep.str 9 w wr u3 (rd.map fun x => x.key) by
        have := hM.out
        rwa [List.take_of_length_le (by rw [List.length_map]; omega)] at this)
      go_wp2_with fail
      go_ret
      exact ⟨_, rfl, fin.out⟩
set_option maxHeartbeats 4000000 in
set_option maxRecDepth 100000 in
theorem writekeys_any {S : Nat → Prop} (tc tq : Int) (pl : Bool) (rd : List Rd) (wt : List Wt) (A B : Option Addr) (c d : Nat) (w : World) (h1 : RSl Rep.rd w S (.slice A rd.length c) rd) (h2 : RSl Rep.wt w S (.slice B wt.length d) wt) (hn : wt.length ≤ 100000) :
    Calls Try.prog 90 #[.agg #[.int .i64 tc, .int .u64 tq, .bool pl, .slice A rd.length c, .slice B wt.length d]] w fun e w' => ∃ v', e = .returned v' ∧ Mine Rep.str 9 w w' v' (wt.map fun x => x.key) := by
  have HX := Lib.hid h2
  clear h1 h2
  have H0 := Lib.hid (fun o => show Mine Rep.str 9 w (w.alloc o) (.slice none 0 0) [] from Mine.nil w ((Upd.refl _ _).alloc _))
  go_enter Try.func90, Try.ntmps90
  go_wp2_with fail
  go_loopw [3, 9] (fun x3 x9 wr => ∃ k : Nat, k ≤ wt.length ∧ x9 = .int .i64 k ∧ Hid (Mine Rep.str 9 w wr x3 ((wt.map fun x => x.key).take k))) (fun _ x9 _ => wt.length - (intOf x9).toNat)
  case atStart => exact ⟨0, by omega, rfl, Lib.hid (by simpa using (H0.out _))⟩
  case round =>
    clear H0
    obtain ⟨k, hk, rfl, hM⟩ := hrel
    by_cases hlt : k < wt.length
    · obtain ⟨g, o, rcs, rfl, hrep, hcs, _⟩ := HX.out.cellN k hlt
      have hr1 := hrep.1
      have hr2 := hrep.2
      subst hr1
      have hu := hM.out.2
      have c0 : wr.cell? ⟨g, o + k * 3, none⟩ = some (.string wt[k].key) := hu.cell (hcs 0 _ rfl) (fun h => h); have c1 : wr.cell? ⟨g, o + k * 3 + 1, none⟩ = some (.string wt[k].val) := hu.cell (hcs 1 _ rfl) (fun h => h); have c2 : wr.cell? ⟨g, o + k * 3 + 2, none⟩ = some (.bool wt[k].gone) := hu.cell (hcs 2 _ rfl) (fun h => h)
      have hq := Lib.hid (show (wt.map fun x => x.key).take (k + 1) = (wt.map fun x => x.key).take k ++ [wt[k].key] from by
        rw [List.take_succ_eq_append_getElem (by rw [List.length_map]; omega), List.getElem_map])
      have hall : (((wt.map fun x => x.key).take k).length + 1) * 16 ≤ 140737488355328 := by rw [List.length_take, List.length_map]; omega
      generalize wt[k] = x at *
      generalize (wt.map fun x => x.key).take k = LL at *
      obtain ⟨wa, hwa⟩ : ∃ wa, wr.alloc (.cells #[.string x.key, .string x.val, .bool x.gone] 131) = wa := ⟨_, rfl⟩
      have hua : Upd NoB wr wa := by rw [← hwa]; exact (Upd.refl _ _).alloc _
      have hBa : wa.heap[wr.heap.size]? = some (.cells #[.string x.key, .string x.val, .bool x.gone] 131 (0, 0)) := by rw [← hwa]; exact heap_alloc_new _ _
      have e0 : wa.cell? ⟨wr.heap.size, 0, none⟩ = some (.string x.key) := by simp [World.cell?, hBa]
      have hM2 := Lib.hid (hM.out.upd hua)
      have HO := Lib.hid hM2.out.1
      have HB := Lib.hid hM2.out.bd
      have hy := Lib.hid (show Rep.str.rep wa NoB x.key #[.string x.key].toList from ⟨rfl, hr2.1⟩)
      clear hu hua hBa hrep hr2 hcs
      go_wp2_with (at_builtin; go_must (refine app_one (r := Rep.str) (y := x.key) rfl _ _ 32 9 (.string ⟨#[]⟩) 16 rfl Try.underlying32 iStr9 rfl (by decide) rfl rfl HO.out HB.out hy.out (fun b hb => hb.elim) hall ?_))
      intro v1 w3 ho2 hu2
      have fin := Lib.hid (hM2.out.app ho2 hu2)
      clear ho2 hu2
      go_wp2_with fail
      go_roundw
      case measure => simp [intOf]; omega
      case rel => exact ⟨k + 1, by omega, by go_num, Lib.hid (by rw [hq.out]; exact fin.out)⟩
    · obtain rfl : k = wt.length := by omega
      have fin := Lib.hid (show Mine Rep.str 9 w wr u3 (wt.map fun x => x.key) by
        have := hM.out
        rwa [List.take_of_length_le (by rw [List.length_map]; omega)] at this)
      go_wp2_with fail
      go_ret
      exact ⟨_, rfl, fin.out⟩
/-! ### How often a key has been seen -/
/-- At block b lies a map of at most n keys: what it has of each. -/
def Seen (w : World) (b n : Nat) (f : ByteArray → Int) : Prop :=
  ∃ D : DataW Unit, w.ownsMap Try.prog 9 (plainElem Try.prog 3) b n D ∧ ∀ s : ByteArray, s.size ≤ maxLen → D.atKey (.string s.data.toList) (.lit (.int .i64 0)) = .lit (.int .i64 (f s))
theorem kStr : Maps.Keyed Try.prog 9 := Maps.string_keyed Try.underlying9
theorem keyStr {s : ByteArray} (h : s.size ≤ maxLen) : keyOf Try.prog 9 (.string s) = some (.string s.data.toList) := Go.WideMaps.keyOf_string_mk Try.underlying9 h
theorem zero_int (w : World) : (zeroValue 3).run Try.prog w = .ok (.int .i64 0) w := by kernel_rfl
section
variable {w : World} {b n : Nat} {f : ByteArray → Int}
theorem Seen.new (w : World) : Seen (w.alloc (.map #[] 0)) w.heap.size 0 (fun _ => 0) := ⟨_, World.ownsMap_made w _ _ _, fun _ _ => rfl⟩
theorem Seen.keep {F : Nat → Prop} {w' : World} (h : Seen w b n f) (u : Upd F w w') (hb : ¬ F b) : Seen w' b n f := by
  obtain ⟨D, ⟨es, clock, h2, h3⟩, h4⟩ := h
  exact ⟨D, ⟨es, clock, u.heap h2 hb, h3⟩, h4⟩
theorem Seen.look (h : Seen w b n f) {s : ByteArray} (hs : s.size ≤ maxLen) : (Instr.lookup 147 (.map (some b)) (.string s) false).run Try.prog w = .ok (.int .i64 (f s)) w := by
  obtain ⟨D, h1, h2⟩ := h
  obtain ⟨c, hr, ha, _⟩ := h1.lookup_int kStr Try.underlying147 Try.underlying3 (zero_int w) (keyStr hs)
  rw [h2 s hs] at ha
  simp only [DataW.lit.injEq, Lit.int.injEq, true_and] at ha
  rw [hr, ha]
theorem str_data_inj {a b : ByteArray} (h : a.data.toList = b.data.toList) : a = b := by
  cases a; cases b
  simp only at h
  rw [Array.toList_inj.1 h]
theorem Seen.put (h : Seen w b n f) {s : ByteArray} (hs : s.size ≤ maxLen) (hn : n < 1000000) {v : Int} (hv : (Lit.int .i64 v).wf = true) :
    ∃ w', (Instr.mapUpdate 147 (.map (some b)) (.string s) (.int .i64 v)).run Try.prog w = .ok () w' ∧ Seen w' b (n + 1) (fun x => if x = s then v else f x) ∧ Upd (fun x => x = b) w w' := by
  obtain ⟨D, h1, h2⟩ := h
  obtain ⟨w', hr, ho, hg⟩ := h1.update kStr Try.underlying147 (by simp only [maxLen]; omega) (keyStr hs) (plainElem_int Try.underlying3 hv)
  refine ⟨w', hr, ⟨_, ho, fun x hx => ?_⟩, Upd.of_grown hg (fun k hk => (Option.some.inj hk).symm)⟩
  have hk : WideAt.IsKeyLit (.string s.data.toList) := trivial
  by_cases e : x = s
  · subst e
    rw [Maps.atKey_put_same h1.isMap hk]
    simp
  · rw [Maps.atKey_put_other (fun e' => e (str_data_inj (Lit.string.inj e'))), h2 x hx]
    simp [e]
end
end Go.Proofs.Ytobfolkcpfaplaa
