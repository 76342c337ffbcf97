/- The shards of keys: the functions' walks. -/
import Derived.Test.YtcckljomjpfdaaaKeysNum
import Derived.Test.YtcckljomjpfdaaaMine
import Derived.Laws.Rows
import Derived.Deep.DeepFit
namespace Go.Proofs.Ytcckljomjpfdaaa
open Go.RowKit Kit
set_option linter.unusedVariables false

theorem i3 : (Try.prog.info? 3).map (fun i => (i.zero, i.size, i.bytes)) = some (some (.int .i64 0), 1, 8) := by kernel_rfl
/-- A key's shard. -/
def shd (s : ByteArray) (n : Int) : Nat := ((hsh s s.size : Int) % clip n).toNat
theorem shd_eq (s : ByteArray) (n : Int) : (hsh s s.size : Int) % clip n = (shd s n : Int) := by
  have := clip_range n
  have : 0 ≤ (hsh s s.size : Int) % clip n := Int.emod_nonneg _ (by omega)
  unfold shd
  omega
theorem shd_lt (s : ByteArray) (n : Int) : shd s n < 4 := by
  have := clip_range n
  have h1 : (hsh s s.size : Int) % clip n < clip n := Int.emod_lt_of_pos _ (by omega)
  have h2 := shd_eq s n
  omega
/-- Is there a key of shard j among the first k? -/
def sA (l : List ByteArray) (n : Int) (k j : Nat) : Bool := (l.take k).any fun s => shd s n == j
theorem sA_zero (l : List ByteArray) (n : Int) (j : Nat) : sA l n 0 j = false := by simp [sA]
theorem sA_succ (l : List ByteArray) (n : Int) (k j : Nat) (h : k < l.length) : sA l n (k + 1) j = (sA l n k j || (shd l[k] n == j)) := by
  unfold sA
  rw [List.take_succ_eq_append_getElem h, List.any_append]
  simp
def sC (l : List ByteArray) (n : Int) (k : Nat) : Array Value := #[.bool (sA l n k 0), .bool (sA l n k 1), .bool (sA l n k 2), .bool (sA l n k 3)]
theorem sC_succ (l : List ByteArray) (n : Int) (k : Nat) (h : k < l.length) (j : Nat) (hj : j = shd l[k] n) (h4 : j < 4) : (sC l n k).setIfInBounds j (.bool true) = sC l n (k + 1) := by
  unfold sC
  simp only [sA_succ l n k _ h, ← hj]
  rcases (show j = 0 ∨ j = 1 ∨ j = 2 ∨ j = 3 by omega) with rfl | rfl | rfl | rfl <;> simp
def outl (b : Nat → Bool) (k : Nat) : List Int := ((List.range k).filter b).map fun j : Nat => (j : Int)
theorem outl_succ (b : Nat → Bool) (k : Nat) : outl b (k + 1) = if b k then outl b k ++ [(k : Int)] else outl b k := by
  unfold outl
  rw [List.range_succ, List.filter_append, List.map_append]
  cases h : b k <;> simp [h]
theorem outl_len (b : Nat → Bool) (k : Nat) : (outl b k).length ≤ k := by
  unfold outl
  rw [List.length_map]
  exact Nat.le_trans (List.length_filter_le _ _) (by simp)
theorem heap_put {w : World} {p : Nat} {cs : Array Value} {T : TypeId} {fr : Nat × Nat} (h : w.heap[p]? = some (.cells cs T fr)) (i : Nat) (u : Value) : (w.setCell ⟨p, i, none⟩ u).heap[p]? = some (.cells (cs.setIfInBounds i u) T fr) := by
  simp only [World.setCell, Array.getElem?_modify, if_true, h]
  rfl

set_option maxHeartbeats 2000000 in
set_option maxRecDepth 100000 in
theorem shards_any {S : Nat → Prop} (v : Value) (l : List ByteArray) (n : Int) (w : World) (h : RSl Rep.str w S v l) (hS : Bd S w) :
    Calls Try.prog 14 #[v, .int .i64 n] w fun e w' => ∃ v', e = .returned v' ∧ Mine (Rep.int .i64) 3 w w' v' (outl (sA l n l.length) 4) := by
  have hsh0 := Lib.hid (fun (s : ByteArray) (hs : s.size ≤ 9223372036854775807) w => shard_any s n w hs)
  have HX := Lib.hid h
  have HS := Lib.hid hS
  obtain ⟨A, c, cs, rfl, d1, d2, _⟩ := h
  have d2' : c ≤ 9223372036854775807 := d2
  clear hS
  go_enter Try.func14, Try.ntmps14
  go_wp2_with fail
  go_loopw [8, 13] (fun x i wr => ∃ k : Nat, k ≤ l.length ∧ i = .int .i64 k ∧ Hid (wr.heap[w.heap.size]? = some (.cells (sC l n k) 71 (0, 0))) ∧ Hid (Upd NoB w wr)) (fun _ i _ => l.length - (intOf i).toNat)
  case atStart => exact ⟨0, by omega, rfl, Lib.hid (by have := heap_alloc_new w (Obj.cells (sC l n 0) 71 (0, 0)); simp only [sC, sA_zero] at this ⊢; exact this), Lib.hid ((Upd.refl _ _).alloc _)⟩
  case round =>
    obtain ⟨k, hk, rfl, hB, hU⟩ := hrel
    by_cases hlt : k < l.length
    · obtain ⟨g, o, u, rfl, hu, hc, hg⟩ := HX.out.cell1 rfl k hlt
      obtain ⟨hu1, hu2⟩ := hu
      obtain rfl := (List.cons.inj hu1).1
      have hc2 := hU.out.cell hc (fun h => h)
      have hcall := hsh0.out l[k] hu2
      rw [shd_eq] at hcall
      have hcall := Lib.hid hcall
      have hj4 := shd_lt l[k] n
      have hst := Lib.hid (fun j hj => sC_succ l n k hlt j hj)
      generalize hj : shd l[k] n = j at *
      have HJ := Lib.hid hj
      generalize l[k] = s at *
      clear hj hc hu1
      go_wp2_with fail
      refine (hcall.out _).mono ?_
      rintro e w2 ⟨rfl, hu⟩
      have hB2 := hu.heap hB.out (fun h => h)
      have hfz : w2.frozen? ⟨w.heap.size, j, none⟩ = false := by simp [World.frozen?, hB2]
      have hcl : ∃ u, w2.cell? ⟨w.heap.size, j, none⟩ = some (.bool u) := by
        simp only [World.cell?, hB2, sC]
        rcases (show j = 0 ∨ j = 1 ∨ j = 2 ∨ j = 3 by omega) with rfl | rfl | rfl | rfl <;> exact ⟨_, rfl⟩
      obtain ⟨uu, huu⟩ := hcl
      have hB3 := heap_put hB2 j (.bool true)
      rw [hst.out j rfl hj4] at hB3
      have HB3 := Lib.hid hB3
      have HU2 := Lib.hid (((hU.out.trans hu).setCell (p := ⟨w.heap.size, j, none⟩) (fun hh => absurd hh (Nat.lt_irrefl _)) (.bool true)))
      clear hu hB2 hB3 hc2
      go_wp2_with fail
      go_roundw
      case measure => simp [intOf]; omega
      case rel => exact ⟨k + 1, by omega, by go_num, HB3, HU2⟩
    · obtain rfl : k = l.length := by omega
      have e0 := Lib.hid (show ∀ j, sA l n l.length j = sA l n l.length j from fun _ => rfl)
      generalize hb : sA l n l.length = b at *
      have cells1 : wr.cell? ⟨w.heap.size, 0, none⟩ = some (.bool (b 0)) ∧ wr.cell? ⟨w.heap.size, 1, none⟩ = some (.bool (b 1)) ∧ wr.cell? ⟨w.heap.size, 2, none⟩ = some (.bool (b 2)) ∧ wr.cell? ⟨w.heap.size, 3, none⟩ = some (.bool (b 3)) := by
        simp [World.cell?, hB.out, sC, ← hb]
      obtain ⟨a0, a1, a2, a3⟩ := cells1
      have HBB := Lib.hid hb
      clear hb e0
      generalize eb0 : b 0 = b0 at *
      generalize eb1 : b 1 = b1 at *
      generalize eb2 : b 2 = b2 at *
      generalize eb3 : b 3 = b3 at *
      have E := Lib.hid (show b 0 = b0 ∧ b 1 = b1 ∧ b 2 = b2 ∧ b 3 = b3 from ⟨eb0, eb1, eb2, eb3⟩)
      clear eb0 eb1 eb2 eb3
      have x0 : ∀ w, (Instr.index 71 (.agg #[.bool b0, .bool b1, .bool b2, .bool b3]) (.int .i64 0)).run Try.prog w = .ok (.bool b0) w := fun _ => by kernel_rfl
      have x1 : ∀ w, (Instr.index 71 (.agg #[.bool b0, .bool b1, .bool b2, .bool b3]) (.int .i64 1)).run Try.prog w = .ok (.bool b1) w := fun _ => by kernel_rfl
      have x2 : ∀ w, (Instr.index 71 (.agg #[.bool b0, .bool b1, .bool b2, .bool b3]) (.int .i64 2)).run Try.prog w = .ok (.bool b2) w := fun _ => by kernel_rfl
      have x3 : ∀ w, (Instr.index 71 (.agg #[.bool b0, .bool b1, .bool b2, .bool b3]) (.int .i64 3)).run Try.prog w = .ok (.bool b3) w := fun _ => by kernel_rfl
      obtain ⟨wo, rfl⟩ : ∃ wo : World, wo = wr := ⟨_, rfl⟩
      go_wp2_with fail
      go_loopw [6, 9, 10, 23] (fun v6 x9 x10 i wr => ∃ k : Nat, k ≤ 4 ∧ i = .int .i64 k ∧ Hid (Mine (Rep.int .i64) 3 w wr v6 (outl b k))) (fun _ _ _ i _ => 4 - (intOf i).toNat)
      case atStart => exact ⟨0, by omega, rfl, Lib.hid (Mine.nil w hU.out)⟩
      case round =>
        obtain ⟨k, hk, rfl, hM⟩ := hrel
        obtain ⟨A6, c6, _, rfl, _⟩ := hM.out.1.read
        generalize hv6 : Value.slice A6 _ c6 = v6 at *
        clear hv6
        rcases (show k = 0 ∨ k = 1 ∨ k = 2 ∨ k = 3 ∨ k = 4 by omega) with rfl | rfl | rfl | rfl | rfl
        case inl =>
          cases b0
          · skip
            go_wp2_with fail
            go_roundw
            case measure => simp [intOf]
            case rel =>
              have T := outl_succ b 0
              rw [E.out.1] at T
              have T2 : outl b 1 = outl b 0 := T
              exact ⟨1, by omega, by go_num, Lib.hid (by rw [T2]; exact hM.out)⟩
          · skip
            have hy := Lib.hid (show (Rep.int .i64).rep wr NoB (0 : Int) #[.int .i64 0].toList from ⟨rfl, by decide⟩)
            have HO := Lib.hid hM.out.1
            have HB := Lib.hid hM.out.bd
            have hall : ((outl b 0).length + 1) * 8 ≤ 140737488355328 := by have := outl_len b 0; omega
            go_wp2_with (at_builtin; go_must (refine app_one (r := Rep.int .i64) (y := (0 : Int)) rfl _ _ 24 3 (.int .i64 0) 8 rfl Try.underlying24 i3 rfl (by decide) rfl rfl HO.out HB.out hy.out (fun b hb => hb.elim) hall ?_))
            intro v1 w2 ho2 hu2
            have fin := Lib.hid (hM.out.app ho2 hu2)
            clear ho2 hu2
            go_wp2_with fail
            go_roundw
            case measure => simp [intOf]
            case rel =>
              have T := outl_succ b 0
              rw [E.out.1] at T
              have T2 : outl b 1 = outl b 0 ++ [(0 : Int)] := T
              exact ⟨1, by omega, by go_num, Lib.hid (by rw [T2]; exact fin.out)⟩
        case inr.inl =>
          cases b1
          · skip
            go_wp2_with fail
            go_roundw
            case measure => simp [intOf]
            case rel =>
              have T := outl_succ b 1
              rw [E.out.2.1] at T
              have T2 : outl b 2 = outl b 1 := T
              exact ⟨2, by omega, by go_num, Lib.hid (by rw [T2]; exact hM.out)⟩
          · skip
            have hy := Lib.hid (show (Rep.int .i64).rep wr NoB (1 : Int) #[.int .i64 1].toList from ⟨rfl, by decide⟩)
            have HO := Lib.hid hM.out.1
            have HB := Lib.hid hM.out.bd
            have hall : ((outl b 1).length + 1) * 8 ≤ 140737488355328 := by have := outl_len b 1; omega
            go_wp2_with (at_builtin; go_must (refine app_one (r := Rep.int .i64) (y := (1 : Int)) rfl _ _ 24 3 (.int .i64 0) 8 rfl Try.underlying24 i3 rfl (by decide) rfl rfl HO.out HB.out hy.out (fun b hb => hb.elim) hall ?_))
            intro v1 w2 ho2 hu2
            have fin := Lib.hid (hM.out.app ho2 hu2)
            clear ho2 hu2
            go_wp2_with fail
            go_roundw
            case measure => simp [intOf]
            case rel =>
              have T := outl_succ b 1
              rw [E.out.2.1] at T
              have T2 : outl b 2 = outl b 1 ++ [(1 : Int)] := T
              exact ⟨2, by omega, by go_num, Lib.hid (by rw [T2]; exact fin.out)⟩
        case inr.inr.inl =>
          cases b2
          · skip
            go_wp2_with fail
            go_roundw
            case measure => simp [intOf]
            case rel =>
              have T := outl_succ b 2
              rw [E.out.2.2.1] at T
              have T2 : outl b 3 = outl b 2 := T
              exact ⟨3, by omega, by go_num, Lib.hid (by rw [T2]; exact hM.out)⟩
          · skip
            have hy := Lib.hid (show (Rep.int .i64).rep wr NoB (2 : Int) #[.int .i64 2].toList from ⟨rfl, by decide⟩)
            have HO := Lib.hid hM.out.1
            have HB := Lib.hid hM.out.bd
            have hall : ((outl b 2).length + 1) * 8 ≤ 140737488355328 := by have := outl_len b 2; omega
            go_wp2_with (at_builtin; go_must (refine app_one (r := Rep.int .i64) (y := (2 : Int)) rfl _ _ 24 3 (.int .i64 0) 8 rfl Try.underlying24 i3 rfl (by decide) rfl rfl HO.out HB.out hy.out (fun b hb => hb.elim) hall ?_))
            intro v1 w2 ho2 hu2
            have fin := Lib.hid (hM.out.app ho2 hu2)
            clear ho2 hu2
            go_wp2_with fail
            go_roundw
            case measure => simp [intOf]
            case rel =>
              have T := outl_succ b 2
              rw [E.out.2.2.1] at T
              have T2 : outl b 3 = outl b 2 ++ [(2 : Int)] := T
              exact ⟨3, by omega, by go_num, Lib.hid (by rw [T2]; exact fin.out)⟩
        case inr.inr.inr.inl =>
          cases b3
          · skip
            go_wp2_with fail
            go_roundw
            case measure => simp [intOf]
            case rel =>
              have T := outl_succ b 3
              rw [E.out.2.2.2] at T
              have T2 : outl b 4 = outl b 3 := T
              exact ⟨4, by omega, by go_num, Lib.hid (by rw [T2]; exact hM.out)⟩
          · skip
            have hy := Lib.hid (show (Rep.int .i64).rep wr NoB (3 : Int) #[.int .i64 3].toList from ⟨rfl, by decide⟩)
            have HO := Lib.hid hM.out.1
            have HB := Lib.hid hM.out.bd
            have hall : ((outl b 3).length + 1) * 8 ≤ 140737488355328 := by have := outl_len b 3; omega
            go_wp2_with (at_builtin; go_must (refine app_one (r := Rep.int .i64) (y := (3 : Int)) rfl _ _ 24 3 (.int .i64 0) 8 rfl Try.underlying24 i3 rfl (by decide) rfl rfl HO.out HB.out hy.out (fun b hb => hb.elim) hall ?_))
            intro v1 w2 ho2 hu2
            have fin := Lib.hid (hM.out.app ho2 hu2)
            clear ho2 hu2
            go_wp2_with fail
            go_roundw
            case measure => simp [intOf]
            case rel =>
              have T := outl_succ b 3
              rw [E.out.2.2.2] at T
              have T2 : outl b 4 = outl b 3 ++ [(3 : Int)] := T
              exact ⟨4, by omega, by go_num, Lib.hid (by rw [T2]; exact fin.out)⟩
        case inr.inr.inr.inr =>
          go_wp2_with fail
          go_ret
          exact ⟨_, rfl, by rw [HBB.out]; exact hM.out⟩
/-! ### The document's -/
set_option maxHeartbeats 2000000 in
set_option maxRecDepth 100000 in
theorem refshards_any {S : Nat → Prop} (v : Value) (l : List ByteArray) (n : Int) (w : World) (h : RSl Rep.str w S v l) (hS : Bd S w) :
    Calls Try.prog 15 #[v, .int .i64 n] w fun e w' => ∃ v', e = .returned v' ∧ Mine (Rep.int .i64) 3 w w' v' (outl (sA l n l.length) 4) := by
  have hsh0 := Lib.hid (fun (s : ByteArray) (hs : s.size ≤ 9223372036854775807) w => refshard_any s n w hs)
  have HX := Lib.hid h
  obtain ⟨A, c, cs, rfl, d1, d2, _⟩ := h
  have d2' : c ≤ 9223372036854775807 := d2
  clear hS
  go_enter Try.func15, Try.ntmps15
  go_wp2_with fail
  go_loopw [5, 6] (fun v6 i wr => ∃ k : Nat, k ≤ 4 ∧ i = .int .i64 k ∧ Hid (Mine (Rep.int .i64) 3 w wr v6 (outl (sA l n l.length) k))) (fun _ i _ => 4 - (intOf i).toNat)
  case atStart => exact ⟨0, by omega, rfl, Lib.hid (Mine.nil w (Upd.refl _ _))⟩
  case round =>
    obtain ⟨k, hk, rfl, hM⟩ := hrel
    obtain ⟨A6, c6, _, rfl, _⟩ := hM.out.1.read
    generalize hv6 : Value.slice A6 _ c6 = v6 at *
    clear hv6
    by_cases hk4 : k < 4
    · have hkd : decide ((k : Int) < 4) = true := by simp; omega
      obtain ⟨wo, rfl⟩ : ∃ wo : World, wo = wr := ⟨_, rfl⟩
      have hM0 := hM
      go_wp2_with fail
      go_loopw [7, 9, 16] (fun x7 x9 i wr => ∃ m : Nat, m ≤ l.length ∧ i = .int .i64 m ∧ ∃ B, x7 = .bool B ∧ Hid (B = sA l n m k) ∧ Hid (Upd NoB wo wr)) (fun _ _ i _ => l.length - (intOf i).toNat)
      case atStart => exact ⟨0, by omega, rfl, false, rfl, Lib.hid (sA_zero l n k).symm, Lib.hid (Upd.refl _ _)⟩
      case round =>
        obtain ⟨m, hm, rfl, B, rfl, hE, hU⟩ := hrel
        by_cases hlt : m < l.length
        · obtain ⟨g, o, u, rfl, hu, hc, hg⟩ := HX.out.cell1 rfl m hlt
          obtain ⟨hu1, hu2⟩ := hu
          obtain rfl := (List.cons.inj hu1).1
          have hc2 := hU.out.cell (hM0.out.2.cell hc (fun h => h)) (fun h => h)
          have hcall := hsh0.out l[m] hu2
          rw [shd_eq] at hcall
          have hcall := Lib.hid hcall
          have hj4 := shd_lt l[m] n
          have hst := Lib.hid (sA_succ l n m k hlt)
          generalize hj : shd l[m] n = j at *
          generalize l[m] = s at *
          clear hj hc hu1
          cases B
          · go_wp2_with fail
            refine (hcall.out _).mono ?_
            rintro e w2 ⟨rfl, hu⟩
            have HU2 := Lib.hid (hU.out.trans hu)
            clear hu hc2
            by_cases hjk : j = k
            · have hjk2 : ((j : Int) == (k : Int)) = true := by simp; omega
              have hf := Lib.hid (show true = sA l n (m + 1) k by rw [hst.out, hjk]; simp)
              clear hjk
              go_wp2_with fail
              go_roundw
              case measure => simp [intOf]; omega
              case rel => exact ⟨m + 1, by omega, by go_num, true, rfl, hf, HU2⟩
            · have hjk2 : ((j : Int) == (k : Int)) = false := by simp; omega
              have hf := Lib.hid (show false = sA l n (m + 1) k by rw [hst.out, ← hE.out]; simp [hjk])
              clear hjk
              go_wp2_with fail
              go_roundw
              case measure => simp [intOf]; omega
              case rel => exact ⟨m + 1, by omega, by go_num, false, rfl, hf, HU2⟩
          · have hf := Lib.hid (show true = sA l n (m + 1) k by rw [hst.out, ← hE.out]; rfl)
            go_wp2_with fail
            go_roundw
            case measure => simp [intOf]; omega
            case rel => exact ⟨m + 1, by omega, by go_num, true, rfl, hf, hU⟩
        · obtain rfl : m = l.length := by omega
          have T := Lib.hid (outl_succ (sA l n l.length) k)
          have HL := outl_len (sA l n l.length) k
          generalize hbb : sA l n l.length = b at *
          have HBB := Lib.hid hbb
          clear hbb
          have hM1 := Lib.hid (hM0.out.upd hU.out)
          cases B
          · go_wp2_with fail
            go_roundw
            case measure => simp [intOf]; omega
            case rel => exact ⟨k + 1, by omega, by go_num, Lib.hid (by rw [HBB.out, T.out, ← hE.out]; exact hM1.out)⟩
          · have hy := Lib.hid (show (Rep.int .i64).rep wr NoB (k : Int) #[.int .i64 k].toList from ⟨rfl, by have : k < 4 := hk4; simp [Lit.wf, IntKind.min, IntKind.max, IntKind.signed, IntKind.bits]; omega⟩)
            have HO := Lib.hid hM1.out.1
            have HB := Lib.hid hM1.out.bd
            have hall : ((outl b k).length + 1) * 8 ≤ 140737488355328 := by omega
            clear HL
            go_wp2_with (at_builtin; go_must (refine app_one (r := Rep.int .i64) (y := (k : Int)) rfl _ _ 24 3 (.int .i64 0) 8 rfl Try.underlying24 i3 rfl (by decide) rfl rfl HO.out HB.out hy.out (fun b hb => hb.elim) hall ?_))
            intro v1 w2 ho2 hu2
            have fin := Lib.hid (hM1.out.app ho2 hu2)
            clear ho2 hu2
            go_wp2_with fail
            go_roundw
            case measure => simp [intOf]; omega
            case rel => exact ⟨k + 1, by omega, by go_num, Lib.hid (by rw [HBB.out, T.out, ← hE.out]; exact fin.out)⟩
    · obtain rfl : k = 4 := by omega
      go_wp2_with fail
      go_ret
      exact ⟨_, rfl, hM.out⟩
end Go.Proofs.Ytcckljomjpfdaaa
