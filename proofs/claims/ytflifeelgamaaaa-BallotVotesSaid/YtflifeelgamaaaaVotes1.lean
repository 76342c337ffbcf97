/- Votes, function by function (1): which masters are in votes. -/
import Derived.Test.YtflifeelgamaaaaPureBallotMeet
import Derived.Test.YtflifeelgamaaaaSched
import Derived.Laws.Rows
import Derived.Lib.Hide
import Derived.ProofKit
namespace Go.Proofs.Ytflifeelgamaaaa
open Go.RowKit Kit Go.Proofs.YtflifeelgamaaaaW.PrintWords
set_option linter.unusedVariables false

/-- Is the master k in v? -/
def hb (v k : Nat) : Bool := v / 2 ^ k % 2 == 1
def setCells (v k : Nat) : Array Value := #[.bool (decide (0 < k) && hb v 0), .bool (decide (1 < k) && hb v 1), .bool (decide (2 < k) && hb v 2), .bool (decide (3 < k) && hb v 3), .bool (decide (4 < k) && hb v 4)]

theorem heap_put {w : World} {p : Nat} {cs : Array Value} {T : TypeId} {fr : Nat × Nat} (h : w.heap[p]? = some (.cells cs T fr)) (i : Nat) (u : Value) : (w.setCell ⟨p, i, none⟩ u).heap[p]? = some (.cells (cs.setIfInBounds i u) T fr) := by
  simp only [World.setCell, Array.getElem?_modify, if_true, h]
  rfl

set_option maxHeartbeats 1000000 in
set_option maxRecDepth 100000 in
theorem set_any (v : Nat) (w : World) (hv : v < 256) :
    Calls Try.prog 15 #[.int .u8 v] w fun e w' => e = .returned (.agg #[.bool (hb v 0), .bool (hb v 1), .bool (hb v 2), .bool (hb v 3), .bool (hb v 4)]) ∧ Upd NoB w w' := by
  go_enter Try.func15, Try.ntmps15
  go_wp2_with fail
  go_loopw [0, 4] (fun x i wr => ∃ k : Nat, k ≤ 5 ∧ x = .int .u8 ((v / 2 ^ k : Nat) : Int) ∧ i = .int .i64 k ∧ Hid (wr.heap[w.heap.size + 1]? = some (.cells (setCells v k) 23 (0, 0))) ∧ Hid (wr.heap[w.heap.size]? = some (.cells (setCells v 0) 23 (0, 0))) ∧ Hid (Upd NoB w wr)) (fun _ i _ => 5 - (intOf i).toNat)
  case atStart =>
    refine ⟨0, by omega, by simp, rfl, Lib.hid ?_, Lib.hid ?_, Lib.hid (((Upd.refl _ _).alloc _).alloc _)⟩
    · have := heap_alloc_new (w.alloc (Obj.cells #[Value.bool false, Value.bool false, Value.bool false, Value.bool false, Value.bool false] 23)) (Obj.cells #[Value.bool false, Value.bool false, Value.bool false, Value.bool false, Value.bool false] 23)
      rw [show w.heap.size + 1 = (w.alloc (Obj.cells #[Value.bool false, Value.bool false, Value.bool false, Value.bool false, Value.bool false] 23)).heap.size by simp]
      exact this
    · have := Below.heap_alloc (w.alloc (Obj.cells #[Value.bool false, Value.bool false, Value.bool false, Value.bool false, Value.bool false] 23)) (Obj.cells #[Value.bool false, Value.bool false, Value.bool false, Value.bool false, Value.bool false] 23) w.heap.size (by simp)
      rw [this]
      exact heap_alloc_new _ _
  case round =>
    obtain ⟨k, hk, rfl, rfl, h1, h0, hU⟩ := hrel
    have hz : w.heap.size + 1 < wr.heap.size := lt_of_heap h1.out
    have hx : v / 2 ^ k < 256 := Nat.lt_of_le_of_lt (Nat.div_le_self _ _) hv
    have hlast : hb v k = (v / 2 ^ k % 2 == 1) := rfl
    have hdiv : v / 2 ^ k / 2 = v / 2 ^ (k + 1) := by rw [Nat.div_div_eq_div_mul, Nat.pow_succ]
    by_cases hlt : k < 5
    · have hset : (setCells v k).setIfInBounds k (.bool (hb v k)) = setCells v (k + 1) := by
        rcases (show k = 0 ∨ k = 1 ∨ k = 2 ∨ k = 3 ∨ k = 4 by omega) with rfl | rfl | rfl | rfl | rfl <;> rfl
      have hc : wr.cell? ⟨w.heap.size + 1, k, none⟩ = (setCells v k)[k]? := by simp [World.cell?, h1.out]
      have hfr : wr.frozen? ⟨w.heap.size + 1, k, none⟩ = false := by simp [World.frozen?, h1.out]
      have hc2 : ∃ u, wr.cell? ⟨w.heap.size + 1, k, none⟩ = some (.bool u) := by
        rw [hc]
        rcases (show k = 0 ∨ k = 1 ∨ k = 2 ∨ k = 3 ∨ k = 4 by omega) with rfl | rfl | rfl | rfl | rfl <;> exact ⟨_, rfl⟩
      obtain ⟨u, hu⟩ := hc2
      have H1 := heap_put h1.out k (.bool (hb v k))
      rw [hset] at H1
      have HH := Lib.hid H1
      have HL := Lib.hid hlast
      have HD := Lib.hid hdiv
      clear hc hset H1 hlast hdiv
      generalize v / 2 ^ k = X at *
      generalize hbk : hb v k = B at *
      have HB := Lib.hid hbk
      clear hbk
      go_wp2_with fail
      go_roundw
      case measure => simp [intOf]; omega
      case rel =>
        have eB : ((X : Int) % 2 == 1) = B := by rw [HL.out, Bool.eq_iff_iff]; simp; omega
        rw [eB]
        have u2 : Upd (fun b => b = w.heap.size + 1) wr (wr.setCell ⟨w.heap.size + 1, k, none⟩ (.bool B)) := (Upd.refl (fun b => b = w.heap.size + 1) wr).setCell (p := ⟨w.heap.size + 1, k, none⟩) (fun _ => rfl) _
        exact ⟨k + 1, by omega, by rw [← HD.out]; simp, by simp, HH, Lib.hid (u2.heap h0.out (by omega)), Lib.hid (hU.out.then u2 (fun i h e => by omega))⟩
    · obtain rfl : k = 5 := by omega
      have cells1 : wr.cell? ⟨w.heap.size + 1, 0, none⟩ = some (.bool (hb v 0)) ∧ wr.cell? ⟨w.heap.size + 1, 1, none⟩ = some (.bool (hb v 1)) ∧ wr.cell? ⟨w.heap.size + 1, 2, none⟩ = some (.bool (hb v 2)) ∧ wr.cell? ⟨w.heap.size + 1, 3, none⟩ = some (.bool (hb v 3)) ∧ wr.cell? ⟨w.heap.size + 1, 4, none⟩ = some (.bool (hb v 4)) := by
        simp [World.cell?, h1.out, setCells]
      have cells0 : wr.cell? ⟨w.heap.size, 0, none⟩ = some (.bool false) ∧ wr.cell? ⟨w.heap.size, 1, none⟩ = some (.bool false) ∧ wr.cell? ⟨w.heap.size, 2, none⟩ = some (.bool false) ∧ wr.cell? ⟨w.heap.size, 3, none⟩ = some (.bool false) ∧ wr.cell? ⟨w.heap.size, 4, none⟩ = some (.bool false) := by
        simp [World.cell?, h0.out, setCells]
      have fr0 : ∀ j, wr.frozen? ⟨w.heap.size, j, none⟩ = false := by intro j; simp [World.frozen?, h0.out]
      obtain ⟨a0, a1, a2, a3, a4⟩ := cells1
      obtain ⟨c0, c1, c2, c3, c4⟩ := cells0
      have f0 := fr0 0
      have f1 := fr0 1
      have f2 := fr0 2
      have f3 := fr0 3
      have f4 := fr0 4
      clear fr0 hlast hdiv
      generalize e0 : hb v 0 = b0 at *
      have E0 := Lib.hid e0
      clear e0
      generalize e1 : hb v 1 = b1 at *
      have E1 := Lib.hid e1
      clear e1
      generalize e2 : hb v 2 = b2 at *
      have E2 := Lib.hid e2
      clear e2
      generalize e3 : hb v 3 = b3 at *
      have E3 := Lib.hid e3
      clear e3
      generalize e4 : hb v 4 = b4 at *
      have E4 := Lib.hid e4
      clear e4
      go_wp2_with fail
      refine bodyPost_ret (v := .agg #[.bool b0, .bool b1, .bool b2, .bool b3, .bool b4]) (by simp [results, Try.results15, go_sem, *]) rfl ⟨by rw [E0.out, E1.out, E2.out, E3.out, E4.out], ?_⟩
      have u2 : ∀ (x : World) j b, Upd (fun b => b = w.heap.size) x (x.setCell ⟨w.heap.size, j, none⟩ (.bool b)) := fun x j b => (Upd.refl (fun b => b = w.heap.size) x).setCell (p := ⟨w.heap.size, j, none⟩) (fun _ => rfl) _
      exact hU.out.then (((((u2 _ _ _).trans (u2 _ _ _)).trans (u2 _ _ _)).trans (u2 _ _ _)).trans (u2 _ _ _)) (fun i h e => by omega)
/-- How many of the first n, up to k. -/
def amg (v n : Nat) : Nat → Nat
  | 0 => 0
  | k + 1 => amg v n k + if (hb v k && decide (k < n)) = true then 1 else 0
theorem amg_le (v n : Nat) : ∀ k, amg v n k ≤ k
  | 0 => Nat.le_refl _
  | k + 1 => by
    have := amg_le v n k
    unfold amg
    split <;> omega

set_option maxHeartbeats 1000000 in
set_option maxRecDepth 100000 in
theorem refamong_any (v n : Nat) (w : World) (hv : v < 256) :
    Calls Try.prog 19 #[.int .u8 v, .int .i64 n] w fun e w' => e = .returned (.int .i64 (amg v n 5)) ∧ Upd NoB w w' := by
  have hs := Lib.hid (fun w => set_any v w hv)
  have A0 := Lib.hid (show amg v n 0 = 0 from rfl)
  have AS := Lib.hid (fun k => show amg v n (k + 1) = amg v n k + if (hb v k && decide (k < n)) = true then 1 else 0 from rfl)
  have AL := Lib.hid (amg_le v n)
  generalize e0 : hb v 0 = b0 at *
  generalize e1 : hb v 1 = b1 at *
  generalize e2 : hb v 2 = b2 at *
  generalize e3 : hb v 3 = b3 at *
  generalize e4 : hb v 4 = b4 at *
  have E := Lib.hid (show hb v 0 = b0 ∧ hb v 1 = b1 ∧ hb v 2 = b2 ∧ hb v 3 = b3 ∧ hb v 4 = b4 from ⟨e0, e1, e2, e3, e4⟩)
  clear e0 e1 e2 e3 e4
  generalize amg v n = G at *
  have i0 : ∀ w, (Instr.index 23 (.agg #[.bool b0, .bool b1, .bool b2, .bool b3, .bool b4]) (.int .i64 0)).run Try.prog w = .ok (.bool b0) w := fun _ => by kernel_rfl
  have i1 : ∀ w, (Instr.index 23 (.agg #[.bool b0, .bool b1, .bool b2, .bool b3, .bool b4]) (.int .i64 1)).run Try.prog w = .ok (.bool b1) w := fun _ => by kernel_rfl
  have i2 : ∀ w, (Instr.index 23 (.agg #[.bool b0, .bool b1, .bool b2, .bool b3, .bool b4]) (.int .i64 2)).run Try.prog w = .ok (.bool b2) w := fun _ => by kernel_rfl
  have i3 : ∀ w, (Instr.index 23 (.agg #[.bool b0, .bool b1, .bool b2, .bool b3, .bool b4]) (.int .i64 3)).run Try.prog w = .ok (.bool b3) w := fun _ => by kernel_rfl
  have i4 : ∀ w, (Instr.index 23 (.agg #[.bool b0, .bool b1, .bool b2, .bool b3, .bool b4]) (.int .i64 4)).run Try.prog w = .ok (.bool b4) w := fun _ => by kernel_rfl
  go_enter Try.func19, Try.ntmps19
  go_wp2_with fail
  refine (hs.out _).mono ?_
  rintro e w1 ⟨rfl, hu⟩
  have HU := Lib.hid hu
  clear hu
  go_wp2_with fail
  go_loopw [5, 10] (fun x i wr => ∃ k S : Nat, k ≤ 5 ∧ x = .int .i64 S ∧ i = .int .i64 k ∧ S ≤ k ∧ Hid (S = G k) ∧ Hid (wr = w1)) (fun _ i _ => 5 - (intOf i).toNat)
  case atStart => exact ⟨0, 0, by omega, rfl, rfl, by omega, Lib.hid A0.out.symm, Lib.hid rfl⟩
  case round =>
    obtain ⟨k, S, hk, rfl, rfl, hS, hG, hW⟩ := hrel
    obtain rfl := hW.out
    rcases (show k = 0 ∨ k = 1 ∨ k = 2 ∨ k = 3 ∨ k = 4 ∨ k = 5 by omega) with rfl | rfl | rfl | rfl | rfl | rfl
    case inr.inr.inr.inr.inr =>
      go_wp2_with fail
      go_ret
      exact ⟨by rw [← hG.out]; rfl, HU.out⟩
    case inl =>
      have T := AS.out 0
      rw [E.out.1] at T
      have TT := Lib.hid T
      clear T
      cases b0 <;> by_cases hn : 0 < n
      all_goals
        go_wp2_with fail
        go_roundw
        case measure => simp [intOf]
        case rel => first | exact ⟨1, S + 1, by omega, by first | rfl | go_num, by go_num, by omega, Lib.hid (by rw [TT.out, ← hG.out]; simp [hn]), Lib.hid (by first | rfl | trivial)⟩ | exact ⟨1, S, by omega, by first | rfl | go_num, by go_num, by omega, Lib.hid (by rw [TT.out, ← hG.out]; simp [hn]), Lib.hid (by first | rfl | trivial)⟩
    case inr.inl =>
      have T := AS.out 1
      rw [E.out.2.1] at T
      have TT := Lib.hid T
      clear T
      cases b1 <;> by_cases hn : 1 < n
      all_goals
        go_wp2_with fail
        go_roundw
        case measure => simp [intOf]
        case rel => first | exact ⟨2, S + 1, by omega, by first | rfl | go_num, by go_num, by omega, Lib.hid (by rw [TT.out, ← hG.out]; simp [hn]), Lib.hid (by first | rfl | trivial)⟩ | exact ⟨2, S, by omega, by first | rfl | go_num, by go_num, by omega, Lib.hid (by rw [TT.out, ← hG.out]; simp [hn]), Lib.hid (by first | rfl | trivial)⟩
    case inr.inr.inl =>
      have T := AS.out 2
      rw [E.out.2.2.1] at T
      have TT := Lib.hid T
      clear T
      cases b2 <;> by_cases hn : 2 < n
      all_goals
        go_wp2_with fail
        go_roundw
        case measure => simp [intOf]
        case rel => first | exact ⟨3, S + 1, by omega, by first | rfl | go_num, by go_num, by omega, Lib.hid (by rw [TT.out, ← hG.out]; simp [hn]), Lib.hid (by first | rfl | trivial)⟩ | exact ⟨3, S, by omega, by first | rfl | go_num, by go_num, by omega, Lib.hid (by rw [TT.out, ← hG.out]; simp [hn]), Lib.hid (by first | rfl | trivial)⟩
    case inr.inr.inr.inl =>
      have T := AS.out 3
      rw [E.out.2.2.2.1] at T
      have TT := Lib.hid T
      clear T
      cases b3 <;> by_cases hn : 3 < n
      all_goals
        go_wp2_with fail
        go_roundw
        case measure => simp [intOf]
        case rel => first | exact ⟨4, S + 1, by omega, by first | rfl | go_num, by go_num, by omega, Lib.hid (by rw [TT.out, ← hG.out]; simp [hn]), Lib.hid (by first | rfl | trivial)⟩ | exact ⟨4, S, by omega, by first | rfl | go_num, by go_num, by omega, Lib.hid (by rw [TT.out, ← hG.out]; simp [hn]), Lib.hid (by first | rfl | trivial)⟩
    case inr.inr.inr.inr.inl =>
      have T := AS.out 4
      rw [E.out.2.2.2.2] at T
      have TT := Lib.hid T
      clear T
      cases b4 <;> by_cases hn : 4 < n
      all_goals
        go_wp2_with fail
        go_roundw
        case measure => simp [intOf]
        case rel => first | exact ⟨5, S + 1, by omega, by first | rfl | go_num, by go_num, by omega, Lib.hid (by rw [TT.out, ← hG.out]; simp [hn]), Lib.hid (by first | rfl | trivial)⟩ | exact ⟨5, S, by omega, by first | rfl | go_num, by go_num, by omega, Lib.hid (by rw [TT.out, ← hG.out]; simp [hn]), Lib.hid (by first | rfl | trivial)⟩
end Go.Proofs.Ytflifeelgamaaaa
