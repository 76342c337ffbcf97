/- Entries that end something, as the document's (3): a list of them; are two the same. -/
import Derived.Test.YtobfolkcpfaplaaLink9
namespace Go.Proofs.Ytobfolkcpfaplaa
open Go.RowKit Kit
set_option linter.unusedVariables false
theorem iFin2 : (Try.prog.info? 72).map (fun i => (i.zero, i.size, i.bytes)) = some (some (.agg #[.int .u64 0, .int .i64 0, .int .i64 0, .int .u64 0, .bool false, .slice none 0 0, .slice none 0 0, .int .i64 0, .int .u64 0, .int .i64 0]), 10, 112) := by kernel_rfl
set_option maxHeartbeats 4000000 in
set_option maxRecDepth 100000 in
theorem plainl_any {S : Nat → Prop} (v : Value) (l : List Fin) (w : World) (h : RSl Rep.fin w S v l) (hl : l.length ≤ 100000) :
    Calls Try.prog 47 #[v] w fun e w' => ∃ v', e = .returned v' ∧ Mine Rep.fin 72 w w' v' l := by
  have HR := Lib.hid h
  have HU0 := Lib.hid (Upd.refl NoB w)
  obtain ⟨A, c, _, rfl, _⟩ := h
  go_enter Try.func47, Try.ntmps47
  go_wp2_with fail
  go_loopw [3, 8] (fun x3 x8 wr => ∃ k : Nat, k ≤ l.length ∧ x8 = .int .i64 k ∧ Hid (Mine Rep.fin 72 w wr x3 (l.take k))) (fun _ x8 _ => l.length - (intOf x8).toNat)
  case atStart => exact ⟨0, by omega, rfl, Lib.hid (Mine.nil _ HU0.out)⟩
  case round =>
    obtain ⟨k, hk, rfl, hM⟩ := hrel
    by_cases hlt : k < l.length
    · have hdl : decide (k < l.length) = true := decide_eq_true hlt
      obtain ⟨g, o, cc, rfl, hr, hc, _⟩ := HR.out.cellN k hlt
      have hr' : cc = finC (l[k]'hlt) := hr
      subst hr'
      rw [show Rep.fin.sz = 10 from rfl] at hc
      have hu := hM.out.2
      have c0 := hu.cell (hc 0 _ rfl) (fun h => h)
      have c1 := hu.cell (hc 1 _ rfl) (fun h => h)
      have c2 := hu.cell (hc 2 _ rfl) (fun h => h)
      have c3 := hu.cell (hc 3 _ rfl) (fun h => h)
      have c4 := hu.cell (hc 4 _ rfl) (fun h => h)
      have c5 := hu.cell (hc 5 _ rfl) (fun h => h)
      have c6 := hu.cell (hc 6 _ rfl) (fun h => h)
      have c7 := hu.cell (hc 7 _ rfl) (fun h => h)
      have c8 := hu.cell (hc 8 _ rfl) (fun h => h)
      have c9 := hu.cell (hc 9 _ rfl) (fun h => h)
      rw [Nat.add_zero] at c0
      have hln := Lib.hid (show l.take (k + 1) = l.take k ++ [l[k]'hlt] by
        rw [List.take_add_one, List.getElem?_eq_getElem hlt]; rfl)
      have hlen : (l.take k).length ≤ 100000 := by rw [List.length_take]; omega
      generalize l[k]'hlt = x at *
      clear hc hr hu
      have hall : ((l.take k).length + 1) * 112 ≤ 140737488355328 := by omega
      generalize l.take k = L at *
      have hco := Lib.hid (plain_any x.ep x.sq)
      unfold finV at hco
      have HA := Lib.hid (fun w2 (hu : Upd NoB wr w2) => hM.out.upd hu)
      have HUa := Lib.hid (fun o => (Upd.refl NoB wr).alloc o)
      clear hlen
      go_wp2_with fail
      refine (hco.out _).mono ?_
      rintro e w2 ⟨rfl, hu⟩
      have hM2 := Lib.hid (HA.out w2 ((HUa.out _).trans hu))
      have HO := Lib.hid hM2.out.1
      have HB := Lib.hid hM2.out.bd
      have hy := Lib.hid (show Rep.fin.rep w2 NoB x (#[.int .u64 x.ep, .int .i64 2, .int .i64 0, .int .u64 0, .bool false, .slice none 0 0, .slice none 0 0, .int .i64 0, .int .u64 x.sq, .int .i64 0] : Array Value).toList from rfl)
      clear hu c0 c1 c2 c3 c4 c5 c6 c7 c8 c9
      go_wp2_with (at_builtin; go_must (refine app_one (r := Rep.fin) (y := x) rfl _ _ 56 72 (.agg #[.int .u64 0, .int .i64 0, .int .i64 0, .int .u64 0, .bool false, .slice none 0 0, .slice none 0 0, .int .i64 0, .int .u64 0, .int .i64 0]) 112 rfl Try.underlying56 iFin2 rfl (by decide) rfl rfl HO.out HB.out hy.out (fun b hb => hb.elim) hall ?_))
      intro v1 w3 ho2 hu2
      have fin := Lib.hid (hM2.out.app ho2 hu2)
      clear ho2 hu2
      go_wp2_with fail
      go_roundw
      case measure => simp [intOf]; omega
      case rel => exact ⟨k + 1, by omega, by go_num, Lib.hid (by rw [hln.out]; exact fin.out)⟩
    · obtain rfl : k = l.length := by omega
      have hdl : decide (l.length < l.length) = false := by simp
      have fin := Lib.hid (show Mine Rep.fin 72 w wr u3 l by
        have := hM.out
        rwa [List.take_length] at this)
      go_wp2_with fail
      go_ret
      exact ⟨_, rfl, fin.out⟩
theorem txn2_world (w : World) (a b : TypeId) : ∀ x, Upd NoB ((w.alloc (.cells #[.int .i64 0, .int .u64 0, .bool false, .slice none 0 0, .slice none 0 0] a)).alloc (.cells #[.int .i64 0, .int .u64 0, .bool false, .slice none 0 0, .slice none 0 0] b)) x → Upd NoB w x ∧
    x.heap[w.heap.size]? = some (.cells #[.int .i64 0, .int .u64 0, .bool false, .slice none 0 0, .slice none 0 0] a (0, 0)) ∧
    x.heap[w.heap.size + 1]? = some (.cells #[.int .i64 0, .int .u64 0, .bool false, .slice none 0 0, .slice none 0 0] b (0, 0)) := by
  intro x h
  obtain ⟨y, hy⟩ : ∃ y, w.alloc (.cells #[.int .i64 0, .int .u64 0, .bool false, .slice none 0 0, .slice none 0 0] a) = y := ⟨_, rfl⟩
  have s1 : y.heap.size = w.heap.size + 1 := by rw [← hy]; simp
  have u0 : Upd NoB w y := by rw [← hy]; exact (Upd.refl _ _).alloc _
  have b0 : y.heap[w.heap.size]? = some (.cells #[.int .i64 0, .int .u64 0, .bool false, .slice none 0 0, .slice none 0 0] a (0, 0)) := by rw [← hy]; exact heap_alloc_new _ _
  rw [hy] at h
  have u2 := ((Upd.refl NoB y).alloc (.cells #[.int .i64 0, .int .u64 0, .bool false, .slice none 0 0, .slice none 0 0] b)).trans h
  have b2 := h.heap (heap_alloc_new y (.cells #[.int .i64 0, .int .u64 0, .bool false, .slice none 0 0, .slice none 0 0] b (0, 0))) (fun h => h)
  rw [s1] at b2
  exact ⟨u0.trans u2, u2.heap b0 (fun h => h), b2⟩
set_option maxHeartbeats 4000000 in
set_option maxRecDepth 100000 in
theorem sametxn_any (w : World) : Calls Try.prog 66 #[.agg #[.int .i64 0, .int .u64 0, .bool false, .slice none 0 0, .slice none 0 0], .agg #[.int .i64 0, .int .u64 0, .bool false, .slice none 0 0, .slice none 0 0]] w fun e w' => e = .returned (.bool true) ∧ Upd NoB w w' := by
  have hcl := Lib.hid (txn2_world w 70 70)
  have HU := Lib.hid (Upd.refl NoB ((w.alloc (.cells #[.int .i64 0, .int .u64 0, .bool false, .slice none 0 0, .slice none 0 0] 70)).alloc (.cells #[.int .i64 0, .int .u64 0, .bool false, .slice none 0 0, .slice none 0 0] 70)))
  go_enter Try.func66, Try.ntmps66
  go_wp2_with fail
  go_loopw [40] (fun x40 wr => x40 = .int .i64 0 ∧ Hid (Upd NoB ((w.alloc (.cells #[.int .i64 0, .int .u64 0, .bool false, .slice none 0 0, .slice none 0 0] 70)).alloc (.cells #[.int .i64 0, .int .u64 0, .bool false, .slice none 0 0, .slice none 0 0] 70)) wr)) (fun _ _ => 0)
  case atStart => exact ⟨rfl, HU⟩
  case round =>
    obtain ⟨rfl, hU⟩ := hrel
    obtain ⟨hw, b0, b1⟩ := hcl.out wr hU.out
    have HW := Lib.hid hw
    obtain ⟨x0, x1, x2, x3, x4⟩ := five_cells b0
    obtain ⟨y0, y1, y2, y3, y4⟩ := five_cells b1
    clear hw b0 b1
    go_wp2_with fail
    obtain ⟨wz, hwz⟩ : ∃ wz, wz = wr := ⟨_, rfl⟩
    subst hwz
    have HZ := Lib.hid (Upd.refl NoB wz)
    go_loopw [58] (fun x58 wq => x58 = .int .i64 0 ∧ Hid (Upd NoB wz wq)) (fun _ _ => 0)
    case atStart => exact ⟨rfl, HZ⟩
    case round =>
      obtain ⟨rfl, hU2⟩ := hrel
      have HUw := Lib.hid (HW.out.trans hU2.out)
      go_wp2_with fail
      go_ret
      exact ⟨rfl, HUw.out⟩
end Go.Proofs.Ytobfolkcpfaplaa
