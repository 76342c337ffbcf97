/- Whether versions are an object's is as the chapter says; with others nothing is done (ObjectRight): the law's walk. -/
import Derived.Test.YtcckljomjpfdaaaObj12
namespace Go.Proofs.Ytcckljomjpfdaaa
open Go.RowKit Kit
set_option linter.unusedVariables false

set_option maxHeartbeats 4000000 in
set_option maxRecDepth 100000 in
theorem objRight_walk {S : Nat → Prop} (v : Value) (l : List Ver) (n a : Int) (s : ByteArray) (w : World) (h : RSl Rep.ver w S v l) (hs : s.size ≤ 9223372036854775807) (ha : (Lit.int .i64 a).wf = true) :
    Calls Try.prog 10 #[v, .int .i64 n, .int .i64 a, .string s] w fun e w' => e = .returned (.bool true) ∧ Upd NoB w w' := by
  have ho := Lib.hid (ours_any v l w h)
  have hL : (l.take 20).length ≤ 20 := by rw [List.length_take]; omega
  obtain ⟨A, c, cs, rfl, _⟩ := id h
  clear h
  generalize l.take 20 = L at *
  have hr := Lib.hid (fun v w S (h : RSl Rep.ver w S v L) => right_obj v L w h (by omega))
  have hrr := Lib.hid (fun v w S (h : RSl Rep.ver w S v L) => refright_obj v L w h (by omega))
  have hpl := Lib.hid (fun v w S (h : RSl Rep.ver w S v L) => plain_any v L w h (by omega))
  cases hR : rightB L
  · have hpt := Lib.hid (fun v w S (h : RSl Rep.ver w S v L) => put_any v L a s false w h (by omega) hs ha)
    have hd := Lib.hid (fun v w S (h : RSl Rep.ver w S v L) => read_any v L n w h (by omega))
    have hla := Lib.hid (fun v w S (h : RSl Rep.ver w S v L) => last_any v L w h (by omega))
    have hdi := Lib.hid (fun v w S (h : RSl Rep.ver w S v L) => dirty_any v L n w h (by omega))
    have hun := Lib.hid (fun v w S (h : RSl Rep.ver w S v L) => undo_any v L n w h (by omega))
    have hcl := Lib.hid (fun v w S (h : RSl Rep.ver w S v L) => clean_any v L n w h (by omega))
    rw [show putV L a s false = (1, []) by unfold putV; rw [if_pos (.inl hR)]] at hpt
    rw [show readV L n = none by unfold readV; rw [hR]; rfl] at hd
    rw [show lastV L = zeroV by unfold lastV; rw [hR]; rfl] at hla
    simp only [hR, Bool.false_eq_true, if_false, Bool.false_and] at hun hcl hdi
    simp only [Option.getD_none, Option.isSome_none, Ver.agg, zeroV] at hd hla
    rw [hR] at hr hrr
    clear hR
    go_enter Try.func10, Try.ntmps10
    go_wp2_with fail
    refine ho.out.mono ?_
    rintro e w1 ⟨v1, rfl, hM⟩
    obtain ⟨A1, c1, _, rfl, _⟩ := hM.1.read
    obtain ⟨wb1, hwb1⟩ : ∃ wb, w1.alloc (.cells #[.slice A1 L.length c1] 44) = wb := ⟨_, rfl⟩
    obtain ⟨b1, hb1⟩ : ∃ b, w1.heap.size = b := ⟨_, rfl⟩
    have HB1 := Lib.hid (show wb1.heap[b1]? = some (.cells #[.slice A1 L.length c1] 44 (0, 0)) by rw [← hwb1, ← hb1]; exact heap_alloc_new _ _)
    have p1 : wb1.cell? ⟨b1, 0, none⟩ = some (.slice A1 L.length c1) := by simp [World.cell?, HB1.out]
    have HM1 := Lib.hid (show Mine Rep.ver 50 _ wb1 (.slice A1 L.length c1) L by rw [← hwb1]; exact hM.upd ((Upd.refl NoB w1).alloc _))
    clear hM
    go_wp2_with fail
    refine (hpl.out _ _ _ HM1.out.1.read).mono ?_
    rintro e w2 ⟨v2, rfl, hM⟩
    have HP2 := Lib.hid hM
    clear hwb1
    go_wp2_with fail
    refine (hrr.out _ _ _ HP2.out.1.read).mono ?_
    rintro e w3 ⟨rfl, hu⟩
    have HU3 := Lib.hid (HP2.out.2.trans hu)
    have p3 := HU3.out.cell p1 (fun h => h)
    clear hu
    go_wp2_with fail
    refine (hr.out _ _ _ (HM1.out.upd HU3.out).1.read).mono ?_
    rintro e w4 ⟨rfl, hu⟩
    have p4 := hu.cell p3 (fun h => h)
    have HM4 := Lib.hid ((HM1.out.upd HU3.out).upd hu)
    clear hu p3 p1
    go_wp2_with fail
    refine (hpt.out _ _ _ HM4.out.1.read).mono ?_
    rintro e w5 ⟨v5, rfl, hM⟩
    have hu := hM.2
    obtain ⟨A5, c5, _, rfl, _⟩ := hM.1.read
    obtain ⟨wb5, hwb5⟩ : ∃ wb, w5.alloc (.cells #[.slice A5 0 c5] 44) = wb := ⟨_, rfl⟩
    obtain ⟨b5, hb5⟩ : ∃ b, w5.heap.size = b := ⟨_, rfl⟩
    have HB5 := Lib.hid (show wb5.heap[b5]? = some (.cells #[.slice A5 0 c5] 44 (0, 0)) by rw [← hwb5, ← hb5]; exact heap_alloc_new _ _)
    have p5 : wb5.cell? ⟨b5, 0, none⟩ = some (.slice A5 0 c5) := by simp [World.cell?, HB5.out]
    have HM5 := Lib.hid (show Mine Rep.ver 50 _ wb5 (.slice A5 0 c5) ([] : List Ver) by rw [← hwb5]; exact hM.upd ((Upd.refl NoB w5).alloc _))
    clear hM
    have hub : Upd NoB w4 wb5 := by rw [← hwb5]; exact hu.alloc _
    have p4' := hub.cell p4 (fun h => h)
    have HN5 := Lib.hid (HM4.out.upd hub)
    clear hu hub p4
    go_wp2_with fail
    refine (hd.out _ _ _ HN5.out.1.read).mono ?_
    rintro e w6 ⟨rfl, hu⟩
    have hux := hu.alloc (.cells #[.int .i64 0, .int .u64 0, .string ⟨#[]⟩, .bool false] 50)
    have p6 := hux.cell p4' (fun h => h)
    have p5' := hux.cell p5 (fun h => h)
    have HN6 := Lib.hid (HN5.out.upd hux)
    clear hu hux p5 p4' hwb5
    go_wp2_with fail
    refine (hla.out _ _ _ HN6.out.1.read).mono ?_
    rintro e w7 ⟨rfl, hu⟩
    have p7 := hu.cell p6 (fun h => h)
    have HN7 := Lib.hid (HN6.out.upd hu)
    clear hu p6 p5'
    go_wp2_with fail
    refine (hdi.out _ _ _ HN7.out.1.read).mono ?_
    rintro e w8 ⟨rfl, hu⟩
    have p8 := hu.cell p7 (fun h => h)
    have HN8 := Lib.hid (HN7.out.upd hu)
    clear hu p7
    go_wp2_with fail
    refine (hun.out _ _ _ HN8.out.1.read).mono ?_
    rintro e w9 ⟨v9, rfl, hM⟩
    have p9 := hM.2.cell p8 (fun h => h)
    have HN9 := Lib.hid (HN8.out.upd hM.2)
    obtain ⟨A9, c9, _, rfl, _⟩ := hM.1.read
    clear hM p8
    have hfd : ∀ (A : Option Addr) (c : Nat) (w : World), (Instr.field 44 (.agg #[.slice A 0 c]) 0).run Try.prog w = .ok (.slice A 0 c) w := fun _ _ _ => by kernel_rfl
    go_wp2_with fail
    refine (hcl.out _ _ _ HN9.out.1.read).mono ?_
    rintro e wa ⟨va, rfl, hM⟩
    have HNa := Lib.hid (HN9.out.upd hM.2)
    obtain ⟨Aa, ca, _, rfl, _⟩ := hM.1.read
    clear hM p9
    go_wp2_with fail
    refine (awakeObj_any _).mono ?_
    rintro e w10 ⟨rfl, hu⟩
    have HU10 := Lib.hid (HNa.out.2.trans hu)
    clear hu
    go_wp2_with fail
    go_ret
    exact ⟨rfl, HU10.out⟩
  · rw [hR] at hr hrr
    clear hR
    go_enter Try.func10, Try.ntmps10
    go_wp2_with fail
    refine ho.out.mono ?_
    rintro e w1 ⟨v1, rfl, hM⟩
    obtain ⟨A1, c1, _, rfl, _⟩ := hM.1.read
    obtain ⟨wb1, hwb1⟩ : ∃ wb, w1.alloc (.cells #[.slice A1 L.length c1] 44) = wb := ⟨_, rfl⟩
    obtain ⟨b1, hb1⟩ : ∃ b, w1.heap.size = b := ⟨_, rfl⟩
    have HB1 := Lib.hid (show wb1.heap[b1]? = some (.cells #[.slice A1 L.length c1] 44 (0, 0)) by rw [← hwb1, ← hb1]; exact heap_alloc_new _ _)
    have p1 : wb1.cell? ⟨b1, 0, none⟩ = some (.slice A1 L.length c1) := by simp [World.cell?, HB1.out]
    have HM1 := Lib.hid (show Mine Rep.ver 50 _ wb1 (.slice A1 L.length c1) L by rw [← hwb1]; exact hM.upd ((Upd.refl NoB w1).alloc _))
    clear hM
    go_wp2_with fail
    refine (hpl.out _ _ _ HM1.out.1.read).mono ?_
    rintro e w2 ⟨v2, rfl, hM⟩
    have HP2 := Lib.hid hM
    clear hwb1
    go_wp2_with fail
    refine (hrr.out _ _ _ HP2.out.1.read).mono ?_
    rintro e w3 ⟨rfl, hu⟩
    have HU3 := Lib.hid (HP2.out.2.trans hu)
    have p3 := HU3.out.cell p1 (fun h => h)
    clear hu
    go_wp2_with fail
    refine (hr.out _ _ _ (HM1.out.upd HU3.out).1.read).mono ?_
    rintro e w4 ⟨rfl, hu⟩
    have p4 := hu.cell p3 (fun h => h)
    have HM4 := Lib.hid ((HM1.out.upd HU3.out).upd hu)
    clear hu p3 p1
    go_wp2_with fail
    refine (awakeObj_any _).mono ?_
    rintro e w10 ⟨rfl, hu⟩
    have HU10 := Lib.hid (HM4.out.2.trans hu)
    clear hu
    go_wp2_with fail
    go_ret
    exact ⟨rfl, HU10.out⟩
end Go.Proofs.Ytcckljomjpfdaaa
