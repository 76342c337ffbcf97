/- A log that is not there (LinksNil): the walk. -/
import Derived.Test.YtobfolkcpfaplaaLink4
namespace Go.Proofs.Ytobfolkcpfaplaa
open Go.RowKit Kit
set_option linter.unusedVariables false
set_option maxHeartbeats 1000000 in
set_option maxRecDepth 100000 in
theorem same_nil (prev : Int) (w : World) : Calls Try.prog 33 #[.pointer none, .int .i64 prev, .slice none 0 0] w fun e w' => e = .returned (.int .i64 0) ∧ Upd NoB w w' := by
  have hln := Lib.hid (len_nil w)
  have HU := Lib.hid (Upd.refl NoB w)
  by_cases h1 : prev < 0
  · have e1 : decide (prev < 0) = true := decide_eq_true h1
    clear h1
    go_enter Try.func33, Try.ntmps33
    go_wp2_with fail
    go_ret
    exact ⟨rfl, HU.out⟩
  · have e1 : decide (prev < 0) = false := decide_eq_false h1
    by_cases h2 : 0 < prev
    · have e2 : decide (0 < prev) = true := decide_eq_true h2
      clear h1 h2
      go_enter Try.func33, Try.ntmps33
      go_wp2_with fail
      refine hln.out.mono ?_
      rintro e w1 ⟨rfl, hu⟩
      have HU1 := Lib.hid hu
      clear hu
      go_wp2_with fail
      go_ret
      exact ⟨rfl, HU1.out⟩
    · obtain rfl : prev = 0 := by omega
      clear h1 h2 e1
      go_enter Try.func33, Try.ntmps33
      go_wp2_with fail
      refine hln.out.mono ?_
      rintro e w1 ⟨rfl, hu⟩
      have HU1 := Lib.hid hu
      clear hu
      go_wp2_with fail
      go_loopw [7] (fun x7 wr => x7 = .int .i64 0 ∧ Hid (Upd NoB w wr)) (fun x7 _ => 0)
      case atStart => exact ⟨rfl, HU1⟩
      case round =>
        obtain ⟨rfl, hU⟩ := hrel
        go_wp2_with fail
        refine sched_begin NoB (by kernel_rfl) ?_
        have HUr := Lib.hid hU.out.drew
        refine sched_take 0 rfl (by kernel_rfl) (by kernel_rfl) (by kernel_rfl) (fun _ _ _ h => h) rfl (fun x hx => by go_simp; rfl) ?_
        go_simp
        refine sched_take 1 rfl (by kernel_rfl) (by kernel_rfl) (by kernel_rfl) (fun _ _ _ h => h) rfl (fun x hx => by go_simp; rfl) ?_
        go_simp
        refine sched_take 2 rfl (by kernel_rfl) (by kernel_rfl) (by kernel_rfl) (fun _ _ _ h => h) rfl (fun x hx => by go_simp; rfl) ?_
        go_simp
        refine sched_take 3 rfl (by kernel_rfl) (by kernel_rfl) (by kernel_rfl) (fun _ _ _ h => h) rfl (fun x hx => by go_simp; rfl) ?_
        go_simp
        refine sched_take 4 rfl (by kernel_rfl) (by kernel_rfl) (by kernel_rfl) (fun _ _ _ h => h) rfl (fun x hx => by go_simp; rfl) ?_
        go_simp
        refine sched_skip 5 rfl (by kernel_rfl) (by kernel_rfl) (by kernel_rfl) (fun _ _ _ h => h) rfl ?_
        go_simp
        refine sched_skip 6 rfl (by kernel_rfl) (by kernel_rfl) (by kernel_rfl) (fun _ _ _ h => h) rfl ?_
        go_simp
        refine sched_skip 7 rfl (by kernel_rfl) (by kernel_rfl) (by kernel_rfl) (fun _ _ _ h => h) rfl ?_
        go_simp
        refine sched_skip 8 rfl (by kernel_rfl) (by kernel_rfl) (by kernel_rfl) (fun _ _ _ h => h) rfl ?_
        go_simp
        refine sched_skip 9 rfl (by kernel_rfl) (by kernel_rfl) (by kernel_rfl) (fun _ _ _ h => h) rfl ?_
        go_simp
        refine sched_skip 10 rfl (by kernel_rfl) (by kernel_rfl) (by kernel_rfl) (fun _ _ _ h => h) rfl ?_
        go_simp
        refine sched_take 11 rfl (by kernel_rfl) (by kernel_rfl) (by kernel_rfl) (fun _ _ _ h => h) rfl (fun x hx => by go_simp; rfl) ?_
        go_simp
        refine sched_take 12 rfl (by kernel_rfl) (by kernel_rfl) (by kernel_rfl) (fun _ _ _ h => h) rfl (fun x hx => by go_simp; rfl) ?_
        go_simp
        refine sched_skip 13 rfl (by kernel_rfl) (by kernel_rfl) (by kernel_rfl) (fun _ _ _ h => h) rfl ?_
        go_simp
        refine sched_skip 14 rfl (by kernel_rfl) (by kernel_rfl) (by kernel_rfl) (fun _ _ _ h => h) rfl ?_
        go_simp
        refine sched_skip 15 rfl (by kernel_rfl) (by kernel_rfl) (by kernel_rfl) (fun _ _ _ h => h) rfl ?_
        go_simp
        refine sched_skip 16 rfl (by kernel_rfl) (by kernel_rfl) (by kernel_rfl) (fun _ _ _ h => h) rfl ?_
        go_simp
        refine sched_skip 17 rfl (by kernel_rfl) (by kernel_rfl) (by kernel_rfl) (fun _ _ _ h => h) rfl ?_
        go_simp
        refine sched_skip 18 rfl (by kernel_rfl) (by kernel_rfl) (by kernel_rfl) (fun _ _ _ h => h) rfl ?_
        go_simp
        refine sched_skip 19 rfl (by kernel_rfl) (by kernel_rfl) (by kernel_rfl) (fun _ _ _ h => h) rfl ?_
        go_simp
        refine sched_skip 20 rfl (by kernel_rfl) (by kernel_rfl) (by kernel_rfl) (fun _ _ _ h => h) rfl ?_
        go_simp
        refine sched_skip 21 rfl (by kernel_rfl) (by kernel_rfl) (by kernel_rfl) (fun _ _ _ h => h) rfl ?_
        go_simp
        refine sched_skip 22 rfl (by kernel_rfl) (by kernel_rfl) (by kernel_rfl) (fun _ _ _ h => h) rfl ?_
        go_simp
        refine sched_skip 23 rfl (by kernel_rfl) (by kernel_rfl) (by kernel_rfl) (fun _ _ _ h => h) rfl ?_
        go_simp
        refine sched_skip 24 rfl (by kernel_rfl) (by kernel_rfl) (by kernel_rfl) (fun _ _ _ h => h) rfl ?_
        go_simp
        refine sched_take 25 rfl (by kernel_rfl) (by kernel_rfl) (by kernel_rfl) (fun _ _ _ h => h) rfl (fun x hx => by go_simp; rfl) ?_
        go_simp
        refine sched_done (by kernel_rfl) ?_
        go_wp2_with fail
        go_ret
        exact ⟨rfl, HUr.out⟩
set_option maxHeartbeats 1000000 in
theorem from_nil (prev most : Int) (w : World) : Calls Try.prog 41 #[.pointer none, .int .i64 prev, .int .i64 most] w fun e w' => e = .returned (.slice none 0 0) ∧ Upd NoB w w' := by
  have hln := Lib.hid (len_nil w)
  have HU := Lib.hid (Upd.refl NoB w)
  by_cases h1 : prev < 0
  · have e1 : decide (prev < 0) = true := decide_eq_true h1
    clear h1
    go_enter Try.func41, Try.ntmps41
    go_wp2_with fail
    go_ret
    exact ⟨rfl, HU.out⟩
  · have e1 : decide (prev < 0) = false := decide_eq_false h1
    have e2 : decide (0 ≤ prev) = true := decide_eq_true (by omega)
    clear h1
    go_enter Try.func41, Try.ntmps41
    go_wp2_with fail
    refine hln.out.mono ?_
    rintro e w1 ⟨rfl, hu⟩
    have HU1 := Lib.hid hu
    clear hu
    go_wp2_with fail
    go_ret
    exact ⟨rfl, HU1.out⟩
theorem all_nil (w : World) : Calls Try.prog 45 #[.pointer none] w fun e w' => e = .returned (.slice none 0 0) ∧ Upd NoB w w' := by
  have hln := Lib.hid (len_nil w)
  have hfr := Lib.hid (from_nil 0 0)
  go_enter Try.func45, Try.ntmps45
  go_wp2_with fail
  refine hln.out.mono ?_
  rintro e w1 ⟨rfl, hu⟩
  have HU1 := Lib.hid hu
  clear hu
  go_wp2_with fail
  refine (hfr.out _).mono ?_
  rintro e w2 ⟨rfl, hu⟩
  have HU2 := Lib.hid (HU1.out.trans hu)
  clear hu
  go_wp2_with fail
  go_ret
  exact ⟨rfl, HU2.out⟩
theorem cut_nil (n : Int) (w : World) : Calls Try.prog 44 #[.pointer none, .int .i64 n] w fun e w' => e = .returned (.int .i64 2) ∧ Upd NoB w w' := by
  have HU := Lib.hid (Upd.refl NoB w)
  go_enter Try.func44, Try.ntmps44
  go_wp2_with fail
  go_ret
  exact ⟨rfl, HU.out⟩
set_option maxHeartbeats 1000000 in
theorem at_nil (i : Int) (w : World) : Calls Try.prog 43 #[.pointer none, .int .i64 i] w fun e w' => e = .returned (.tuple #[.agg #[.int .u64 0, .int .i64 0, .int .i64 0, .int .u64 0, .bool false, .slice none 0 0, .slice none 0 0, .int .i64 0, .int .u64 0, .int .i64 0], .bool false]) ∧ Upd NoB w w' := by
  have hh := Lib.hid (fun w => has_of _ _ i w (fun _ _ => trivial) (len_nil w))
  rw [decide_eq_false (show ¬ (1 ≤ i ∧ i ≤ 0) by omega)] at hh
  have hz := Lib.hid (fun (x : World) (hx : Upd NoB (w.alloc (.cells #[.int .u64 0, .int .i64 0, .int .i64 0, .int .u64 0, .bool false, .slice none 0 0, .slice none 0 0, .int .i64 0, .int .u64 0, .int .i64 0] 65)) x) =>
    show _ ∧ _ from ⟨ten_cells (hx.heap (heap_alloc_new w (.cells #[.int .u64 0, .int .i64 0, .int .i64 0, .int .u64 0, .bool false, .slice none 0 0, .slice none 0 0, .int .i64 0, .int .u64 0, .int .i64 0] 65 (0, 0))) (fun h => h)), show ∀ i, x.frozen? ⟨w.heap.size, i, none⟩ = false from fun i => by simp [World.frozen?, hx.heap (heap_alloc_new w (.cells #[.int .u64 0, .int .i64 0, .int .i64 0, .int .u64 0, .bool false, .slice none 0 0, .slice none 0 0, .int .i64 0, .int .u64 0, .int .i64 0] 65 (0, 0))) (fun h => h)]⟩)
  have HU := Lib.hid (fun o => (Upd.refl NoB w).alloc o)
  have hset := Lib.hid (fun (x : World) (hx : Upd NoB w x) (i : Nat) (u : Value) => hx.setCell (p := ⟨w.heap.size, i, none⟩) (fun e => absurd e (by simp)) u)
  go_enter Try.func43, Try.ntmps43
  go_wp2_with fail
  refine (hh.out _).mono ?_
  rintro e w1 ⟨rfl, hu⟩
  obtain ⟨⟨y0, y1, y2, y3, y4, y5, y6, y7, y8, y9⟩, f⟩ := hz.out w1 hu
  have HU1 := Lib.hid ((HU.out _).trans hu)
  clear hu
  go_wp2_with fail
  exact bodyPost_ret (v := .tuple #[.agg #[.int .u64 0, .int .i64 0, .int .i64 0, .int .u64 0, .bool false, .slice none 0 0, .slice none 0 0, .int .i64 0, .int .u64 0, .int .i64 0], .bool false]) (by simp [results, Try.results43, go_sem, *]) rfl ⟨rfl, (hset.out _ (hset.out _ (hset.out _ (hset.out _ (hset.out _ (hset.out _ (hset.out _ (hset.out _ (hset.out _ (hset.out _ HU1.out 0 _) 1 _) 2 _) 3 _) 4 _) 5 _) 6 _) 7 _) 8 _) 9 _)⟩
def fA : List Fin := [⟨1, 1⟩]
def fB : List Fin := [⟨1, 1⟩, ⟨1, 1⟩]
def fC : List Fin := [⟨1, 1⟩, ⟨1, 1⟩, ⟨2, 1⟩]
theorem awf : fitB fC 2 1 = true := by kernel_rfl
theorem aws : sameN fC 1 [⟨1, 1⟩, ⟨3, 1⟩] = 1 := by kernel_rfl
theorem lit_two (w : World) (a b c d : Int) (t : TypeId) : RSl Rep.fin (w.alloc (.cells #[.int .u64 a, .int .i64 2, .int .i64 0, .int .u64 0, .bool false, .slice none 0 0, .slice none 0 0, .int .i64 0, .int .u64 b, .int .i64 0, .int .u64 c, .int .i64 2, .int .i64 0, .int .u64 0, .bool false, .slice none 0 0, .slice none 0 0, .int .i64 0, .int .u64 d, .int .i64 0] t)) (fun _ => True) (.slice (some ⟨w.heap.size, 0, none⟩) 2 2) [⟨a, b⟩, ⟨c, d⟩] :=
  (OSl.lit (r := Rep.fin) (e := t) (w := w) (S := fun _ => True) (T := NoB) (l := [⟨a, b⟩, ⟨c, d⟩]) #[.int .u64 a, .int .i64 2, .int .i64 0, .int .u64 0, .bool false, .slice none 0 0, .slice none 0 0, .int .i64 0, .int .u64 b, .int .i64 0, .int .u64 c, .int .i64 2, .int .i64 0, .int .u64 0, .bool false, .slice none 0 0, .slice none 0 0, .int .i64 0, .int .u64 d, .int .i64 0] 2 rfl (by decide) ⟨finC ⟨a, b⟩, _, rfl, rfl, ⟨finC ⟨c, d⟩, [], rfl, rfl, rfl⟩⟩ (fun _ h => h.elim) (fun _ h => h.elim) trivial).read
theorem Ll.step {w w1 w2 : World} {p : Nat} (hu : Upd (fun b => b = p ∨ New w w1 [p] b) w1 w2) (h : Upd NoB w w1) (hp : w.heap.size ≤ p) : Upd NoB w w2 :=
  h.then hu (fun i hi e => by
    rcases e with e | e
    · omega
    · have := e.1
      omega)
set_option maxHeartbeats 2000000 in
set_option maxRecDepth 100000 in
theorem linksAwake_any (w : World) : Calls Try.prog 35 #[] w fun e w' => e = .returned (.bool true) ∧ Upd NoB w w' := by
  go_enter Try.func35, Try.ntmps35
  go_wp2_with fail
  refine (newlog_any _).mono ?_
  rintro e w1 ⟨p, rfl, hp, hu, hk⟩
  have HU1 := Lib.hid hu
  have HK1 := Lib.hid (hk w [p])
  clear hu hk
  go_wp2_with fail
  refine (one_any 1 _).mono ?_
  rintro e w2a ⟨rfl, hu⟩
  have HU2a := Lib.hid (HU1.out.trans hu)
  have HK2a := Lib.hid (HK1.out.keep hu (fun h => h) (fun _ h => h.elim))
  clear hu
  have HA := Lib.hid (add_any w [p] p [] 1 1 w2a HK2a.out (by decide) (by decide) (by decide) (by decide) (by simp) (fun x hx => by simp at hx; subst hx; exact HK2a.out.lt) HU2a.out.size)
  unfold finV
  unfold finV at HA
  go_wp2_with fail
  refine HA.out.mono ?_
  rintro e w2 ⟨rfl, hk, hu⟩
  have HU2 := Lib.hid (Ll.step hu HU2a.out hp)
  have HK2 := Lib.hid (show Ll w w2 [p] p fA from hk)
  clear hu hk HA
  go_wp2_with fail
  refine (one_any 1 _).mono ?_
  rintro e w3a ⟨rfl, hu⟩
  have HU3a := Lib.hid (HU2.out.trans hu)
  have HK3a := Lib.hid (HK2.out.keep hu (fun h => h) (fun _ h => h.elim))
  clear hu
  have HA := Lib.hid (add_any w [p] p fA 1 1 w3a HK3a.out (by decide) (by decide) (by decide) (by decide) (by simp) (fun x hx => by simp at hx; subst hx; exact HK3a.out.lt) HU3a.out.size)
  unfold finV
  unfold finV at HA
  go_wp2_with fail
  refine HA.out.mono ?_
  rintro e w3 ⟨rfl, hk, hu⟩
  have HU3 := Lib.hid (Ll.step hu HU3a.out hp)
  have HK3 := Lib.hid (show Ll w w3 [p] p fB from hk)
  clear hu hk HA
  go_wp2_with fail
  refine (one_any 2 _).mono ?_
  rintro e w4a ⟨rfl, hu⟩
  have HU4a := Lib.hid (HU3.out.trans hu)
  have HK4a := Lib.hid (HK3.out.keep hu (fun h => h) (fun _ h => h.elim))
  clear hu
  have HA := Lib.hid (add_any w [p] p fB 2 1 w4a HK4a.out (by decide) (by decide) (by decide) (by decide) (by simp) (fun x hx => by simp at hx; subst hx; exact HK4a.out.lt) HU4a.out.size)
  unfold finV
  unfold finV at HA
  go_wp2_with fail
  refine HA.out.mono ?_
  rintro e w4 ⟨rfl, hk, hu⟩
  have HU4 := Lib.hid (Ll.step hu HU4a.out hp)
  have HK4 := Lib.hid (show Ll w w4 [p] p fC from hk)
  clear hu hk HA
  go_wp2_with fail
  refine (fits_any w [p] p fC 2 1 w4 HK4.out (by decide)).mono ?_
  rintro e w5 ⟨rfl, hu⟩
  rw [awf]
  have HU5 := Lib.hid (HU4.out.trans hu)
  have HK5 := Lib.hid (HK4.out.keep hu (fun h => h) (fun _ h => h.elim))
  clear hu
  go_wp2_with fail
  refine (one_any 1 _).mono ?_
  rintro e w6 ⟨rfl, hu⟩
  have HU6 := Lib.hid (HU5.out.trans hu)
  have HK6 := Lib.hid (HK5.out.keep hu (fun h => h) (fun _ h => h.elim))
  clear hu
  unfold finV
  go_wp2_with fail
  refine (one_any 3 _).mono ?_
  rintro e w7 ⟨rfl, hu⟩
  have HU7 := Lib.hid (HU6.out.trans hu)
  have HK7 := Lib.hid (HK6.out.keep hu (fun h => h) (fun _ h => h.elim))
  clear hu
  unfold finV
  have HL := Lib.hid (lit_two w7 1 1 3 1 65)
  have HS := Lib.hid (same_any w [p] p fC _ _ 1 _ (HK7.out.keep ((Upd.refl NoB _).alloc _) (fun h => h) (fun _ h => h.elim)) HL.out (by decide) (by decide))
  have HU8 := Lib.hid (fun o => HU7.out.alloc o)
  go_wp2_with fail
  refine HS.out.mono ?_
  rintro e w9 ⟨rfl, hu⟩
  rw [aws]
  have HU9 := Lib.hid ((HU8.out _).trans hu)
  clear hu
  go_wp2_with fail
  go_ret
  exact ⟨rfl, HU9.out⟩
set_option maxHeartbeats 4000000 in
set_option maxRecDepth 100000 in
theorem linksNil_walk (i ep : Int) (w : World) :
    Calls Try.prog 9 #[.int .i64 i, .int .u64 ep] w fun e w' => e = .returned (.bool true) ∧ Upd NoB w w' := by
  go_enter Try.func9, Try.ntmps9
  go_wp2_with fail
  refine (at_nil i _).mono ?_
  rintro e w1 ⟨rfl, hu⟩
  have HU1 := Lib.hid (fun o => hu.alloc o)
  clear hu
  go_wp2_with fail
  refine (len_nil _).mono ?_
  rintro e w2 ⟨rfl, hu⟩
  have HU2 := Lib.hid ((HU1.out _).trans hu)
  clear hu
  go_wp2_with fail
  refine (epoch_nil i _).mono ?_
  rintro e w3 ⟨rfl, hu⟩
  have HU3 := Lib.hid (HU2.out.trans hu)
  clear hu
  go_wp2_with fail
  refine (one_any 1 _).mono ?_
  rintro e w4 ⟨rfl, hu⟩
  have HU4 := Lib.hid (HU3.out.trans hu)
  have HA := Lib.hid (add_nil 1 1)
  clear hu
  unfold finV
  unfold finV at HA
  go_wp2_with fail
  refine (HA.out _).mono ?_
  rintro e w5 ⟨rfl, hu⟩
  have HU5 := Lib.hid (HU4.out.trans hu)
  clear hu
  go_wp2_with fail
  refine (cut_nil i _).mono ?_
  rintro e w6 ⟨rfl, hu⟩
  have HU6 := Lib.hid (HU5.out.trans hu)
  clear hu
  go_wp2_with fail
  refine (from_nil i 3 _).mono ?_
  rintro e w7 ⟨rfl, hu⟩
  have HU7 := Lib.hid (HU6.out.trans hu)
  clear hu
  go_wp2_with fail
  refine (fits_nil i ep _).mono ?_
  rintro e w8 ⟨rfl, hu⟩
  have HU8 := Lib.hid (HU7.out.trans hu)
  clear hu
  go_wp2_with fail
  refine (same_nil i _).mono ?_
  rintro e w9 ⟨rfl, hu⟩
  have HU9 := Lib.hid (HU8.out.trans hu)
  clear hu
  go_wp2_with fail
  refine (all_nil _).mono ?_
  rintro e w10 ⟨rfl, hu⟩
  have HU10 := Lib.hid (HU9.out.trans hu)
  clear hu
  go_wp2_with fail
  refine (linksAwake_any _).mono ?_
  rintro e w11 ⟨rfl, hu⟩
  have HU11 := Lib.hid (HU10.out.trans hu)
  clear hu
  go_wp2_with fail
  go_ret
  exact ⟨rfl, HU11.out⟩
end Go.Proofs.Ytobfolkcpfaplaa
