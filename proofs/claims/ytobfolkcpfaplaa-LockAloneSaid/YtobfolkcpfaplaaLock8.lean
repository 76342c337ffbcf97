/- Who holds what, function by function (8): what a table that is not there answers; the chapter's example; LockNil's walk. -/
import Derived.Test.YtobfolkcpfaplaaLock7
namespace Go.Proofs.Ytobfolkcpfaplaa
open Go.RowKit Kit
set_option linter.unusedVariables false

set_option maxHeartbeats 1000000 in
theorem take_nil (cl sq a : Int) (w : World) :
    Calls Try.prog 12 #[.pointer none, .agg #[.int .i64 cl, .int .u64 sq], .int .i64 a, .slice none 0 0, .slice none 0 0] w fun e w' => e = .returned (.int .i64 2) ∧ Upd NoB w w' := by
  have HU := Lib.hid (fun o => (Upd.refl NoB w).alloc o)
  go_enter Try.func12, Try.ntmps12
  go_wp2_with fail
  go_ret
  exact ⟨rfl, HU.out _⟩
set_option maxHeartbeats 1000000 in
theorem free_nil (cl sq a : Int) (w : World) :
    Calls Try.prog 14 #[.pointer none, .agg #[.int .i64 cl, .int .u64 sq], .int .i64 a] w fun e w' => e = .returned (.int .i64 2) ∧ Upd NoB w w' := by
  have HU := Lib.hid (fun o => (Upd.refl NoB w).alloc o)
  have hf := Lib.hid (fun w => find_nil cl sq w)
  go_enter Try.func14, Try.ntmps14
  go_wp2_with fail
  refine (hf.out _).mono ?_
  rintro e w1 ⟨rfl, hu⟩
  have HU1 := Lib.hid ((HU.out _).trans hu)
  clear hu
  go_wp2_with fail
  go_ret
  exact ⟨rfl, HU1.out⟩
set_option maxHeartbeats 1000000 in
theorem writer_nil (key : ByteArray) (n : Int) (w : World) :
    Calls Try.prog 25 #[.pointer none, .string key, .int .i64 n] w fun e w' => e = .returned (.tuple #[.agg #[.int .i64 0, .int .u64 0], .bool false]) ∧ Upd NoB w w' := by
  have hfin := Lib.hid (fun o => (Upd.refl NoB w).alloc o)
  go_enter Try.func25, Try.ntmps25
  go_wp2_with fail
  refine bodyPost_ret (v := .tuple #[.agg #[.int .i64 0, .int .u64 0], .bool false]) (by simp [results, Try.results25, go_sem, *]) rfl ⟨rfl, hfin.out _⟩

def kA : ByteArray := { data := #[97] }
def sA1 : List Span := [⟨1, 1, [kA], [], 1, 0⟩]
def sA2 : List Span := [⟨1, 1, [kA], [], 1, 0⟩, ⟨2, 1, [kA], [], 2, 0⟩]
theorem awk1 : takeL [] 0 1 1 1 [kA] [] = (0, sA1, 1) := by kernel_rfl
theorem awk2 : takeL sA1 1 2 1 2 [kA] [] = (0, sA2, 2) := by kernel_rfl
theorem awk3 : takeL sA2 2 3 1 3 [] [kA] = (11, sA2, 2) := by kernel_rfl
theorem awk4 : lenS sA2 = 2 := by kernel_rfl
theorem box_str (s : ByteArray) (hs : s.size ≤ maxLen) (w : World) (t : TypeId) : RSl Rep.str (w.alloc (.cells #[.string s] t)) (fun _ => True) (.slice (some ⟨w.heap.size, 0, none⟩) 1 1) [s] :=
  (OSl.lit (r := Rep.str) (e := t) (w := w) (S := fun _ => True) (T := NoB) (l := [s]) #[.string s] 1 rfl (by decide) ⟨_, [], rfl, ⟨rfl, hs⟩, rfl⟩ (fun _ h => h.elim) (fun _ h => h.elim) trivial).read
/-- A table that a call has made: it alone is told apart. -/
theorem Lk.step {w w1 w2 : World} {p : Nat} (hu : Upd (fun b => b = p ∨ New w w1 [p] b) w1 w2) (h : Upd NoB w w1) (hp : w.heap.size ≤ p) : Upd NoB w w2 :=
  h.then hu (fun i hi e => by
    rcases e with e | e
    · omega
    · have := e.1
      omega)
set_option maxHeartbeats 2000000 in
set_option maxRecDepth 100000 in
theorem lockAwake_any (w : World) : Calls Try.prog 16 #[] w fun e w' => e = .returned (.bool true) ∧ Upd NoB w w' := by
  go_enter Try.func16, Try.ntmps16
  go_wp2_with fail
  refine (newlock_any _).mono ?_
  rintro e w1 ⟨p, rfl, hp, hu, hk⟩
  have HU1 := Lib.hid hu
  have HK1 := Lib.hid (hk w [p])
  clear hu hk
  have hub := (Upd.refl NoB w1).alloc (.cells #[.string kA] 9)
  have hb := box_str kA (by decide) w1 9
  have HT := Lib.hid (fun (vr vw : Value) (S T : Nat → Prop) (cl sq a : Int) (rd wr : List ByteArray) (hr : RSl Rep.str _ S vr rd) (hw : RSl Rep.str _ T vw wr) (h1 : rd.length ≤ 1000) (h2 : wr.length ≤ 1000) =>
    take_any w [p] p [] 0 cl sq a vr vw rd wr _ (HK1.out.keep hub (fun h => h) (fun _ h => h.elim)) hr hw (by simp) (fun x hx => by simp at hx; subst hx; simp; have := HK1.out.lt; omega) (by simp; have := HU1.out.size; omega) (by decide) h1 h2)
  have HUb := Lib.hid (HU1.out.trans hub)
  have HB := Lib.hid hb
  clear hub hb
  go_wp2_with fail
  refine (HT.out _ _ _ _ 1 1 1 _ _ HB.out (RSl.nil _ NoB) (by decide) (by decide)).mono ?_
  rintro e w2 ⟨rfl, hk, hu⟩
  rw [awk1] at hk
  have HU2 := Lib.hid (Lk.step hu HUb.out hp)
  have HK2 := Lib.hid hk
  clear hu hk HUb HB HT
  have hub := (Upd.refl NoB w2).alloc (.cells #[.string kA] 9)
  have hb := box_str kA (by decide) w2 9
  have HT := Lib.hid (fun (vr vw : Value) (S T : Nat → Prop) (cl sq a : Int) (rd wr : List ByteArray) (hr : RSl Rep.str _ S vr rd) (hw : RSl Rep.str _ T vw wr) (h1 : rd.length ≤ 1000) (h2 : wr.length ≤ 1000) =>
    take_any w [p] p sA1 1 cl sq a vr vw rd wr _ (HK2.out.keep hub (fun h => h) (fun _ h => h.elim)) hr hw (by simp) (fun x hx => by simp at hx; subst hx; simp; have := HK2.out.lt; omega) (by simp; have := HU2.out.size; omega) (by decide) h1 h2)
  have HUb := Lib.hid (HU2.out.trans hub)
  have HB := Lib.hid hb
  clear hub hb
  rw [awk1]
  go_wp2_with fail
  refine (HT.out _ _ _ _ 2 1 2 _ _ HB.out (RSl.nil _ NoB) (by decide) (by decide)).mono ?_
  rintro e w3 ⟨rfl, hk, hu⟩
  rw [awk2] at hk
  have HU3 := Lib.hid (Lk.step hu HUb.out hp)
  have HK3 := Lib.hid hk
  clear hu hk HUb HB HT
  have hub := (Upd.refl NoB w3).alloc (.cells #[.string kA] 9)
  have hb := box_str kA (by decide) w3 9
  have HT := Lib.hid (fun (vr vw : Value) (S T : Nat → Prop) (cl sq a : Int) (rd wr : List ByteArray) (hr : RSl Rep.str _ S vr rd) (hw : RSl Rep.str _ T vw wr) (h1 : rd.length ≤ 1000) (h2 : wr.length ≤ 1000) =>
    take_any w [p] p sA2 2 cl sq a vr vw rd wr _ (HK3.out.keep hub (fun h => h) (fun _ h => h.elim)) hr hw (by simp) (fun x hx => by simp at hx; subst hx; simp; have := HK3.out.lt; omega) (by simp; have := HU3.out.size; omega) (by decide) h1 h2)
  have HUb := Lib.hid (HU3.out.trans hub)
  have HB := Lib.hid hb
  clear hub hb
  rw [awk2]
  go_wp2_with fail
  refine (HT.out _ _ _ _ 3 1 3 _ _ (RSl.nil _ NoB) HB.out (by decide) (by decide)).mono ?_
  rintro e w4 ⟨rfl, hk, hu⟩
  rw [awk3] at hk
  have HU4 := Lib.hid (Lk.step hu HUb.out hp)
  have HK4 := Lib.hid hk
  clear hu hk HUb HB HT
  rw [awk3]
  go_wp2_with fail
  refine (len_any w [p] p sA2 2 w4 HK4.out (by decide)).mono ?_
  rintro e w5 ⟨rfl, hu⟩
  rw [awk4]
  have HU5 := Lib.hid (HU4.out.trans hu)
  clear hu
  go_wp2_with fail
  go_ret
  exact ⟨rfl, HU5.out⟩

set_option maxHeartbeats 4000000 in
set_option maxRecDepth 100000 in
theorem lockNil_walk (kd cl sq a : Int) (A B : Option Addr) (m n c d : Nat) (key : ByteArray) (w : World) :
    Calls Try.prog 6 #[.agg #[.int .i64 kd, .int .i64 cl, .int .u64 sq, .int .i64 a, .slice A m c, .slice B n d], .string key] w fun e w' => e = .returned (.bool true) ∧ Upd NoB w w' := by
  obtain ⟨wa, hwa⟩ : ∃ wa, w.alloc (.cells #[.int .i64 kd, .int .i64 cl, .int .u64 sq, .int .i64 a, .slice A m c, .slice B n d] 34) = wa := ⟨_, rfl⟩
  have hua : Upd NoB w wa := by rw [← hwa]; exact (Upd.refl _ _).alloc _
  have hB : wa.heap[w.heap.size]? = some (.cells #[.int .i64 kd, .int .i64 cl, .int .u64 sq, .int .i64 a, .slice A m c, .slice B n d] 34 (0, 0)) := by rw [← hwa]; exact heap_alloc_new _ _
  have hcell := Lib.hid (fun x (hx : Upd NoB wa x) => show x.cell? ⟨w.heap.size, 1, none⟩ = some (.int .i64 cl) ∧ x.cell? ⟨w.heap.size, 2, none⟩ = some (.int .u64 sq) ∧ x.cell? ⟨w.heap.size, 3, none⟩ = some (.int .i64 a) from by
    obtain ⟨_, q1, q2, q3, _⟩ := six_cells (hx.heap hB (fun h => h))
    exact ⟨q1, q2, q3⟩)
  obtain ⟨k1, k2, k3⟩ := hcell.out wa (Upd.refl _ _)
  have HUa := Lib.hid hua
  have HU0 := Lib.hid (Upd.refl NoB wa)
  have hslt : w.heap.size < wa.heap.size := lt_of_heap hB
  clear hua hB
  go_enter Try.func6, Try.ntmps6
  go_wp2_with fail
  refine (writer_nil key a wa).mono ?_
  rintro e w1 ⟨rfl, hu⟩
  have hz1 : w.heap.size < w1.heap.size := Nat.lt_of_lt_of_le hslt hu.size
  obtain ⟨k1, k2, k3⟩ := hcell.out w1 hu
  have HU1 := Lib.hid hu
  have HU2 := Lib.hid (fun o => hu.alloc o)
  clear hu
  go_wp2_with fail
  refine (take_nil cl sq a _).mono ?_
  rintro e w3 ⟨rfl, hu⟩
  have HU3 := Lib.hid ((HU2.out _).trans hu)
  obtain ⟨k1, k2, k3⟩ := hcell.out w3 HU3.out
  clear hu
  go_wp2_with fail
  refine (free_nil cl sq a _).mono ?_
  rintro e w4 ⟨rfl, hu⟩
  have HU4 := Lib.hid (HU3.out.trans hu)
  obtain ⟨k1, k2, k3⟩ := hcell.out w4 HU4.out
  clear hu
  go_wp2_with fail
  refine (holds_nil cl sq _).mono ?_
  rintro e w5 ⟨rfl, hu⟩
  have HU5 := Lib.hid (HU4.out.trans hu)
  obtain ⟨k1, k2, k3⟩ := hcell.out w5 HU5.out
  clear hu
  go_wp2_with fail
  refine (busy_nil key true _).mono ?_
  rintro e w6 ⟨rfl, hu⟩
  have HU6 := Lib.hid (HU5.out.trans hu)
  obtain ⟨k1, k2, k3⟩ := hcell.out w6 HU6.out
  clear hu
  go_wp2_with fail
  refine (len_nil _).mono ?_
  rintro e w7 ⟨rfl, hu⟩
  have HU7 := Lib.hid (HU6.out.trans hu)
  obtain ⟨k1, k2, k3⟩ := hcell.out w7 HU7.out
  clear hu
  go_wp2_with fail
  refine (lockAwake_any _).mono ?_
  rintro e w8 ⟨rfl, hu⟩
  have HU8 := Lib.hid (HUa.out.trans (HU7.out.trans hu))
  clear hu
  go_wp2_with fail
  go_ret
  exact ⟨rfl, HU8.out⟩
end Go.Proofs.Ytobfolkcpfaplaa
