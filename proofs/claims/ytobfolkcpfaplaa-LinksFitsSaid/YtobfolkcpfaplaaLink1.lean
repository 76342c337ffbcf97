/- A log of entries that end something (no transaction in them), function by function (1). -/
import Derived.Test.YtobfolkcpfaplaaProg
import Derived.Test.YtobfolkcpfaplaaMine
import Derived.Test.YtobfolkcpfaplaaSched2
import Derived.Test.YtobfolkcpfaplaaHeld
import Derived.Lib.Hide
import Derived.ProofKit
namespace Go.Proofs.Ytobfolkcpfaplaa
open Go.RowKit Kit
set_option linter.unusedVariables false

/-- An entry that ends something: its epoch, its number. -/
structure Fin where
  ep : Int
  sq : Int
def finC (x : Fin) : List Value := [.int .u64 x.ep, .int .i64 2, .int .i64 0, .int .u64 0, .bool false, .slice none 0 0, .slice none 0 0, .int .i64 0, .int .u64 x.sq, .int .i64 0]
def Rep.fin : Rep Fin where
  sz := 10
  pos := by decide
  rep _ _ x cs := cs = finC x
  len h := by rw [h]; rfl
  one h := by rw [h]; intro u hu; simp [finC] at hu; rcases hu with rfl | rfl | rfl | rfl | rfl | rfl | rfl | rfl | rfl | rfl | rfl <;> rfl
  keep h _ _ := h
theorem flat_fin : Flat Rep.fin := fun h _ _ => h

/-- At block p lies a log. -/
def Ll (w0 w : World) (xs : List Nat) (p : Nat) (l : List Fin) : Prop :=
  ∃ v, w.heap[p]? = some (.cells #[v] 114 (0, 0)) ∧ OSl Rep.fin 65 w (New w0 w xs) v l
section
variable {w0 w w' : World} {xs : List Nat} {p : Nat} {l : List Fin} {F : Nat → Prop}
theorem Ll.keep (h : Ll w0 w xs p l) (u : Upd F w w') (hp : ¬ F p) (hf : ∀ b, F b → b ∈ xs ∨ b < w0.heap.size) : Ll w0 w' xs p l := by
  obtain ⟨v, h1, h2⟩ := h
  exact ⟨v, u.heap h1 hp, h2.new_keep u hf⟩
theorem Ll.lt (h : Ll w0 w xs p l) : p < w.heap.size := by
  obtain ⟨v, h1, _⟩ := h
  exact lt_of_heap h1
theorem one_cell {x : World} {b : Nat} {T : TypeId} {fr : Nat × Nat} {c0 : Value} (h : x.heap[b]? = some (.cells #[c0] T fr)) : x.cell? ⟨b, 0, none⟩ = some c0 := by
  simp [World.cell?, h]
end
set_option maxHeartbeats 1000000 in
theorem newlog_any (w : World) : Calls Try.prog 27 #[] w fun e w' => ∃ p, e = .returned (.pointer (some ⟨p, 0, none⟩)) ∧ w.heap.size ≤ p ∧ Upd NoB w w' ∧ ∀ w0 xs, Ll w0 w' xs p [] := by
  have HU := Lib.hid (fun o => (Upd.refl NoB w).alloc o)
  have hn := Lib.hid (heap_alloc_new w (.cells #[.slice none 0 0] 114 (0, 0)))
  go_enter Try.func27, Try.ntmps27
  go_wp2_with fail
  go_ret
  exact ⟨_, rfl, Nat.le_refl _, HU.out _, fun w0 xs => ⟨_, hn.out, OSl.nil _ _ _⟩⟩
theorem len_any (w0 : World) (xs : List Nat) (p : Nat) (l : List Fin) (w : World) (h : Ll w0 w xs p l) : Calls Try.prog 38 #[.pointer (some ⟨p, 0, none⟩)] w fun e w' => e = .returned (.int .i64 l.length) ∧ Upd NoB w w' := by
  obtain ⟨v, h1, h2⟩ := h
  have c0 := one_cell h1
  obtain ⟨A, c, _, rfl, _⟩ := h2.read
  have HU := Lib.hid (Upd.refl NoB w)
  clear h1 h2
  go_enter Try.func38, Try.ntmps38
  go_wp2_with fail
  go_ret
  exact ⟨rfl, HU.out⟩
theorem len_nil (w : World) : Calls Try.prog 38 #[.pointer none] w fun e w' => e = .returned (.int .i64 0) ∧ Upd NoB w w' := by
  have HU := Lib.hid (Upd.refl NoB w)
  go_enter Try.func38, Try.ntmps38
  go_wp2_with fail
  go_ret
  exact ⟨rfl, HU.out⟩
theorem has_of (v : Value) (n i : Int) (w : World) (hl : ∀ w, Upd NoB w w → True) (hlen : Calls Try.prog 38 #[v] w fun e w' => e = .returned (.int .i64 n) ∧ Upd NoB w w') :
    Calls Try.prog 62 #[v, .int .i64 i] w fun e w' => e = .returned (.bool (decide (1 ≤ i ∧ i ≤ n))) ∧ Upd NoB w w' := by
  have hh := Lib.hid hlen
  have HU := Lib.hid (Upd.refl NoB w)
  clear hlen
  by_cases h1 : 1 ≤ i
  · have e1 : decide (1 ≤ i) = true := decide_eq_true h1
    rw [show decide (1 ≤ i ∧ i ≤ n) = decide (i ≤ n) from by simp [h1]]
    clear h1
    skip
    go_enter Try.func62, Try.ntmps62
    go_wp2_with fail
    refine hh.out.mono ?_
    rintro e w1 ⟨rfl, hu⟩
    have HU1 := Lib.hid hu
    clear hu
    go_wp2_with fail
    go_ret
    exact ⟨rfl, HU1.out⟩
  · have e1 : decide (1 ≤ i) = false := decide_eq_false h1
    rw [show decide (1 ≤ i ∧ i ≤ n) = false from by simp [h1]]
    clear h1
    skip
    go_enter Try.func62, Try.ntmps62
    go_wp2_with fail
    go_ret
    exact ⟨rfl, HU.out⟩
/-- The epoch of the entry of a number. -/
def epL (l : List Fin) (i : Int) : Int := if 1 ≤ i ∧ i ≤ (l.length : Int) then ((l.getD (i.toNat - 1) ⟨0, 0⟩).ep) else 0
set_option maxHeartbeats 1000000 in
theorem epoch_any (w0 : World) (xs : List Nat) (p : Nat) (l : List Fin) (i : Int) (w : World) (h : Ll w0 w xs p l) (hl : l.length ≤ 100000) : Calls Try.prog 40 #[.pointer (some ⟨p, 0, none⟩), .int .i64 i] w fun e w' => e = .returned (.int .u64 (epL l i)) ∧ Upd NoB w w' := by
  have hh := Lib.hid (has_of _ _ i w (fun _ _ => trivial) (len_any w0 xs p l w h))
  have HK := Lib.hid (fun w1 (hu : Upd NoB w w1) => h.keep hu (fun h => h) (fun _ h => h.elim))
  clear h
  by_cases hi : 1 ≤ i ∧ i ≤ (l.length : Int)
  · rw [decide_eq_true hi] at hh
    obtain ⟨k, rfl⟩ : ∃ k : Nat, i = (k : Int) + 1 := ⟨(i - 1).toNat, by omega⟩
    have hk : k < l.length := by omega
    rw [show epL l ((k : Int) + 1) = (l[k]'hk).ep by
      unfold epL
      rw [if_pos hi, show (((k : Int) + 1).toNat - 1) = k by omega, List.getD_eq_getElem?_getD, List.getElem?_eq_getElem hk]; rfl]
    have w1e : IntKind.i64.wrap ((k : Int) + 1 - 1) = k := by simp only [IntKind.wrap_i64]; omega
    have w1f : IntKind.i64.wrap (k : Int) = k := by simp only [IntKind.wrap_i64]; omega
    clear hi
    go_enter Try.func40, Try.ntmps40
    go_wp2_with fail
    refine hh.out.mono ?_
    rintro e w1 ⟨rfl, hu⟩
    obtain ⟨v, h1, h2⟩ := HK.out w1 hu
    have c0 := one_cell h1
    obtain ⟨A, c, _, rfl, _⟩ := h2.read
    obtain ⟨g, o, cs, rfl, hr, hc, _⟩ := h2.read.cellN k hk
    have hr' : cs = finC (l[k]'hk) := hr
    subst hr'
    have c1 := hc 0 _ rfl
    have HU1 := Lib.hid hu
    clear hu h1 h2 hr hc
    have hz : Rep.fin.sz = 10 := rfl
    rw [hz, Nat.add_zero] at c1
    have k0 : (0 : Int) ≤ (k : Int) := by omega
    go_wp2_with fail
    go_ret
    exact ⟨rfl, HU1.out⟩
  · rw [decide_eq_false hi] at hh
    rw [show epL l i = 0 by unfold epL; rw [if_neg hi]]
    clear hi
    go_enter Try.func40, Try.ntmps40
    go_wp2_with fail
    refine hh.out.mono ?_
    rintro e w1 ⟨rfl, hu⟩
    have HU1 := Lib.hid hu
    clear hu
    go_wp2_with fail
    go_ret
    exact ⟨rfl, HU1.out⟩
theorem epoch_nil (i : Int) (w : World) : Calls Try.prog 40 #[.pointer none, .int .i64 i] w fun e w' => e = .returned (.int .u64 0) ∧ Upd NoB w w' := by
  have hh := Lib.hid (has_of _ _ i w (fun _ _ => trivial) (len_nil w))
  rw [decide_eq_false (show ¬ (1 ≤ i ∧ i ≤ 0) by omega)] at hh
  go_enter Try.func40, Try.ntmps40
  go_wp2_with fail
  refine hh.out.mono ?_
  rintro e w1 ⟨rfl, hu⟩
  have HU1 := Lib.hid hu
  clear hu
  go_wp2_with fail
  go_ret
  exact ⟨rfl, HU1.out⟩
end Go.Proofs.Ytobfolkcpfaplaa
