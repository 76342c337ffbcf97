/- A table of slots, function by function (1): words; the map that it keeps; one that is new. -/
import Derived.Test.YtmcpcladjfddmaaProg
import Derived.Test.YtmcpcladjfddmaaMine
import Derived.Test.YtmcpcladjfddmaaSched
import Derived.Lib.Hide
import Derived.ProofKit
import Derived.Maps.OwnSet
namespace Go.Proofs.Ytmcpcladjfddmaa
open Go.RowKit Kit
set_option linter.unusedVariables false

/-- What a client asked last. -/
structure Slot where
  seq : Int
  opn : Bool
  at_ : Int
  code : Int
  num : Int
instance : DecidableEq Slot := fun x y => decidable_of_iff (x.seq = y.seq ∧ x.opn = y.opn ∧ x.at_ = y.at_ ∧ x.code = y.code ∧ x.num = y.num)
  ⟨fun ⟨a, b, c, d, e⟩ => by cases x; cases y; simp only at a b c d e; subst a b c d e; rfl, fun h => by subst h; exact ⟨rfl, rfl, rfl, rfl, rfl⟩⟩
def Slot.zero : Slot := ⟨0, false, 0, 0, 0⟩
def Slot.cells (s : Slot) : Array Value := #[.int .u64 s.seq, .bool s.opn, .int .i64 s.at_, .int .i64 s.code, .int .u64 s.num]
def Slot.val (s : Slot) : Value := .agg s.cells
def Slot.dat (s : Slot) : DataW Unit := .agg [.lit (.int .u64 s.seq), .lit (.bool s.opn), .lit (.int .i64 s.at_), .lit (.int .i64 s.code), .lit (.int .u64 s.num)]
theorem Slot.val_inj {a b : Slot} (h : a.val = b.val) : a = b := by
  obtain ⟨a1, a2, a3, a4, a5⟩ := a
  obtain ⟨b1, b2, b3, b4, b5⟩ := b
  simp [Slot.val, Slot.cells] at h
  obtain ⟨rfl, rfl, rfl, rfl, rfl⟩ := h
  rfl
theorem Slot.dat_inj {a b : Slot} (h : a.dat = b.dat) : a = b := by
  obtain ⟨a1, a2, a3, a4, a5⟩ := a
  obtain ⟨b1, b2, b3, b4, b5⟩ := b
  simp [Slot.dat] at h
  obtain ⟨rfl, rfl, rfl, rfl, rfl⟩ := h
  rfl
open Classical in
/-- How an element of the map reads. -/
noncomputable def slotR (v : Value) : Option (DataW Unit × List MemPlace) := if h : ∃ s : Slot, v = s.val then some (h.choose.dat, []) else none
theorem slotR_mk (s : Slot) : slotR s.val = some (s.dat, []) := by
  unfold slotR
  have h : ∃ t : Slot, s.val = t.val := ⟨s, rfl⟩
  rw [dif_pos h, ← Slot.val_inj h.choose_spec]
theorem slotR_inv {v : Value} {d : DataW Unit} {ps : List MemPlace} (h : slotR v = some (d, ps)) : ∃ s : Slot, v = s.val ∧ d = s.dat := by
  unfold slotR at h
  split at h
  · rename_i hx
    have e := Option.some.inj h
    exact ⟨hx.choose, hx.choose_spec, (congrArg Prod.fst e).symm⟩
  · cases h

/-- Slots by clients; how many there are. -/
structure Tab where
  f : Int → Option Slot
  n : Nat
def Tab.new : Tab := ⟨fun _ => none, 0⟩
def Tab.get (m : Tab) (c : Int) : Slot := (m.f c).getD Slot.zero
def Tab.put (m : Tab) (c : Int) (s : Slot) : Tab := ⟨fun x => if x = c then some s else m.f x, if (m.f c).isSome then m.n else m.n + 1⟩
/-- A datum tells a table. -/
structure TabD (D : DataW Unit) (m : Tab) : Prop where
  tidy : Maps.Tidy D
  size : Maps.size D = m.n
  has : ∀ c : Int, Maps.has D (.int .i64 c) = (m.f c).isSome
  val : ∀ c : Int, D.atKey (.int .i64 c) Slot.zero.dat = (m.get c).dat
theorem tabD_new : TabD (.map []) Tab.new := ⟨Maps.tidy_empty, rfl, fun _ => rfl, fun _ => rfl⟩
theorem TabD.put {D : DataW Unit} {m : Tab} (h : TabD D m) (c : Int) (s : Slot) : TabD (D.put (.int .i64 c) s.dat) (m.put c s) := by
  have hk : WideAt.IsKeyLit (.int .i64 c) := trivial
  refine ⟨h.tidy.put hk _, ?_, fun x => ?_, fun x => ?_⟩
  · rw [Maps.size_put h.tidy, h.has, h.size]
    rfl
  · by_cases e : x = c
    · subst e
      rw [Maps.has_put_same h.tidy.isMap hk]
      simp [Tab.put]
    · rw [Maps.has_put_other (fun e' => e (by cases e'; rfl)), h.has]
      simp [Tab.put, e]
  · by_cases e : x = c
    · subst e
      rw [Maps.atKey_put_same h.tidy.isMap hk]
      simp [Tab.put, Tab.get]
    · rw [Maps.atKey_put_other (fun e' => e (by cases e'; rfl)), h.val]
      simp [Tab.put, Tab.get, e]
/-- At block p lies a table, its map at block b. -/
def Tbl (w : World) (p b : Nat) (m : Tab) : Prop :=
  ∃ D, w.heap[p]? = some (.cells #[.map (some b)] 77 (0, 0)) ∧ w.ownsMap Try.prog 3 slotR b m.n D ∧ TabD D m
theorem Tbl.keep {F : Nat → Prop} {w w' : World} {p b : Nat} {m : Tab} (h : Tbl w p b m) (u : Upd F w w') (hp : ¬ F p) (hb : ¬ F b) : Tbl w' p b m := by
  obtain ⟨D, h1, ⟨es, clock, h2, h3⟩, h4⟩ := h
  exact ⟨D, u.heap h1 hp, ⟨es, clock, u.heap h2 hb, h3⟩, h4⟩
theorem Tbl.lt {w : World} {p b : Nat} {m : Tab} (h : Tbl w p b m) : p < w.heap.size ∧ b < w.heap.size := by
  obtain ⟨D, h1, h2, _⟩ := h
  exact ⟨lt_of_heap h1, h2.lt⟩
theorem kInt : Maps.Keyed Try.prog 3 := Maps.int_keyed Try.underlying3
theorem keyInt {c : Int} (h : (Lit.int .i64 c).wf = true) : keyOf Try.prog 3 (.int .i64 c) = some (.int .i64 c) := Maps.keyOf_int_mk Try.underlying3 h
theorem zero_slot (w : World) : (zeroValue 61).run Try.prog w = .ok Slot.zero.val w := by kernel_rfl
/-- A look-up in a table's map. -/
theorem Tbl.look {w : World} {p b : Nat} {m : Tab} (h : Tbl w p b m) {c : Int} (hc : (Lit.int .i64 c).wf = true) :
    (Instr.lookup 75 (.map (some b)) (.int .i64 c) true).run Try.prog w = .ok (.tuple #[(m.get c).val, .bool (m.f c).isSome]) w := by
  obtain ⟨D, h1, h2, h3⟩ := h
  obtain ⟨v, ps, hr, hv⟩ := h2.look_ok kInt Try.underlying75 (zero_slot w) (slotR_mk _) (keyInt hc)
  obtain ⟨s, rfl, hs⟩ := slotR_inv hv
  rw [h3.val] at hs
  rw [hr, h3.has, Slot.dat_inj hs]
/-- A slot is laid. -/
theorem Tbl.store {w : World} {p b : Nat} {m : Tab} (h : Tbl w p b m) (hn : m.n < 1000000) {c : Int} (hc : (Lit.int .i64 c).wf = true) (s : Slot) :
    ∃ w', (Instr.mapUpdate 75 (.map (some b)) (.int .i64 c) s.val).run Try.prog w = .ok () w' ∧ Tbl w' p b (m.put c s) ∧ Upd (fun x => x = b) w w' := by
  obtain ⟨D, h1, h2, h3⟩ := h
  obtain ⟨w', hr, ho, hg⟩ := h2.update kInt Try.underlying75 (by simp only [maxLen]; omega) (keyInt hc) (slotR_mk s)
  have hu : Upd (fun x => x = b) w w' := Upd.of_grown hg (fun k hk => (Option.some.inj hk).symm)
  have hpb : p ≠ b := by
    rintro rfl
    obtain ⟨es, clock, h4, _⟩ := h2
    rw [h1] at h4
    cases h4
  have hT := h3.put c s
  refine ⟨w', hr, ⟨_, hu.heap h1 hpb, ?_, hT⟩, hu⟩
  rw [← hT.size]
  obtain ⟨es, clock, h4, h5, _, h6⟩ := ho
  refine ⟨es, clock, h4, h5, ?_, h6⟩
  rw [h6]
  simp [Maps.size, length_sorted]
end Go.Proofs.Ytmcpcladjfddmaa
