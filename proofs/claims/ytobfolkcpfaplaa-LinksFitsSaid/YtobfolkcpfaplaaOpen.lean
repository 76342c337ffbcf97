/- Arguments that are read as data, as this prover's words have them; the end of a row. No program in sight. -/
import Derived.Test.YtobfolkcpfaplaaKit
import Derived.WalkKit
import Derived.ProofKit
import Derived.OpenShut
import Derived.ShutString
import Derived.ChangeOld
import Derived.SizedLaws
import Derived.Carry
namespace Go.Proofs.Ytobfolkcpfaplaa.Kit
open Go.RowKit Go.WideShapes Go.ChangeShapes
set_option linter.unusedVariables false

section
variable {H : Type} {enc : TypeId × Value → H} {P : Program} {W : World}

/-- What was there. -/
def Old (W : World) : Nat → Prop := fun b => b < W.heap.size
theorem sep_old (W : World) : Sep (Old W) NoB := fun _ _ h => h

theorem cells_of {a : Addr} {n : Nat} {cs : List Value} (h : W.cells? 0 a n = some cs) : cs.length = n ∧ ∀ j u, cs[j]? = some u → W.cell? (a.add j) = some u := by
  obtain ⟨_, h1, h2⟩ := World.cells?_some h
  refine ⟨h1, fun j u hu => ?_⟩
  rw [h2 j (by have := (List.getElem?_eq_some_iff.1 hu).1; omega), hu]

/-- A value that is a slice of what can be read, as a list. -/
theorem open_rsl {α : Type} (r : Rep α) {T e : TypeId} (ht : P.underlying T = some (.slice e)) (hcs : P.cellsOf e = r.sz)
    (hel : ∀ n cs x, DataW.trod enc P W 0 (fun _ => true) true n e cs = some x → ∃ y, r.rep W (Old W) y cs)
    {v : Value} {d : DataW H} {ps : List MemPlace} (h : DataW.Trod enc P W 0 (fun _ => true) true T v d ps) (hv : Value.okWide P W .any 0 T v) : ∃ l, RSl r W (Old W) v l := by
  obtain ⟨A, len, cap, rfl⟩ := okWide_slice ht hv
  obtain ⟨fuel, hf⟩ := h
  rcases DataW.trod_slice ht hf with ⟨e1, _⟩ | ⟨a, len', cap', elems, rest, n, _, e1, _, _, hl, hm, hlen, hsl, _, _⟩
  · have : Value.slice A len cap = .slice none 0 0 := by simpa [Value.cells] using e1
    rw [this]
    exact ⟨[], RSl.nil W _⟩
  · have e2 : Value.slice A len cap = .slice (some a) len' cap' := by simpa [Value.cells] using e1
    cases e2
    have hh : World.has P W .any 0 a e cap := by
      simp only [Value.okWide, ht, Cell.okWide, Cell.ok] at hv
      exact hv.2.2
    obtain ⟨_, hsp, row, cells, hsh, _⟩ := hh
    obtain ⟨g, o, sp⟩ := a
    simp only at hsp
    subst hsp
    have hg : g < W.heap.size := by
      unfold World.shape? at hsh
      cases hx : W.heap[g]? with
      | none => rw [hx] at hsh; cases hsh
      | some o => exact lt_of_heap hx
    have key : ∀ m, m ≤ len → ∃ (l : List α) (cs : List Value), l.length = m ∧ Rows r W (Old W) l cs ∧ ∀ j u, cs[j]? = some u → W.cell? ⟨g, o + j, none⟩ = some u := by
      intro m
      induction m with
      | zero => exact fun _ => ⟨[], [], rfl, rfl, fun j u hu => by simp at hu⟩
      | succ m ih =>
        intro hm'
        obtain ⟨l, cs, hl1, hr1, hc1⟩ := ih (by omega)
        have hx := hsl m (by omega)
        rw [List.getElem?_eq_getElem (show m < elems.length by omega), Option.bind_eq_some_iff] at hx
        obtain ⟨c, hc, hy⟩ := hx
        obtain ⟨y, hy⟩ := hel _ _ _ hy
        obtain ⟨hcl, hcc⟩ := cells_of hc
        refine ⟨l ++ [y], cs ++ c, by simp [hl1], hr1.append (Rows.single hy), fun j u hu => ?_⟩
        rw [List.getElem?_append] at hu
        split at hu
        · exact hc1 j u hu
        · rename_i hj
          have h3 := hcc _ u hu
          have hlen2 := Rows.len hr1
          rw [Addr.add_lit] at h3
          rw [show ((⟨g, o, none⟩ : Addr).add (m * P.cellsOf e)) = ⟨g, o + m * P.cellsOf e, none⟩ from Addr.add_lit .., Addr.add_lit] at *
          rw [hlen2, hl1, ← hcs] at h3 hj
          rw [← h3]
          congr 2
          omega
    obtain ⟨l, cs, hl1, hr1, hc1⟩ := key len (Nat.le_refl _)
    refine ⟨l, some ⟨g, o, none⟩, cap, cs, by rw [hl1], by omega, hm, hr1, (fun h => nomatch h), fun a ha => ?_⟩
    obtain rfl := Option.some.inj ha
    exact ⟨rfl, hg, hc1⟩

theorem el_byte {e : TypeId} (he : P.underlying e = some (.int .u8)) (n : Nat) (cs : List Value) (x : DataW H × List MemPlace) (h : DataW.trod enc P W 0 (fun _ => true) true n e cs = some x) : ∃ y, Rep.byte.rep W (Old W) y cs := by
  obtain ⟨z, rfl, _, wz⟩ := DataW.trod_int he h
  refine ⟨UInt8.ofNat z.toNat, ?_⟩
  have hb : 0 ≤ z ∧ z ≤ 255 := by
    simp [Lit.wf, IntKind.min, IntKind.max, IntKind.signed, IntKind.bits] at wz
    omega
  show [Value.int .u8 z] = [Value.int .u8 ((UInt8.ofNat z.toNat).toNat : Int)]
  simp
  omega

theorem el_int {e : TypeId} {k : IntKind} (he : P.underlying e = some (.int k)) (n : Nat) (cs : List Value) (x : DataW H × List MemPlace) (h : DataW.trod enc P W 0 (fun _ => true) true n e cs = some x) : ∃ y, (Rep.int k).rep W (Old W) y cs := by
  obtain ⟨z, rfl, _, wz⟩ := DataW.trod_int he h
  exact ⟨z, rfl, wz⟩
theorem el_bool {e : TypeId} (he : P.underlying e = some .bool) (n : Nat) (cs : List Value) (x : DataW H × List MemPlace) (h : DataW.trod enc P W 0 (fun _ => true) true n e cs = some x) : ∃ y, Rep.bool.rep W (Old W) y cs := by
  obtain ⟨z, rfl, _⟩ := DataW.trod_bool he h
  exact ⟨z, rfl⟩
theorem el_str {e : TypeId} (he : P.underlying e = some .string) (n : Nat) (cs : List Value) (x : DataW H × List MemPlace) (h : DataW.trod enc P W 0 (fun _ => true) true n e cs = some x) : ∃ y, Rep.str.rep W (Old W) y cs := by
  obtain ⟨z, rfl, _, wz⟩ := DataW.trod_string he h
  exact ⟨z, rfl, wz⟩

/-- A struct that is handed in by value. -/
theorem open_agg {α : Type} (r : Rep α) {T : TypeId} {fs : Array Field} (ht : P.underlying T = some (.struct fs))
    (hel : ∀ n cs x, DataW.trod enc P W 0 (fun _ => true) true n T cs = some x → ∃ y, r.rep W (Old W) y cs)
    {v : Value} {d : DataW H} {ps : List MemPlace} (h : DataW.Trod enc P W 0 (fun _ => true) true T v d ps) (hv : Value.okWide P W .any 0 T v) : ∃ y cs, v = .agg cs ∧ r.rep W (Old W) y cs.toList := by
  unfold Value.okWide at hv
  rw [ht] at hv
  obtain ⟨cs, rfl, _⟩ := hv
  obtain ⟨fuel, hf⟩ := h
  obtain ⟨y, hy⟩ := hel _ _ _ hf
  exact ⟨y, cs, rfl, hy⟩

/-- ARGS: each argument reads as it did, as long as nothing that was there has turned. -/
theorem trodAll_below (hl : laidOutB P = true) {W' : World} : ∀ {ts : List TypeId} {vs : List Value} {ds : List (DataW H)} {ps : List MemPlace}, (∀ t ∈ ts, P.readableRec t = true ∧ t < P.types.size) →
    DataW.TrodAll enc P W 0 (fun _ => true) true ts vs ds ps → Below W.heap.size W W' → (∀ x ∈ ps, x.block < W.heap.size) → DataW.TrodAll enc P W' 0 (fun b => decide (b < W.heap.size)) true ts vs ds ps
  | [], [], [], ps, _, h, _, _ => h
  | t :: ts, v :: vs, d :: ds, ps, hr, ⟨p, q, h1, h2, e⟩, hb, hlt => ⟨p, q, Below.trod hl (hr t (by simp)).1 (hr t (by simp)).2 h1 hb (fun x hx => hlt x (by rw [e]; simp [hx])),
      trodAll_below hl (fun t ht => hr t (by simp [ht])) h2 hb (fun x hx => hlt x (by rw [e]; simp [hx])), e⟩
end
end Go.Proofs.Ytobfolkcpfaplaa.Kit
