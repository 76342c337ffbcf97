/- Who holds what: IDs as they are handed in; LockBack's walk over its arguments. -/
import Derived.Test.YtobfolkcpfaplaaLockBack
namespace Go.Proofs.Ytobfolkcpfaplaa
open Go.RowKit Go.ChangeShapes Go.WideShapes Kit
set_option linter.unusedVariables false

/-- An ID: a client, its how manieth. -/
structure Idr where
  cl : Int
  sq : Int
def Rep.idr : Rep Idr where
  sz := 2
  pos := by decide
  rep _ _ x cs := cs = [.int .i64 x.cl, .int .u64 x.sq] ∧ (Lit.int .i64 x.cl).wf = true ∧ (Lit.int .u64 x.sq).wf = true
  len h := by rw [h.1]; rfl
  one h := by rw [h.1]; intro u hu; simp at hu; rcases hu with rfl | rfl <;> rfl
  keep h _ _ := h
set_option maxRecDepth 100000 in
theorem el_idr {H : Type} {enc : TypeId × Value → H} {W : World} (n : Nat) (cs : List Value) (x : DataW H × List MemPlace) (h : DataW.trod enc Try.prog W 0 (fun _ => true) true n 31 cs = some x) :
    ∃ y, Rep.idr.rep W (Old W) y cs := by
  obtain ⟨xs, m, _, _, hl, hlen, hf⟩ := DataW.trod_struct Try.underlying31 h
  have hl' : cs.length = 2 := by rw [hl]; kernel_rfl
  match cs, hl' with
  | [c0, c1], _ =>
    match xs, hlen with
    | [y0, y1], _ =>
      have f0 := hf 0 _ rfl
      have f1 := hf 1 _ rfl
      have q0 : Try.prog.cellsOf 3 = 1 := by kernel_rfl
      have q1 : Try.prog.cellsOf 29 = 1 := by kernel_rfl
      obtain ⟨a, e0, _, w0⟩ := DataW.trod_int Try.underlying3 f0
      obtain ⟨b, e1, _, w1⟩ := DataW.trod_int Try.underlying29 f1
      refine ⟨⟨a, b⟩, ?_, w0, w1⟩
      simp at e0 e1
      rw [q0] at e0
      rw [q1] at e1
      simp at e0 e1
      rw [e0, e1]
theorem idr_agg {w : World} {S : Nat → Prop} {y : Idr} {cs : Array Value} (h : Rep.idr.rep w S y cs.toList) : cs = #[.int .i64 y.cl, .int .u64 y.sq] ∧ (Lit.int .i64 y.cl).wf = true := ⟨Array.toList_inj.1 h.1, h.2.1⟩
theorem lockBack_walk2 (v : Value) (ops : List Lop) (cs : Array Value) (y : Lop) (cs2 : Array Value) (z : Idr) (w : World) (h : RSl Rep.lop w (Old w) v ops) (hy : Rep.lop.rep w (Old w) y cs.toList) (hz : Rep.idr.rep w (Old w) z cs2.toList) :
    Calls Try.prog 4 #[v, .agg cs, .agg cs2] w fun e w' => e = .returned (.bool true) ∧ Upd NoB w w' := by
  obtain ⟨A, B, c, d, rfl, h3, h4⟩ := lop_agg hy
  obtain ⟨rfl, _⟩ := idr_agg hz
  exact lockBack_walk v ops y A B c d z.cl z.sq w h h3 h4
end Go.Proofs.Ytobfolkcpfaplaa
