/- A ballot that is handed in, as this prover's words have it. -/
import Derived.Test.YtflifeelgamaaaaOpen
import Derived.Test.YtflifeelgamaaaaProg
namespace Go.Proofs.Ytflifeelgamaaaa
open Go.RowKit Kit
set_option linter.unusedVariables false

/-- A ballot: a round, a node. -/
def Rep.ballot : Rep (Int × Int) where
  sz := 2
  pos := by decide
  rep _ _ x cs := cs = [.int .u64 x.1, .int .i64 x.2] ∧ (Lit.int .u64 x.1).wf = true ∧ (Lit.int .i64 x.2).wf = true
  len h := by rw [h.1]; rfl
  one h := by rw [h.1]; intro u hu; simp at hu; rcases hu with rfl | rfl <;> rfl
  keep h _ _ := h

theorem el_ballot {H : Type} {enc : TypeId × Value → H} {W : World} (n : Nat) (cs : List Value) (x : DataW H × List MemPlace) (h : DataW.trod enc Try.prog W 0 (fun _ => true) true n 41 cs = some x) :
    ∃ y, Rep.ballot.rep W (Old W) y cs := by
  obtain ⟨xs, m, _, _, hl, hlen, hf⟩ := DataW.trod_struct Try.underlying41 h
  have hl' : cs.length = 2 := by rw [hl]; kernel_rfl
  match cs, hl' with
  | [c0, c1], _ =>
    match xs, hlen with
    | [y0, y1], _ =>
      have f0 := hf 0 _ rfl
      have f1 := hf 1 _ rfl
      obtain ⟨a, e0, _, w0⟩ := DataW.trod_int Try.underlying39 f0
      obtain ⟨b, e1, _, w1⟩ := DataW.trod_int Try.underlying3 f1
      have q0 : Try.prog.cellsOf 39 = 1 := by kernel_rfl
      have q1 : Try.prog.cellsOf 3 = 1 := by kernel_rfl
      refine ⟨(a, b), ?_, w0, w1⟩
      simp at e0 e1
      rw [q0] at e0
      rw [q1] at e1
      simp at e0 e1
      rw [e0, e1]
end Go.Proofs.Ytflifeelgamaaaa
