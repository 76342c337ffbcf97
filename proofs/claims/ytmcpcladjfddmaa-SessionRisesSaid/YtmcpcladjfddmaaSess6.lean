/- A table of slots (6): IDs and calls as they are handed in. -/
import Derived.Test.YtmcpcladjfddmaaSess5
import Derived.Test.YtmcpcladjfddmaaOpen2
namespace Go.Proofs.Ytmcpcladjfddmaa
open Go.RowKit Go.ChangeShapes Go.WideShapes Kit
set_option linter.unusedVariables false

/-- An ID: a client, its how manieth. -/
structure Idr where
  cl : Int
  sq : Int
def Rep.idr : Rep Idr where
  sz := 2
  pos := by decide
  rep _ _ x cs := cs = [.int .i64 x.cl, .int .u64 x.sq] ∧ (Lit.int .i64 x.cl).wf = true ∧ (Lit.int .u64 x.sq).wf = true
  len h := by rw [h.1]; rfl
  one h := by rw [h.1]; intro u hu; simp at hu; rcases hu with rfl | rfl <;> rfl
  keep h _ _ := h
set_option maxRecDepth 100000 in
theorem el_idr {H : Type} {enc : TypeId × Value → H} {W : World} (n : Nat) (cs : List Value) (x : DataW H × List MemPlace) (h : DataW.trod enc Try.prog W 0 (fun _ => true) true n 47 cs = some x) :
    ∃ y, Rep.idr.rep W (Old W) y cs := by
  obtain ⟨xs, m, _, _, hl, hlen, hf⟩ := DataW.trod_struct Try.underlying47 h
  have hl' : cs.length = 2 := by rw [hl]; kernel_rfl
  match cs, hl' with
  | [c0, c1], _ =>
    match xs, hlen with
    | [y0, y1], _ =>
      have f0 := hf 0 _ rfl
      have f1 := hf 1 _ rfl
      have q0 : Try.prog.cellsOf 3 = 1 := by kernel_rfl
      have q1 : Try.prog.cellsOf 23 = 1 := by kernel_rfl
      obtain ⟨a, e0, _, w0⟩ := DataW.trod_int Try.underlying3 f0
      obtain ⟨b, e1, _, w1⟩ := DataW.trod_int Try.underlying23 f1
      refine ⟨⟨a, b⟩, ?_, w0, w1⟩
      simp at e0 e1
      rw [q0] at e0
      rw [q1] at e1
      simp at e0 e1
      rw [e0, e1]
/-- A call. -/
structure Sop where
  kd : Int
  cl : Int
  sq : Int
  a : Int
  code : Int
  num : Int
def Rep.sop : Rep Sop where
  sz := 6
  pos := by decide
  rep _ _ x cs := cs = [.int .i64 x.kd, .int .i64 x.cl, .int .u64 x.sq, .int .i64 x.a, .int .i64 x.code, .int .u64 x.num] ∧ (Lit.int .i64 x.cl).wf = true ∧ (Lit.int .u64 x.sq).wf = true ∧ (Lit.int .i64 x.a).wf = true ∧ (Lit.int .i64 x.code).wf = true ∧ (Lit.int .u64 x.num).wf = true
  len h := by rw [h.1]; rfl
  one h := by rw [h.1]; intro u hu; simp at hu; rcases hu with rfl | rfl | rfl | rfl | rfl | rfl <;> rfl
  keep h _ _ := h
set_option maxRecDepth 100000 in
theorem el_sop {H : Type} {enc : TypeId × Value → H} {W : World} (n : Nat) (cs : List Value) (x : DataW H × List MemPlace) (h : DataW.trod enc Try.prog W 0 (fun _ => true) true n 55 cs = some x) :
    ∃ y, Rep.sop.rep W (Old W) y cs := by
  obtain ⟨xs, m, _, _, hl, hlen, hf⟩ := DataW.trod_struct Try.underlying55 h
  have hl' : cs.length = 6 := by rw [hl]; kernel_rfl
  match cs, hl' with
  | [c0, c1, c2, c3, c4, c5], _ =>
    match xs, hlen with
    | [y0, y1, y2, y3, y4], _ =>
      have f0 := hf 0 _ rfl
      have f1 := hf 1 _ rfl
      have f2 := hf 2 _ rfl
      have f3 := hf 3 _ rfl
      have f4 := hf 4 _ rfl
      have q0 : Try.prog.cellsOf 3 = 1 := by kernel_rfl
      have q1 : Try.prog.cellsOf 47 = 2 := by kernel_rfl
      have q2 : Try.prog.cellsOf 23 = 1 := by kernel_rfl
      obtain ⟨a, e0, _, w0⟩ := DataW.trod_int Try.underlying3 f0
      obtain ⟨y, e1, v1, v2⟩ := el_idr _ _ _ f1
      obtain ⟨b, e2, _, w2⟩ := DataW.trod_int Try.underlying3 f2
      obtain ⟨d, e3, _, w3⟩ := DataW.trod_int Try.underlying3 f3
      obtain ⟨f, e4, _, w4⟩ := DataW.trod_int Try.underlying23 f4
      refine ⟨⟨a, y.cl, y.sq, b, d, f⟩, ?_, v1, v2, w2, w3, w4⟩
      simp at e0 e1 e2 e3 e4
      rw [q0] at e0 e2 e3
      rw [q1] at e1
      rw [q2] at e4
      simp at e0 e1 e2 e3 e4
      rw [e0, e1.1, e1.2, e2, e3, e4]
theorem idr_agg {w : World} {S : Nat → Prop} {y : Idr} {cs : Array Value} (h : Rep.idr.rep w S y cs.toList) : cs = #[.int .i64 y.cl, .int .u64 y.sq] ∧ (Lit.int .i64 y.cl).wf = true := ⟨Array.toList_inj.1 h.1, h.2.1⟩
theorem sessionNil_walk2 {S : Nat → Prop} (cs : Array Value) (y : Idr) (a : Int) (w : World) (h : Rep.idr.rep w S y cs.toList) :
    Calls Try.prog 10 #[.agg cs, .int .i64 a] w fun e w' => e = .returned (.bool true) ∧ Upd NoB w w' := by
  obtain ⟨rfl, _⟩ := idr_agg h
  exact sessionNil_walk _ _ a w
end Go.Proofs.Ytmcpcladjfddmaa
