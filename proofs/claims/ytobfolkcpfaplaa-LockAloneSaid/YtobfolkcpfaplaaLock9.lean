/- Who holds what (9): calls as they are handed in. -/
import Derived.Test.YtobfolkcpfaplaaLock8
import Derived.Test.YtobfolkcpfaplaaOpen2
namespace Go.Proofs.Ytobfolkcpfaplaa
open Go.RowKit Go.ChangeShapes Go.WideShapes Kit
set_option linter.unusedVariables false

/-- A call. -/
structure Lop where
  kd : Int
  cl : Int
  sq : Int
  a : Int
  rd : List ByteArray
  wr : List ByteArray
def lopC (x : Lop) (va vb : Value) : List Value := [.int .i64 x.kd, .int .i64 x.cl, .int .u64 x.sq, .int .i64 x.a, va, vb]
def Rep.lop : Rep Lop where
  sz := 6
  pos := by decide
  rep w S x cs := ∃ va vb, cs = lopC x va vb ∧ RSlW Rep.str w S va x.rd ∧ RSlW Rep.str w S vb x.wr
  len h := by obtain ⟨_, _, h, _⟩ := h; rw [h]; rfl
  one h := by
    obtain ⟨va, vb, h, h1, h2⟩ := h
    obtain ⟨A, c, rfl, _⟩ := h1.shape
    obtain ⟨B, d, rfl, _⟩ := h2.shape
    rw [h]
    intro u hu
    simp only [lopC, List.mem_cons, List.not_mem_nil, or_false] at hu
    rcases hu with rfl | rfl | rfl | rfl | rfl | rfl <;> rfl
  keep h k k' := by obtain ⟨va, vb, h, h1, h2⟩ := h; exact ⟨va, vb, h, h1.keep k k', h2.keep k k'⟩
set_option maxRecDepth 100000 in
theorem el_lop {H : Type} {enc : TypeId × Value → H} {W : World} (n : Nat) (cs : List Value) (x : DataW H × List MemPlace) (h : DataW.trod enc Try.prog W 0 (fun _ => true) true n 34 cs = some x) :
    ∃ y, Rep.lop.rep W (Old W) y cs := by
  obtain ⟨xs, m, _, _, hl, hlen, hf⟩ := DataW.trod_struct Try.underlying34 h
  have hl' : cs.length = 6 := by rw [hl]; kernel_rfl
  match cs, hl' with
  | [c0, c1, c2, c3, c4, c5], _ =>
    match xs, hlen with
    | [y0, y1, y2, y3, y4], _ =>
      have f0 := hf 0 _ rfl
      have f1 := hf 1 _ rfl
      have f2 := hf 2 _ rfl
      have f3 := hf 3 _ rfl
      have f4 := hf 4 _ rfl
      have q0 : Try.prog.cellsOf 3 = 1 := by kernel_rfl
      have q1 : Try.prog.cellsOf 31 = 2 := by kernel_rfl
      have q2 : Try.prog.cellsOf 32 = 1 := by kernel_rfl
      have q3 : Try.prog.cellsOf 29 = 1 := by kernel_rfl
      have q4 : Try.prog.cellsOf 9 = 1 := by kernel_rfl
      obtain ⟨a, e0, _, _⟩ := DataW.trod_int Try.underlying3 f0
      obtain ⟨b, e2, _, _⟩ := DataW.trod_int Try.underlying3 f2
      obtain ⟨v3, l3, e3, h3⟩ := open_rslw Rep.str Try.underlying32 q4 (el_str Try.underlying9) f3
      obtain ⟨v4, l4, e4, h4⟩ := open_rslw Rep.str Try.underlying32 q4 (el_str Try.underlying9) f4
      obtain ⟨zs, k, _, _, gl, glen, gf⟩ := DataW.trod_struct Try.underlying31 f1
      match zs, glen with
      | [z0, z1], _ =>
        have g0 := gf 0 _ rfl
        have g1 := gf 1 _ rfl
        obtain ⟨c, e5, _, _⟩ := DataW.trod_int Try.underlying3 g0
        obtain ⟨d, e6, _, _⟩ := DataW.trod_int Try.underlying29 g1
        refine ⟨⟨a, c, d, b, l3, l4⟩, v3, v4, ?_, h3, h4⟩
        simp at e0 e2 e3 e4 e5 e6
        rw [q0] at e0 e2 e5
        rw [q2] at e3 e4
        rw [q3] at e6
        rw [q1] at e5 e6
        simp at e0 e2 e3 e4 e5 e6
        rw [e0, e2, e3, e4, e5, e6]
        rfl
theorem lop_agg {w : World} {S : Nat → Prop} {y : Lop} {cs : Array Value} (h : Rep.lop.rep w S y cs.toList) :
    ∃ A B c d, cs = #[.int .i64 y.kd, .int .i64 y.cl, .int .u64 y.sq, .int .i64 y.a, .slice A y.rd.length c, .slice B y.wr.length d] ∧ RSlW Rep.str w S (.slice A y.rd.length c) y.rd ∧ RSlW Rep.str w S (.slice B y.wr.length d) y.wr := by
  obtain ⟨va, vb, e, h1, h2⟩ := h
  obtain ⟨A, c, rfl, _⟩ := h1.shape
  obtain ⟨B, d, rfl, _⟩ := h2.shape
  exact ⟨A, B, c, d, Array.toList_inj.1 e, h1, h2⟩
theorem lockNil_walk2 {S : Nat → Prop} (cs : Array Value) (y : Lop) (key : ByteArray) (w : World) (h : Rep.lop.rep w S y cs.toList) :
    Calls Try.prog 6 #[.agg cs, .string key] w fun e w' => e = .returned (.bool true) ∧ Upd NoB w w' := by
  obtain ⟨A, B, c, d, rfl, _⟩ := lop_agg h
  exact lockNil_walk _ _ _ _ A B _ _ c d key w
end Go.Proofs.Ytobfolkcpfaplaa
