/- Calls on a log, as they are handed in; what both sides hold. -/
import Derived.Test.YtobfolkcpfaplaaEnt20
import Derived.Test.YtobfolkcpfaplaaEnt19
import Derived.Test.YtobfolkcpfaplaaEnt16
namespace Go.Proofs.Ytobfolkcpfaplaa
open Go.RowKit Go.ChangeShapes Go.WideShapes Kit
set_option linter.unusedVariables false
/-- A call. -/
structure Eop where
  kd : Int
  e : Ent
  n : Int
def eopC (x : Eop) (va vb : Value) : List Value := [.int .i64 x.kd, .int .u64 x.e.ep, .int .i64 x.e.kd, .int .i64 x.e.tc, .int .u64 x.e.tq, .bool x.e.pl, va, vb, .int .i64 x.e.ec, .int .u64 x.e.eq, .int .i64 x.e.cd, .int .i64 x.n]
def Rep.eop : Rep Eop where
  sz := 12
  pos := by decide
  rep w S x cs := ∃ va vb, cs = eopC x va vb ∧ RSlW Rep.rd w S va x.e.rd ∧ RSlW Rep.wt w S vb x.e.wr ∧ 0 ≤ x.e.ep ∧ 0 ≤ x.e.tq ∧ 0 ≤ x.e.eq
  len h := by obtain ⟨_, _, h, _⟩ := h; rw [h]; rfl
  one h := by
    obtain ⟨va, vb, h, h1, h2, _⟩ := h
    obtain ⟨A, c, rfl, _⟩ := h1.shape
    obtain ⟨B, d, rfl, _⟩ := h2.shape
    rw [h]
    intro u hu
    simp only [eopC, List.mem_cons, List.not_mem_nil, or_false] at hu
    rcases hu with rfl | rfl | rfl | rfl | rfl | rfl | rfl | rfl | rfl | rfl | rfl | rfl <;> rfl
  keep h k k' := by obtain ⟨va, vb, h, h1, h2, h3⟩ := h; exact ⟨va, vb, h, h1.keep k k', h2.keep k k', h3⟩
section
variable {H : Type} {enc : TypeId × Value → H} {W : World}
set_option maxRecDepth 100000 in
theorem el_rd (n : Nat) (cs : List Value) (x : DataW H × List MemPlace) (h : DataW.trod enc Try.prog W 0 (fun _ => true) true n 137 cs = some x) : ∃ y, Rep.rd.rep W (Old W) y cs := by
  obtain ⟨xs, m, _, _, hl, hlen, hf⟩ := DataW.trod_struct Try.underlying137 h
  have hl' : cs.length = 2 := by rw [hl]; kernel_rfl
  match cs, hl' with
  | [c0, c1], _ =>
    match xs, hlen with
    | [y0, y1], _ =>
      have f0 := hf 0 _ rfl
      have f1 := hf 1 _ rfl
      have q0 : Try.prog.cellsOf 9 = 1 := by kernel_rfl
      have q1 : Try.prog.cellsOf 29 = 1 := by kernel_rfl
      obtain ⟨a, e0, _, w0⟩ := DataW.trod_string Try.underlying9 f0
      obtain ⟨b, e1, _, w1⟩ := DataW.trod_int Try.underlying29 f1
      refine ⟨⟨a, b⟩, ?_, w0⟩
      simp at e0 e1
      rw [q0] at e0
      rw [q1] at e1
      simp at e0 e1
      rw [e0, e1]
set_option maxRecDepth 100000 in
theorem el_wt (n : Nat) (cs : List Value) (x : DataW H × List MemPlace) (h : DataW.trod enc Try.prog W 0 (fun _ => true) true n 138 cs = some x) : ∃ y, Rep.wt.rep W (Old W) y cs := by
  obtain ⟨xs, m, _, _, hl, hlen, hf⟩ := DataW.trod_struct Try.underlying138 h
  have hl' : cs.length = 3 := by rw [hl]; kernel_rfl
  match cs, hl' with
  | [c0, c1, c2], _ =>
    match xs, hlen with
    | [y0, y1, y2], _ =>
      have f0 := hf 0 _ rfl
      have f1 := hf 1 _ rfl
      have f2 := hf 2 _ rfl
      have q0 : Try.prog.cellsOf 9 = 1 := by kernel_rfl
      have q1 : Try.prog.cellsOf 4 = 1 := by kernel_rfl
      obtain ⟨a, e0, _, w0⟩ := DataW.trod_string Try.underlying9 f0
      obtain ⟨b, e1, _, w1⟩ := DataW.trod_string Try.underlying9 f1
      obtain ⟨g, e2, _⟩ := DataW.trod_bool Try.underlying4 f2
      refine ⟨⟨a, b, g⟩, ?_, w0, w1⟩
      simp at e0 e1 e2
      rw [q0] at e0 e1
      rw [q1] at e2
      simp at e0 e1 e2
      rw [e0, e1, e2]
theorem u64_nonneg {z : Int} (h : (Lit.int .u64 z).wf = true) : 0 ≤ z := by
  simp [Lit.wf, IntKind.min, IntKind.max, IntKind.signed, IntKind.bits] at h
  omega
set_option maxRecDepth 100000 in
theorem el_id (n : Nat) (cs : List Value) (x : DataW H × List MemPlace) (h : DataW.trod enc Try.prog W 0 (fun _ => true) true n 31 cs = some x) : ∃ c q, cs = [.int .i64 c, .int .u64 q] ∧ 0 ≤ q := by
  obtain ⟨xs, m, _, _, hl, hlen, hf⟩ := DataW.trod_struct Try.underlying31 h
  have hl' : cs.length = 2 := by rw [hl]; kernel_rfl
  match cs, hl' with
  | [c0, c1], _ =>
    match xs, hlen with
    | [y0, y1], _ =>
      have f0 := hf 0 _ rfl
      have f1 := hf 1 _ rfl
      have q0 : Try.prog.cellsOf 3 = 1 := by kernel_rfl
      have q1 : Try.prog.cellsOf 29 = 1 := by kernel_rfl
      obtain ⟨a, e0, _, w0⟩ := DataW.trod_int Try.underlying3 f0
      obtain ⟨b, e1, _, w1⟩ := DataW.trod_int Try.underlying29 f1
      refine ⟨a, b, ?_, u64_nonneg w1⟩
      simp at e0 e1
      rw [q0] at e0
      rw [q1] at e1
      simp at e0 e1
      rw [e0, e1]
set_option maxRecDepth 100000 in
theorem el_txn (n : Nat) (cs : List Value) (x : DataW H × List MemPlace) (h : DataW.trod enc Try.prog W 0 (fun _ => true) true n 70 cs = some x) :
    ∃ c q pl va vb rd wt, cs = [.int .i64 c, .int .u64 q, .bool pl, va, vb] ∧ 0 ≤ q ∧ RSlW Rep.rd W (Old W) va rd ∧ RSlW Rep.wt W (Old W) vb wt := by
  obtain ⟨xs, m, _, _, hl, hlen, hf⟩ := DataW.trod_struct Try.underlying70 h
  have hl' : cs.length = 5 := by rw [hl]; kernel_rfl
  match cs, hl' with
  | [c0, c1, c2, c3, c4], _ =>
    match xs, hlen with
    | [y0, y1, y2, y3], _ =>
      have f0 := hf 0 _ rfl
      have f1 := hf 1 _ rfl
      have f2 := hf 2 _ rfl
      have f3 := hf 3 _ rfl
      have q0 : Try.prog.cellsOf 31 = 2 := by kernel_rfl
      have q1 : Try.prog.cellsOf 4 = 1 := by kernel_rfl
      have q2 : Try.prog.cellsOf 67 = 1 := by kernel_rfl
      have q3 : Try.prog.cellsOf 68 = 1 := by kernel_rfl
      have q4 : Try.prog.cellsOf 137 = 2 := by kernel_rfl
      have q5 : Try.prog.cellsOf 138 = 3 := by kernel_rfl
      obtain ⟨c, q, e0, hq⟩ := el_id _ _ _ f0
      obtain ⟨b, e1, _⟩ := DataW.trod_bool Try.underlying4 f1
      obtain ⟨v3, l3, e3, h3⟩ := open_rslw Rep.rd Try.underlying67 q4 el_rd f2
      obtain ⟨v4, l4, e4, h4⟩ := open_rslw Rep.wt Try.underlying68 q5 el_wt f3
      refine ⟨c, q, b, v3, v4, l3, l4, ?_, hq, h3, h4⟩
      simp at e0 e1 e3 e4
      rw [q0] at e0
      rw [q1] at e1
      rw [q2] at e3
      rw [q3] at e4
      simp at e0 e1 e3 e4
      rw [e0.1, e0.2, e1, e3, e4]
set_option maxRecDepth 100000 in
theorem el_ent (n : Nat) (cs : List Value) (x : DataW H × List MemPlace) (h : DataW.trod enc Try.prog W 0 (fun _ => true) true n 72 cs = some x) :
    ∃ (y : Ent) (va vb : Value), cs = entC y va vb ∧ RSlW Rep.rd W (Old W) va y.rd ∧ RSlW Rep.wt W (Old W) vb y.wr ∧ 0 ≤ y.ep ∧ 0 ≤ y.tq ∧ 0 ≤ y.eq := by
  obtain ⟨xs, m, _, _, hl, hlen, hf⟩ := DataW.trod_struct Try.underlying72 h
  have hl' : cs.length = 10 := by rw [hl]; kernel_rfl
  match cs, hl' with
  | [c0, c1, c2, c3, c4, c5, c6, c7, c8, c9], _ =>
    match xs, hlen with
    | [y0, y1, y2, y3, y4], _ =>
      have f0 := hf 0 _ rfl
      have f1 := hf 1 _ rfl
      have f2 := hf 2 _ rfl
      have f3 := hf 3 _ rfl
      have f4 := hf 4 _ rfl
      have q0 : Try.prog.cellsOf 29 = 1 := by kernel_rfl
      have q1 : Try.prog.cellsOf 3 = 1 := by kernel_rfl
      have q2 : Try.prog.cellsOf 70 = 5 := by kernel_rfl
      have q3 : Try.prog.cellsOf 31 = 2 := by kernel_rfl
      have q4 : Try.prog.cellsOf 35 = 1 := by kernel_rfl
      obtain ⟨ep, e0, _, w0⟩ := DataW.trod_int Try.underlying29 f0
      obtain ⟨kd, e1, _, _⟩ := DataW.trod_int Try.underlying3 f1
      obtain ⟨tc, tq, pl, va, vb, rd, wt, e2, h2, h3, h4⟩ := el_txn _ _ _ f2
      obtain ⟨ec, eq, e3, h5⟩ := el_id _ _ _ f3
      obtain ⟨cd, e4, _, _⟩ := DataW.trod_int Try.underlying35 f4
      refine ⟨⟨ep, kd, tc, tq, pl, rd, wt, ec, eq, cd⟩, va, vb, ?_, h3, h4, u64_nonneg w0, h2, h5⟩
      simp at e0 e1 e2 e3 e4
      rw [q0] at e0
      rw [q1] at e1
      rw [q2] at e2
      rw [q3] at e3
      rw [q4] at e4
      simp at e0 e1 e2 e3 e4
      show _ = entC _ _ _
      rw [e0, e1, e2.1, e2.2.1, e2.2.2.1, e2.2.2.2.1, e2.2.2.2.2, e3.1, e3.2, e4]
      rfl
set_option maxRecDepth 100000 in
theorem el_eop (n : Nat) (cs : List Value) (x : DataW H × List MemPlace) (h : DataW.trod enc Try.prog W 0 (fun _ => true) true n 116 cs = some x) : ∃ y, Rep.eop.rep W (Old W) y cs := by
  obtain ⟨xs, m, _, _, hl, hlen, hf⟩ := DataW.trod_struct Try.underlying116 h
  have hl' : cs.length = 12 := by rw [hl]; kernel_rfl
  match cs, hl' with
  | [c0, c1, c2, c3, c4, c5, c6, c7, c8, c9, c10, c11], _ =>
    match xs, hlen with
    | [y0, y1, y2], _ =>
      have f0 := hf 0 _ rfl
      have f1 := hf 1 _ rfl
      have f2 := hf 2 _ rfl
      have q0 : Try.prog.cellsOf 3 = 1 := by kernel_rfl
      have q1 : Try.prog.cellsOf 72 = 10 := by kernel_rfl
      obtain ⟨kd, e0, _, _⟩ := DataW.trod_int Try.underlying3 f0
      obtain ⟨y, va, vb, e1, h1, h2, h3⟩ := el_ent _ _ _ f1
      obtain ⟨k, e2, _, _⟩ := DataW.trod_int Try.underlying3 f2
      refine ⟨⟨kd, y, k⟩, va, vb, ?_, h1, h2, h3⟩
      simp at e0 e1 e2
      rw [q0] at e0 e2
      rw [q1] at e1
      simp [entC] at e0 e1 e2
      show _ = eopC _ _ _
      obtain ⟨a1, a2, a3, a4, a5, a6, a7, a8, a9, a10⟩ := e1
      rw [e0, a1, a2, a3, a4, a5, a6, a7, a8, a9, a10, e2]
      rfl
end
/-- What both sides hold: a log at block p, the document's list. -/
structure PS (w wr : World) (p : Nat) (S F : Nat → Prop) (l : List Ent) (vw : Value) : Prop where
  lg : Lg S wr p l
  rf : RSl Rep.ent wr F vw l
  sep : Sep S F
  bf : Bd F wr
  np : ¬ F p
  sm : ∀ x ∈ l, x.small
  upd : Upd (fun b => b = p) w wr
  sn : ∀ b, S b → w.heap.size ≤ b
  pl : p < w.heap.size
section
variable {w wr x : World} {p : Nat} {S F : Nat → Prop} {l : List Ent} {vw : Value}
theorem PS.keep (h : PS w wr p S F l vw) (u : Upd NoB wr x) : PS w x p S F l vw :=
  ⟨h.lg.keep u (fun h => h) (fun _ _ h => h), h.rf.upd u (fun _ _ h => h), h.sep, h.bf.upd u, h.np, h.sm, h.upd.then u (fun _ _ h => h.elim), h.sn, h.pl⟩
/-- Both have one more. -/
theorem PS.added (h : PS w wr p S F l vw) (u : Upd NoB wr x) {v' : Value} {e : Ent} {F' : Nat → Prop} (hF : ∀ b, F' b → (F b ∨ wr.heap.size ≤ b) ∧ b < x.heap.size) (hr : RSl Rep.ent x F' v' (l ++ [e])) {y : World} (hl : Lg (grow S x y) y p (l ++ [e])) (hu : Upd (fun b => b = p ∨ S b) x y) (he : e.small) : PS w y p (grow S x y) F' (l ++ [e]) v' := by
  have hplt := h.lg.lt
  refine ⟨hl, hr.upd hu (fun b hb e => ?_), fun b hs hf => ?_, fun b hb => Nat.lt_of_lt_of_le (hF b hb).2 hu.size, fun hp => ?_, fun z hz => ?_, ?_, fun b hb => ?_, h.pl⟩
  · rcases e with rfl | e
    · rcases (hF b hb).1 with h' | h'
      · exact h.np h'
      · omega
    · rcases (hF b hb).1 with h' | h'
      · exact h.sep b e h'
      · have := h.lg.2.2 b e; omega
  · rcases hs.1 with h1 | h1
    · rcases (hF b hf).1 with h' | h'
      · exact h.sep b h1 h'
      · have := h.lg.2.2 b h1; omega
    · have := (hF b hf).2; omega
  · rcases (hF p hp).1 with h' | h'
    · exact h.np h'
    · omega
  · rcases List.mem_append.1 hz with hz | hz
    · exact h.sm z hz
    · rw [List.mem_singleton.1 hz]; exact he
  · exact (h.upd.then u (fun _ _ h => h.elim)).then hu (fun i hi e => e.elim id (fun e => by have := h.sn i e; omega))
  · rcases hb.1 with h1 | h1
    · exact h.sn b h1
    · exact Nat.le_trans h.upd.size (Nat.le_trans u.size h1)
/-- Both are cut. -/
theorem PS.cut (h : PS w wr p S F l vw) (u : Upd NoB wr x) (n : Nat) {v' : Value} (hr : RSl Rep.ent x F v' (l.take n)) {y : World} (hl : Lg (grow S x y) y p (l.take n)) (hu : Upd (fun b => b = p ∨ S b) x y) : PS w y p (grow S x y) F (l.take n) v' := by
  have hk := h.keep u
  refine ⟨hl, hr.upd hu (fun b hb e => e.elim (fun e => h.np (e ▸ hb)) (fun e => h.sep b e hb)), fun b hs hf => ?_, hk.bf.upd hu, h.np, fun z hz => h.sm z (List.mem_of_mem_take hz), hk.upd.then hu (fun i hi e => e.elim id (fun e => by have := h.sn i e; omega)), fun b hb => ?_, h.pl⟩
  · rcases hs.1 with h1 | h1
    · exact h.sep b h1 hf
    · have := hk.bf b hf; omega
  · rcases hb.1 with h1 | h1
    · exact h.sn b h1
    · exact Nat.le_trans hk.upd.size h1
end
theorem PS.start {w : World} {p : Nat} (h : Lg NoB w p []) : PS w w p NoB NoB [] (.slice none 0 0) :=
  ⟨h, RSl.nil _ _, fun _ h => h.elim, fun _ h => h.elim, fun h => h, fun _ h => (by cases h), Upd.refl _ _, fun _ h => h.elim, h.lt⟩
end Go.Proofs.Ytobfolkcpfaplaa
