/- Who holds what, function by function (2): spans; whose is held; which keys are busy. -/
import Derived.Test.YtobfolkcpfaplaaLock1
namespace Go.Proofs.Ytobfolkcpfaplaa
open Go.RowKit Kit
set_option linter.unusedVariables false

/-- Which keys somebody holds, from when on, until when. -/
structure Span where
  cl : Int
  sq : Int
  rd : List ByteArray
  wr : List ByteArray
  at_ : Int
  till : Int
def spanC (x : Span) (va vb : Value) : List Value := [.int .i64 x.cl, .int .u64 x.sq, va, vb, .int .i64 x.at_, .int .i64 x.till]
def Rep.span : Rep Span where
  sz := 6
  pos := by decide
  rep w S x cs := ∃ va vb, cs = spanC x va vb ∧ RSl Rep.str w S va x.rd ∧ RSl Rep.str w S vb x.wr
  len h := by obtain ⟨_, _, h, _⟩ := h; rw [h]; rfl
  one h := by
    obtain ⟨va, vb, h, ⟨A, c, _, rfl, _⟩, ⟨B, d, _, rfl, _⟩⟩ := h
    rw [h]
    intro u hu
    simp only [spanC, List.mem_cons, List.not_mem_nil, or_false] at hu
    rcases hu with rfl | rfl | rfl | rfl | rfl | rfl <;> rfl
  keep h k k' := by obtain ⟨va, vb, h, h1, h2⟩ := h; exact ⟨va, vb, h, h1.keep k k', h2.keep k k'⟩
def Span.held (s : Span) (c q : Int) : Bool := decide (s.till = 0) && (decide (s.cl = c) && decide (s.sq = q))
def Span.busy (s : Span) (key : ByteArray) (b : Bool) : Bool := decide (s.till = 0) && ((s.wr.any fun x => decide (x = key)) || (b && (s.rd.any fun x => decide (x = key))))

set_option maxHeartbeats 2000000 in
set_option maxRecDepth 100000 in
theorem idx_find {S : Nat → Prop} (p : Nat) (v : Value) (l : List Span) (P : Span → Bool) (w : World) (h : RSl Rep.span w S v l)
    (hP : ∀ x va vb w1, RSl Rep.str w1 S va x.rd → RSl Rep.str w1 S vb x.wr → Upd NoB w w1 → Calls Try.prog 74 #[.agg #[.int .i64 x.cl, .int .u64 x.sq, va, vb, .int .i64 x.at_, .int .i64 x.till], .pointer (some ⟨p, 0, none⟩)] w1 fun e w' => e = .returned (.bool (P x)) ∧ Upd NoB w1 w') :
    Calls Try.prog 73 #[v, .func (.func 74) #[] #[.pointer (some ⟨p, 0, none⟩)]] w fun e w' => e = .returned (.int .i64 (fidx P l)) ∧ Upd NoB w w' := by
  have HX := Lib.hid h
  have HP := Lib.hid hP
  obtain ⟨A, c, cs, rfl, d1, d2, _⟩ := h
  have d2' : c ≤ 9223372036854775807 := d2
  clear hP
  have hnone := Lib.hid (fun h => fidx_none (P := P) (l := l) h)
  have hsome := Lib.hid (fun k x => fidx_some (P := P) (l := l) (k := k) (x := x))
  go_enter Try.func73, Try.ntmps73
  go_wp2_with fail
  go_loopw [5, 8] (fun x5 i wr => ∃ k : Nat, k ≤ l.length ∧ i = .int .i64 k ∧ Hid (NoneOf P l k) ∧ Hid (Upd NoB w wr)) (fun _ i _ => l.length - (intOf i).toNat)
  case atStart => exact ⟨0, by omega, rfl, Lib.hid (NoneOf.zero _ _), Lib.hid (Upd.refl _ _)⟩
  case round =>
    obtain ⟨k, hk, rfl, hN, hU⟩ := hrel
    by_cases hlt : k < l.length
    · obtain ⟨g, o, rcs, rfl, hrep, hcell, hg⟩ := HX.out.cellN k hlt
      obtain ⟨va, vb, rfl, hra, hrb⟩ := hrep
      have c0 : wr.cell? ⟨g, o + k * 6, none⟩ = some (.int .i64 l[k].cl) := hU.out.cell (hcell 0 _ rfl) (fun h => h)
      have c1 : wr.cell? ⟨g, o + k * 6 + 1, none⟩ = some (.int .u64 l[k].sq) := hU.out.cell (hcell 1 _ rfl) (fun h => h)
      have c2 : wr.cell? ⟨g, o + k * 6 + 2, none⟩ = some va := hU.out.cell (hcell 2 _ rfl) (fun h => h)
      have c3 : wr.cell? ⟨g, o + k * 6 + 3, none⟩ = some vb := hU.out.cell (hcell 3 _ rfl) (fun h => h)
      have c4 : wr.cell? ⟨g, o + k * 6 + 4, none⟩ = some (.int .i64 l[k].at_) := hU.out.cell (hcell 4 _ rfl) (fun h => h)
      have c5 : wr.cell? ⟨g, o + k * 6 + 5, none⟩ = some (.int .i64 l[k].till) := hU.out.cell (hcell 5 _ rfl) (fun h => h)
      have hx := Lib.hid (show l[k]? = some l[k] from List.getElem?_eq_getElem hlt)
      have hcall := Lib.hid (HP.out l[k] va vb wr (hra.upd hU.out (fun _ _ h => h)) (hrb.upd hU.out (fun _ _ h => h)) hU.out)
      generalize l[k] = x at *
      clear hcell hra hrb
      cases hb : P x
      · rw [hb] at hcall
        have hN2 := Lib.hid (hN.out.next hx.out hb)
        clear hb
        go_wp2_with fail
        refine hcall.out.mono ?_
        rintro e w2 ⟨rfl, hu⟩
        have hU2 := Lib.hid (hU.out.trans hu)
        clear hu
        go_wp2_with fail
        go_roundw
        case measure => simp [intOf]; omega
        case rel => exact ⟨k + 1, by omega, by go_num, hN2, hU2⟩
      · rw [hb] at hcall
        have hres := Lib.hid (hsome.out k x hN.out hx.out hb)
        clear hb
        go_wp2_with fail
        refine hcall.out.mono ?_
        rintro e w2 ⟨rfl, hu⟩
        have hU2 := Lib.hid (hU.out.trans hu)
        clear hu
        go_wp2_with fail
        go_ret
        exact ⟨by rw [hres.out]; rfl, hU2.out⟩
    · obtain rfl : k = l.length := by omega
      have hres := Lib.hid (hnone.out hN.out)
      go_wp2_with fail
      go_ret
      exact ⟨by rw [hres.out]; rfl, hU.out⟩
set_option maxHeartbeats 2000000 in
set_option maxRecDepth 100000 in
theorem idx_bsy {S : Nat → Prop} (p q : Nat) (v : Value) (l : List Span) (P : Span → Bool) (w : World) (h : RSl Rep.span w S v l)
    (hP : ∀ x va vb w1, RSl Rep.str w1 S va x.rd → RSl Rep.str w1 S vb x.wr → Upd NoB w w1 → Calls Try.prog 57 #[.agg #[.int .i64 x.cl, .int .u64 x.sq, va, vb, .int .i64 x.at_, .int .i64 x.till], .pointer (some ⟨p, 0, none⟩), .pointer (some ⟨q, 0, none⟩)] w1 fun e w' => e = .returned (.bool (P x)) ∧ Upd NoB w1 w') :
    Calls Try.prog 73 #[v, .func (.func 57) #[] #[.pointer (some ⟨p, 0, none⟩), .pointer (some ⟨q, 0, none⟩)]] w fun e w' => e = .returned (.int .i64 (fidx P l)) ∧ Upd NoB w w' := by
  have HX := Lib.hid h
  have HP := Lib.hid hP
  obtain ⟨A, c, cs, rfl, d1, d2, _⟩ := h
  have d2' : c ≤ 9223372036854775807 := d2
  clear hP
  have hnone := Lib.hid (fun h => fidx_none (P := P) (l := l) h)
  have hsome := Lib.hid (fun k x => fidx_some (P := P) (l := l) (k := k) (x := x))
  go_enter Try.func73, Try.ntmps73
  go_wp2_with fail
  go_loopw [5, 8] (fun x5 i wr => ∃ k : Nat, k ≤ l.length ∧ i = .int .i64 k ∧ Hid (NoneOf P l k) ∧ Hid (Upd NoB w wr)) (fun _ i _ => l.length - (intOf i).toNat)
  case atStart => exact ⟨0, by omega, rfl, Lib.hid (NoneOf.zero _ _), Lib.hid (Upd.refl _ _)⟩
  case round =>
    obtain ⟨k, hk, rfl, hN, hU⟩ := hrel
    by_cases hlt : k < l.length
    · obtain ⟨g, o, rcs, rfl, hrep, hcell, hg⟩ := HX.out.cellN k hlt
      obtain ⟨va, vb, rfl, hra, hrb⟩ := hrep
      have c0 : wr.cell? ⟨g, o + k * 6, none⟩ = some (.int .i64 l[k].cl) := hU.out.cell (hcell 0 _ rfl) (fun h => h)
      have c1 : wr.cell? ⟨g, o + k * 6 + 1, none⟩ = some (.int .u64 l[k].sq) := hU.out.cell (hcell 1 _ rfl) (fun h => h)
      have c2 : wr.cell? ⟨g, o + k * 6 + 2, none⟩ = some va := hU.out.cell (hcell 2 _ rfl) (fun h => h)
      have c3 : wr.cell? ⟨g, o + k * 6 + 3, none⟩ = some vb := hU.out.cell (hcell 3 _ rfl) (fun h => h)
      have c4 : wr.cell? ⟨g, o + k * 6 + 4, none⟩ = some (.int .i64 l[k].at_) := hU.out.cell (hcell 4 _ rfl) (fun h => h)
      have c5 : wr.cell? ⟨g, o + k * 6 + 5, none⟩ = some (.int .i64 l[k].till) := hU.out.cell (hcell 5 _ rfl) (fun h => h)
      have hx := Lib.hid (show l[k]? = some l[k] from List.getElem?_eq_getElem hlt)
      have hcall := Lib.hid (HP.out l[k] va vb wr (hra.upd hU.out (fun _ _ h => h)) (hrb.upd hU.out (fun _ _ h => h)) hU.out)
      generalize l[k] = x at *
      clear hcell hra hrb
      cases hb : P x
      · rw [hb] at hcall
        have hN2 := Lib.hid (hN.out.next hx.out hb)
        clear hb
        go_wp2_with fail
        refine hcall.out.mono ?_
        rintro e w2 ⟨rfl, hu⟩
        have hU2 := Lib.hid (hU.out.trans hu)
        clear hu
        go_wp2_with fail
        go_roundw
        case measure => simp [intOf]; omega
        case rel => exact ⟨k + 1, by omega, by go_num, hN2, hU2⟩
      · rw [hb] at hcall
        have hres := Lib.hid (hsome.out k x hN.out hx.out hb)
        clear hb
        go_wp2_with fail
        refine hcall.out.mono ?_
        rintro e w2 ⟨rfl, hu⟩
        have hU2 := Lib.hid (hU.out.trans hu)
        clear hu
        go_wp2_with fail
        go_ret
        exact ⟨by rw [hres.out]; rfl, hU2.out⟩
    · obtain rfl : k = l.length := by omega
      have hres := Lib.hid (hnone.out hN.out)
      go_wp2_with fail
      go_ret
      exact ⟨by rw [hres.out]; rfl, hU.out⟩
set_option maxHeartbeats 1000000 in
theorem cont_bsy {S : Nat → Prop} (p q : Nat) (v : Value) (l : List Span) (P : Span → Bool) (w : World) (h : RSl Rep.span w S v l)
    (hP : ∀ x va vb w1, RSl Rep.str w1 S va x.rd → RSl Rep.str w1 S vb x.wr → Upd NoB w w1 → Calls Try.prog 57 #[.agg #[.int .i64 x.cl, .int .u64 x.sq, va, vb, .int .i64 x.at_, .int .i64 x.till], .pointer (some ⟨p, 0, none⟩), .pointer (some ⟨q, 0, none⟩)] w1 fun e w' => e = .returned (.bool (P x)) ∧ Upd NoB w1 w') :
    Calls Try.prog 56 #[v, .func (.func 57) #[] #[.pointer (some ⟨p, 0, none⟩), .pointer (some ⟨q, 0, none⟩)]] w fun e w' => e = .returned (.bool (l.any P)) ∧ Upd NoB w w' := by
  have hi := Lib.hid (idx_bsy p q v l P w h hP)
  clear hP
  obtain ⟨A, c, cs, rfl, _⟩ := h
  have he := fidx_any P l
  generalize l.any P = B at *
  generalize fidx P l = I at *
  subst he
  go_enter Try.func56, Try.ntmps56
  go_wp2_with fail
  refine hi.out.mono ?_
  rintro e w2 ⟨rfl, hu⟩
  have HU := Lib.hid hu
  clear hu
  go_wp2_with fail
  go_ret
  exact ⟨rfl, HU.out⟩

set_option maxHeartbeats 2000000 in
set_option maxRecDepth 100000 in
theorem find1_any (x : Span) (A B : Option Addr) (m n c d p : Nat) (cl sq : Int) (w : World) (h0 : w.cell? ⟨p, 0, none⟩ = some (.int .i64 cl)) (h1 : w.cell? ⟨p, 1, none⟩ = some (.int .u64 sq)) :
    Calls Try.prog 74 #[.agg #[.int .i64 x.cl, .int .u64 x.sq, .slice A m c, .slice B n d, .int .i64 x.at_, .int .i64 x.till], .pointer (some ⟨p, 0, none⟩)] w fun e w' => e = .returned (.bool (x.held cl sq)) ∧ Upd NoB w w' := by
  have hp : p < w.heap.size := World.block_lt_of_cell? w _ h0
  have HU := Lib.hid (fun o => (Upd.refl NoB w).alloc o)
  unfold Span.held
  by_cases e : x.till = 0
  · have et : (x.till == 0) = true := by simpa using e
    rw [decide_eq_true e, Bool.true_and]
    clear e
    go_enter Try.func74, Try.ntmps74
    go_wp2_with fail
    all_goals
      go_ret
      exact ⟨by simp [*], HU.out _⟩
  · have et : (x.till == 0) = false := by simpa using e
    rw [decide_eq_false e, Bool.false_and]
    clear e
    go_enter Try.func74, Try.ntmps74
    go_wp2_with fail
    go_ret
    exact ⟨by rfl, HU.out _⟩
end Go.Proofs.Ytobfolkcpfaplaa
