/- Who holds what, the document's table (1): rows; who holds something, what is busy, how many. -/
import Derived.Test.YtobfolkcpfaplaaLock9
namespace Go.Proofs.Ytobfolkcpfaplaa
open Go.RowKit Kit
set_option linter.unusedVariables false

/-- A row: a holder, one key, is it to write? from when on, until when. -/
structure Rwl where
  cl : Int
  sq : Int
  key : ByteArray
  wr : Bool
  at_ : Int
  till : Int
def Rwl.cells (x : Rwl) : List Value := [.int .i64 x.cl, .int .u64 x.sq, .string x.key, .bool x.wr, .int .i64 x.at_, .int .i64 x.till]
def Rep.rwl : Rep Rwl where
  sz := 6
  pos := by decide
  rep _ _ x cs := cs = x.cells ∧ x.key.size ≤ maxLen
  len h := by rw [h.1]; rfl
  one h := by
    rw [h.1]
    intro u hu
    simp only [Rwl.cells, List.mem_cons, List.not_mem_nil, or_false] at hu
    rcases hu with rfl | rfl | rfl | rfl | rfl | rfl <;> rfl
  keep h _ _ := h
theorem flat_rwl : Flat Rep.rwl := fun h _ _ => h
theorem iRwl : (Try.prog.info? 39).map (fun i => (i.zero, i.size, i.bytes)) = some (some (.agg #[.int .i64 0, .int .u64 0, .string ⟨#[]⟩, .bool false, .int .i64 0, .int .i64 0]), 6, 56) := by kernel_rfl
/-- At block q lies a table of the document's. -/
def RTb (w0 w : World) (xs : List Nat) (q : Nat) (l : List Rwl) (last : Int) : Prop :=
  ∃ v, w.heap[q]? = some (.cells #[v, .int .i64 last] 28 (0, 0)) ∧ OSl Rep.rwl 39 w (New w0 w xs) v l
theorem RTb.keep {w0 w w' : World} {xs : List Nat} {q : Nat} {l : List Rwl} {last : Int} {F : Nat → Prop} (h : RTb w0 w xs q l last) (u : Upd F w w') (hq : ¬ F q) (hf : ∀ b, F b → b ∈ xs ∨ b < w0.heap.size) : RTb w0 w' xs q l last := by
  obtain ⟨v, h1, h2⟩ := h
  exact ⟨v, u.heap h1 hq, h2.new_keep u hf⟩
theorem RTb.lt {w0 w : World} {xs : List Nat} {q : Nat} {l : List Rwl} {last : Int} (h : RTb w0 w xs q l last) : q < w.heap.size := by
  obtain ⟨v, h1, _⟩ := h
  exact lt_of_heap h1
theorem RTb.out {w0 w : World} {xs : List Nat} {q : Nat} {l : List Rwl} {last : Int} (h : RTb w0 w xs q l last) (o : Obj) : RTb w0 (w.alloc o) (w.heap.size :: xs) q l last := by
  obtain ⟨v, h1, h2⟩ := h
  have u := (Upd.refl NoB w).alloc o
  refine ⟨v, u.heap h1 (fun h => h), (h2.upd u (fun _ _ h => h)).mono (fun b hb => ⟨hb.1, Nat.lt_of_lt_of_le hb.2.1 u.size, fun hm => ?_⟩)⟩
  rcases List.mem_cons.1 hm with e | e
  · have := hb.2.1; omega
  · exact hb.2.2 e
theorem RTb.back {w0 w : World} {xs : List Nat} {x q : Nat} {l : List Rwl} {last : Int} (h : RTb w0 w (x :: xs) q l last) : RTb w0 w xs q l last := by
  obtain ⟨v, h1, h2⟩ := h
  exact ⟨v, h1, h2.mono (fun b hb => ⟨hb.1, hb.2.1, fun hm => hb.2.2 (List.mem_cons_of_mem _ hm)⟩)⟩

def Rwl.held (r : Rwl) (c q : Int) : Bool := decide (r.till = 0) && (decide (r.cl = c) && decide (r.sq = q))
def Rwl.busy (r : Rwl) (key : ByteArray) (b : Bool) : Bool := decide (r.till = 0) && (decide (r.key = key) && (!decide (key.size = 0) && (r.wr || b)))
def Rwl.own (r : Rwl) : Bool := decide (r.key.size = 0) && decide (r.till = 0)
theorem none_any {α : Type} {P : α → Bool} {l : List α} (h : NoneOf P l l.length) : l.any P = false := by
  rw [List.any_eq_false]
  intro x hx
  obtain ⟨j, hj, e⟩ := List.getElem_of_mem hx
  rw [h j x hj (by rw [List.getElem?_eq_getElem hj, e])]
  simp
theorem some_any {α : Type} {P : α → Bool} {l : List α} {k : Nat} {x : α} (hk : l[k]? = some x) (hx : P x = true) : l.any P = true :=
  List.any_eq_true.2 ⟨x, List.mem_of_getElem? hk, hx⟩
set_option maxHeartbeats 2000000 in
set_option maxRecDepth 100000 in
theorem rholds_any (w0 : World) (xs : List Nat) (q : Nat) (l : List Rwl) (last cl sq : Int) (w : World) (h : RTb w0 w xs q l last) :
    Calls Try.prog 18 #[.pointer (some ⟨q, 0, none⟩), .agg #[.int .i64 cl, .int .u64 sq]] w fun e w' => e = .returned (.bool (l.any fun r => r.held cl sq)) ∧ Upd NoB w w' := by
  obtain ⟨v, h1, h2⟩ := h
  obtain ⟨hc0, hc1⟩ := two_cells h1
  have hq := lt_of_heap h1
  have HX := Lib.hid h2.read
  obtain ⟨A, c, cs, rfl, d1, d2, _⟩ := h2.read
  have d2' : c ≤ 9223372036854775807 := d2
  clear h1 h2
  obtain ⟨wa, hwa⟩ : ∃ wa, w.alloc (.cells #[.int .i64 cl, .int .u64 sq] 31) = wa := ⟨_, rfl⟩
  have hua : Upd NoB w wa := by rw [← hwa]; exact (Upd.refl _ _).alloc _
  have hB : wa.heap[w.heap.size]? = some (.cells #[.int .i64 cl, .int .u64 sq] 31 (0, 0)) := by rw [← hwa]; exact heap_alloc_new _ _
  have hcl := Lib.hid (fun x (hx : Upd NoB wa x) => two_cells (hx.heap hB (fun h => h)))
  have hsz : w.heap.size < wa.heap.size := lt_of_heap hB
  have HUa := Lib.hid hua
  have k0 := hua.cell hc0 (fun h => h)
  clear hB hua
  go_enter Try.func18, Try.ntmps18
  go_wp2_with fail
  go_loopw [6, 12] (fun x6 i wr => ∃ k : Nat, k ≤ l.length ∧ i = .int .i64 k ∧ Hid (NoneOf (fun r => r.held cl sq) l k) ∧ Hid (Upd NoB wa wr)) (fun _ i _ => l.length - (intOf i).toNat)
  case atStart => exact ⟨0, by omega, rfl, Lib.hid (NoneOf.zero _ _), Lib.hid (Upd.refl _ _)⟩
  case round =>
    obtain ⟨k, hk, rfl, hN, hV⟩ := hrel
    have hU := Lib.hid (HUa.out.trans hV.out)
    by_cases hlt : k < l.length
    · obtain ⟨g, o, rcs, rfl, hrep, hcell, hg⟩ := HX.out.cellN k hlt
      obtain ⟨rfl, hks⟩ := hrep
      have c0 : wr.cell? ⟨g, o + k * 6, none⟩ = some (.int .i64 l[k].cl) := hU.out.cell (hcell 0 _ rfl) (fun h => h)
      have c1 : wr.cell? ⟨g, o + k * 6 + 1, none⟩ = some (.int .u64 l[k].sq) := hU.out.cell (hcell 1 _ rfl) (fun h => h)
      have c2 : wr.cell? ⟨g, o + k * 6 + 2, none⟩ = some (.string l[k].key) := hU.out.cell (hcell 2 _ rfl) (fun h => h)
      have c3 : wr.cell? ⟨g, o + k * 6 + 3, none⟩ = some (.bool l[k].wr) := hU.out.cell (hcell 3 _ rfl) (fun h => h)
      have c4 : wr.cell? ⟨g, o + k * 6 + 4, none⟩ = some (.int .i64 l[k].at_) := hU.out.cell (hcell 4 _ rfl) (fun h => h)
      have c5 : wr.cell? ⟨g, o + k * 6 + 5, none⟩ = some (.int .i64 l[k].till) := hU.out.cell (hcell 5 _ rfl) (fun h => h)
      have hx := Lib.hid (show l[k]? = some l[k] from List.getElem?_eq_getElem hlt)
      have hUa := Lib.hid (fun o => hU.out.alloc o)
      generalize l[k] = x at *
      clear hcell hks
      have hUa := Lib.hid (fun o => hV.out.alloc o)
      have hUr := Lib.hid (fun o => HUa.out.trans (hV.out.alloc o))
      obtain ⟨b0, b1⟩ := hcl.out wr hV.out
      have hsr : w.heap.size < wr.heap.size := Nat.lt_of_lt_of_le hsz hV.out.size
      by_cases e : x.till = 0
      · have et : (x.till == 0) = true := by simpa using e
        have ed := Lib.hid e
        clear e
        go_wp2_with fail
        all_goals
          first
          | (have hN2 := Lib.hid (hN.out.next hx.out (by simp [Rwl.held, *]))
             go_roundw
             case measure => simp [intOf]; omega
             case rel => exact ⟨k + 1, by omega, by go_num, hN2, Lib.hid (hUa.out _)⟩)
          | (have hres := Lib.hid (some_any (P := fun r => r.held cl sq) hx.out (by simp [Rwl.held, ed.out, *]))
             go_ret
             exact ⟨by rw [hres.out]; rfl, hUr.out _⟩)
      · have et : (x.till == 0) = false := by simpa using e
        have hN2 := Lib.hid (hN.out.next hx.out (by simp [Rwl.held, e]))
        clear e
        go_wp2_with fail
        go_roundw
        case measure => simp [intOf]; omega
        case rel => exact ⟨k + 1, by omega, by go_num, hN2, Lib.hid (hUa.out _)⟩
    · obtain rfl : k = l.length := by omega
      have hres := Lib.hid (none_any hN.out)
      go_wp2_with fail
      go_ret
      exact ⟨by rw [hres.out]; rfl, hU.out⟩
end Go.Proofs.Ytobfolkcpfaplaa
