/- The document's learner, function by function. -/
import Derived.Test.YtmcpcladjfddmaaLearnStays
import Derived.Test.YtmcpcladjfddmaaHeld
namespace Go.Proofs.Ytmcpcladjfddmaa
open Go.RowKit Kit
set_option linter.unusedVariables false

abbrev Rw := Int × ByteArray
/-- A slot's value: the first row's. -/
def rfind (l : List Rw) (s : Int) : Option ByteArray := (l.find? fun x => x.1 == s).map (·.2)
theorem rfind_nil (s : Int) : rfind [] s = none := rfl
theorem rfind_app (l : List Rw) (x : Rw) (s : Int) : rfind (l ++ [x]) s = (rfind l s).or (if x.1 == s then some x.2 else none) := by
  unfold rfind
  rw [List.find?_append]
  cases h : List.find? (fun x => x.1 == s) l with
  | some y => rfl
  | none =>
    rw [Option.none_or, Option.map_none, Option.none_or]
    cases hx : (x.1 == s) <;> simp [List.find?, hx]
def rtop (l : List Rw) : Int := l.foldl (fun n x => if n ≤ x.1 then x.1 + 1 else n) 0
theorem rtop_app (l : List Rw) (x : Rw) : rtop (l ++ [x]) = if rtop l ≤ x.1 then x.1 + 1 else rtop l := by
  unfold rtop
  rw [List.foldl_append]
  rfl
/-- At block q lies a learner of the document's. -/
def RLn (w0 w : World) (xs : List Nat) (q : Nat) (l : List Rw) : Prop :=
  ∃ v, w.heap[q]? = some (.cells #[v] 37 (0, 0)) ∧ OSl Rep.row 39 w (New w0 w xs) v l
theorem RLn.keep {w0 w w' : World} {xs : List Nat} {q : Nat} {l : List Rw} {F : Nat → Prop} (h : RLn w0 w xs q l) (u : Upd F w w') (hq : ¬ F q) (hf : ∀ b, F b → b ∈ xs ∨ b < w0.heap.size) : RLn w0 w' xs q l := by
  obtain ⟨v, h1, h2⟩ := h
  exact ⟨v, u.heap h1 hq, h2.new_keep u hf⟩

/-- What the first k rows say. -/
def NoRow (l : List Rw) (s : Int) (k : Nat) : Prop := ∀ j x, j < k → l[j]? = some x → x.1 ≠ s
theorem rfind_none {l : List Rw} {s : Int} (h : NoRow l s l.length) : rfind l s = none := by
  unfold rfind
  rw [List.find?_eq_none.2 (fun x hx => ?_)]
  · rfl
  · obtain ⟨j, hj, e⟩ := List.getElem_of_mem hx
    have := h j x hj (by rw [List.getElem?_eq_getElem hj, e])
    simpa using this
theorem rfind_some {l : List Rw} {s : Int} {k : Nat} {x : Rw} (h : NoRow l s k) (hk : l[k]? = some x) (hs : x.1 = s) : rfind l s = some x.2 := by
  unfold rfind
  have hlt := (List.getElem?_eq_some_iff.1 hk).1
  rw [List.find?_eq_some_iff_getElem.2 ⟨by simpa using hs, k, hlt, (List.getElem?_eq_some_iff.1 hk).2, fun j hj => by
    have := h j l[j] hj (List.getElem?_eq_getElem (Nat.lt_trans hj hlt))
    simpa using this⟩]
  rfl

set_option maxHeartbeats 2000000 in
set_option maxRecDepth 100000 in
theorem refval_any (w0 : World) (xs : List Nat) (q : Nat) (l : List Rw) (s : Int) (w : World) (h : RLn w0 w xs q l) (hl : l.length ≤ 1000) :
    Calls Try.prog 22 #[.pointer (some ⟨q, 0, none⟩), .int .i64 s] w fun e w' => e = .returned (.tuple #[.string ((rfind l s).getD ⟨#[]⟩), .bool (rfind l s).isSome]) ∧ Upd NoB w w' := by
  obtain ⟨v, h1, h2⟩ := h
  have c0 : w.cell? ⟨q, 0, none⟩ = some v := by simp [World.cell?, h1]
  have HX := Lib.hid h2.read
  obtain ⟨A, c, cs, rfl, d1, d2, _⟩ := h2.read
  have d2' : c ≤ 9223372036854775807 := d2
  clear h1 h2
  have hnone := Lib.hid (fun h => rfind_none (l := l) (s := s) h)
  have hsome := Lib.hid (fun k x => rfind_some (l := l) (s := s) (k := k) (x := x))
  go_enter Try.func22, Try.ntmps22
  go_wp2_with fail
  go_loopw [7, 13] (fun x7 i wr => ∃ k : Nat, k ≤ l.length ∧ i = .int .i64 k ∧ Hid (NoRow l s k) ∧ Hid (Upd NoB w wr)) (fun _ i _ => l.length - (intOf i).toNat)
  case atStart => exact ⟨0, by omega, rfl, Lib.hid (fun j x hj => by omega), Lib.hid (Upd.refl _ _)⟩
  case round =>
    obtain ⟨k, hk, rfl, hN, hU⟩ := hrel
    by_cases hlt : k < l.length
    · obtain ⟨g, o, rcs, rfl, hrep, hcs, hg⟩ := HX.out.cellN k hlt
      obtain ⟨hr1, hr2, hr3⟩ := hrep
      subst hr1
      have c0 : wr.cell? ⟨g, o + k * 2, none⟩ = some (.int .i64 l[k].1) := hU.out.cell (hcs 0 _ rfl) (fun h => h)
      have c1 : wr.cell? ⟨g, o + k * 2 + 1, none⟩ = some (.string l[k].2) := hU.out.cell (hcs 1 _ rfl) (fun h => h)
      have hx := Lib.hid (show l[k]? = some l[k] from List.getElem?_eq_getElem hlt)
      have hUa := Lib.hid (hU.out.alloc (.cells #[.int .i64 l[k].1, .string l[k].2] 39))
      generalize l[k] = x at *
      obtain ⟨xs', xv⟩ := x
      simp only at c0 c1 hUa
      clear hcs hr3
      by_cases hs : xs' = s
      · have hres := Lib.hid (hsome.out k (xs', xv) hN.out hx.out hs)
        have hb : (xs' == s) = true := by simp [hs]
        clear hs
        go_wp2_with fail
        go_ret2
        exact ⟨by rw [hres.out]; rfl, hUa.out⟩
      · have hb : (xs' == s) = false := by simp [hs]
        have hN2 : Hid (NoRow l s (k + 1)) := Lib.hid (fun j y hj hy => by
          by_cases e : j = k
          · subst e
            rw [hx.out] at hy
            cases hy
            exact hs
          · exact hN.out j y (by omega) hy)
        clear hs
        go_wp2_with fail
        go_roundw
        case measure => simp [intOf]; omega
        case rel => exact ⟨k + 1, by omega, by go_num, hN2, hUa⟩
    · obtain rfl : k = l.length := by omega
      have hres := Lib.hid (hnone.out hN.out)
      go_wp2_with fail
      go_ret2
      exact ⟨by rw [hres.out]; rfl, hU.out⟩
theorem iRow : (Try.prog.info? 39).map (fun i => (i.zero, i.size, i.bytes)) = some (some (.agg #[.int .i64 0, .string ⟨#[]⟩]), 2, 24) := by kernel_rfl
def rlearn (l : List Rw) (s : Int) (v : ByteArray) : Int × List Rw :=
  if s < 0 ∨ 399 < s ∨ 64 < v.size then (1, l)
  else match rfind l s with
    | some u => if u = v then (7, l) else (10, l)
    | none => (0, l ++ [(s, v)])
set_option maxHeartbeats 2000000 in
set_option maxRecDepth 100000 in
theorem reflearn_any (w0 : World) (xs : List Nat) (q : Nat) (l : List Rw) (s : Int) (v : ByteArray) (w : World) (h : RLn w0 w xs q l) (hq : q ∈ xs) (hxs : ∀ x ∈ xs, x < w.heap.size) (h0 : w0.heap.size ≤ w.heap.size) (hl : l.length ≤ 100) (hv : v.size ≤ 9223372036854775807) :
    Calls Try.prog 17 #[.pointer (some ⟨q, 0, none⟩), .int .i64 s, .string v] w fun e w' => e = .returned (.int .i64 (rlearn l s v).1) ∧ RLn w0 w' xs q (rlearn l s v).2 ∧ Upd (fun b => b = q ∨ New w0 w xs b) w w' := by
  have H := Lib.hid h
  by_cases h1 : s < 0
  · have e : rlearn l s v = (1, l) := by unfold rlearn; rw [if_pos (.inl h1)]
    rw [e]
    have hd : decide (s < 0) = true := decide_eq_true h1
    clear e
    go_enter Try.func17, Try.ntmps17
    go_wp2_with fail
    go_ret
    exact ⟨rfl, H.out, Upd.refl _ _⟩
  · have hd : decide (s < 0) = false := decide_eq_false h1
    by_cases h2 : 399 < s
    · have e : rlearn l s v = (1, l) := by unfold rlearn; rw [if_pos (.inr (.inl h2))]
      rw [e]
      clear e
      have hd2 : decide (399 < s) = true := decide_eq_true h2
      go_enter Try.func17, Try.ntmps17
      go_wp2_with fail
      go_ret
      exact ⟨rfl, H.out, Upd.refl _ _⟩
    · have hd2 : decide (399 < s) = false := decide_eq_false h2
      by_cases h3 : 64 < v.size
      · have e : rlearn l s v = (1, l) := by unfold rlearn; rw [if_pos (.inr (.inr h3))]
        rw [e]
        clear e
        have hd3 : (64 : Int) < (v.size : Int) := by omega
        have hd4 : decide ((64 : Int) < (v.size : Int)) = true := decide_eq_true hd3
        go_enter Try.func17, Try.ntmps17
        go_wp2_with fail
        go_ret
        exact ⟨rfl, H.out, Upd.refl _ _⟩
      · have hd3 : ¬ (64 : Int) < (v.size : Int) := by omega
        have hd4 : decide ((64 : Int) < (v.size : Int)) = false := decide_eq_false hd3
        have hval := fun w1 (h : RLn w0 w1 xs q l) => refval_any w0 xs q l s w1 h (by omega)
        have hval := hval w H.out
        have e : rlearn l s v = match rfind l s with
          | some u => if u = v then (7, l) else (10, l)
          | none => (0, l ++ [(s, v)]) := by unfold rlearn; rw [if_neg (by omega)]
        rw [e]
        clear e
        have wfs : (Lit.int .i64 s).wf = true := by simp [Lit.wf, IntKind.min, IntKind.max, IntKind.signed, IntKind.bits]; omega
        cases hf : rfind l s with
        | some u =>
          rw [hf] at hval
          have HV := Lib.hid (show ∀ w1, w1 = w → Calls Try.prog 22 #[.pointer (some ⟨q, 0, none⟩), .int .i64 s] w1 fun e w' => e = .returned (.tuple #[.string u, .bool true]) ∧ Upd NoB w1 w' from fun w1 e => e ▸ hval)
          clear hval hf h
          by_cases huv : u = v
          · subst huv
            simp only [if_true]
            go_enter Try.func17, Try.ntmps17
            go_wp2_with fail
            refine (HV.out _ rfl).mono ?_
            rintro e w' ⟨rfl, hu⟩
            have HU := Lib.hid hu
            have HR := Lib.hid (H.out.keep hu (fun h => h) (fun b hb => hb.elim))
            clear hu
            go_wp2_with fail
            go_ret
            exact ⟨rfl, HR.out, HU.out.mono (fun _ _ h => h.elim)⟩
          · have hne := str_ne u v huv
            simp only [if_neg huv]
            clear huv
            go_enter Try.func17, Try.ntmps17
            go_wp2_with fail
            refine (HV.out _ rfl).mono ?_
            rintro e w' ⟨rfl, hu⟩
            have HU := Lib.hid hu
            have HR := Lib.hid (H.out.keep hu (fun h => h) (fun b hb => hb.elim))
            clear hu
            go_wp2_with fail
            go_ret
            exact ⟨rfl, HR.out, HU.out.mono (fun _ _ h => h.elim)⟩
        | none =>
          rw [hf] at hval
          have HV := Lib.hid (show ∀ w1, w1 = w → Calls Try.prog 22 #[.pointer (some ⟨q, 0, none⟩), .int .i64 s] w1 fun e w' => e = .returned (.tuple #[.string ⟨#[]⟩, .bool false]) ∧ Upd NoB w1 w' from fun w1 e => e ▸ hval)
          clear hval hf h
          go_enter Try.func17, Try.ntmps17
          go_wp2_with fail
          refine (HV.out _ rfl).mono ?_
          rintro e w1 ⟨rfl, hu⟩
          have HU := Lib.hid hu
          obtain ⟨vl, g1, g2⟩ := H.out.keep hu (fun h => h) (fun b hb => hb.elim)
          have c0 : w1.cell? ⟨q, 0, none⟩ = some vl := by simp [World.cell?, g1]
          have HO := Lib.hid g2
          have HB := Lib.hid (New.bd w0 w1 xs)
          have hqlt := hxs q hq
          have G1 := Lib.hid g1
          have hy := Lib.hid (show Rep.row.rep w1 NoB (s, v) #[.int .i64 s, .string v].toList from ⟨rfl, wfs, hv⟩)
          have hall : (l.length + 1) * 24 ≤ 140737488355328 := by omega
          obtain ⟨Ax, cx, _, e0, _⟩ := g2.read
          subst e0
          generalize hvl : Value.slice Ax l.length cx = vl at *
          clear hu g1 hvl
          go_wp2_with (at_builtin; go_must (refine app_one (r := Rep.row) (y := (s, v)) rfl _ _ 34 39 (.agg #[.int .i64 0, .string ⟨#[]⟩]) 24 rfl Try.underlying34 iRow rfl (by decide) rfl rfl HO.out HB.out hy.out (fun b hb => hb.elim) hall ?_))
          intro v1 w2 ho2 hu2
          have hnotown : ¬ vl.ownBlock = some q := fun e => (HO.out.new_own q e).2.2 hq
          have g1' := hu2.heap G1.out hnotown
          have c0' : w2.cell? ⟨q, 0, none⟩ = some vl := by simp [World.cell?, g1']
          have f0' : w2.frozen? ⟨q, 0, none⟩ = false := by simp [World.frozen?, g1']
          have HN := Lib.hid (ho2.new_app (Nat.le_trans h0 HU.out.size) (fun x hx => Nat.lt_of_lt_of_le (hxs x hx) HU.out.size))
          obtain ⟨A1, c1, _, e1, _⟩ := HN.out.read
          rw [List.length_append, List.length_singleton] at e1
          subst e1
          have u3 : Upd (fun b => b = q) w2 (w2.setCell ⟨q, 0, none⟩ (.slice A1 (l.length + 1) c1)) := (Upd.refl (fun b => b = q) w2).setCell (p := ⟨q, 0, none⟩) (fun _ => rfl) _
          have hfin : RLn w0 (w2.setCell ⟨q, 0, none⟩ (.slice A1 (l.length + 1) c1)) xs q (l ++ [(s, v)]) := by
            refine ⟨_, ?_, HN.out.new_keep u3 (fun b hb => .inl (by rw [show b = q from hb]; exact hq))⟩
            have := heap_put g1' 0 (.slice A1 (l.length + 1) c1)
            simpa using this
          have HF := Lib.hid hfin
          have HU3 := Lib.hid (show Upd (fun b => b = q ∨ New w0 w xs b) w (w2.setCell ⟨q, 0, none⟩ (.slice A1 (l.length + 1) c1)) by
            refine ((HU.out.mono (fun _ _ h => h.elim)).then hu2 (fun i hi e => ?_)).then u3 (fun i hi e => .inl e)
            obtain ⟨a1, a2, a3⟩ := HO.out.new_own i e
            exact .inr ⟨a1, hi, a3⟩)
          clear ho2 hu2 g1' u3 hfin
          go_wp2_with fail
          go_ret
          exact ⟨rfl, HF.out, HU3.out⟩
end Go.Proofs.Ytmcpcladjfddmaa
