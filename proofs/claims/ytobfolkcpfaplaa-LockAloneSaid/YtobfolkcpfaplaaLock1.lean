/- Who holds what, function by function (1): where something stands in a list; keys that may be. -/
import Derived.Test.YtobfolkcpfaplaaKeys
import Derived.Test.YtobfolkcpfaplaaHeld
import Derived.Test.YtobfolkcpfaplaaSched
namespace Go.Proofs.Ytobfolkcpfaplaa
open Go.RowKit Kit
set_option linter.unusedVariables false

theorem str_ne (x y : ByteArray) (h : ¬ x = y) : (x.toList == y.toList) = false := by
  rw [← Bool.not_eq_true, beq_iff_eq, ByteArray.toList_eq, ByteArray.toList_eq]
  exact fun e => h (ByteArray.ext (Array.toList_inj.1 e))
/-- Where the first one stands that P says yes to; -1: nowhere. -/
def fidx {α : Type} (P : α → Bool) (l : List α) : Int := match l.findIdx? P with
  | some k => (k : Int)
  | none => -1
/-- P says no to the first k. -/
def NoneOf {α : Type} (P : α → Bool) (l : List α) (k : Nat) : Prop := ∀ j x, j < k → l[j]? = some x → P x = false
theorem NoneOf.zero {α : Type} (P : α → Bool) (l : List α) : NoneOf P l 0 := fun j x hj => by omega
theorem NoneOf.next {α : Type} {P : α → Bool} {l : List α} {k : Nat} {x : α} (h : NoneOf P l k) (hk : l[k]? = some x) (hx : P x = false) : NoneOf P l (k + 1) := by
  intro j y hj hy
  by_cases e : j = k
  · subst e
    rw [hk] at hy
    cases hy
    exact hx
  · exact h j y (by omega) hy
theorem fidx_none {α : Type} {P : α → Bool} {l : List α} (h : NoneOf P l l.length) : fidx P l = -1 := by
  unfold fidx
  rw [List.findIdx?_eq_none_iff.2 (fun x hx => ?_)]
  obtain ⟨j, hj, e⟩ := List.getElem_of_mem hx
  exact h j x hj (by rw [List.getElem?_eq_getElem hj, e])
theorem fidx_some {α : Type} {P : α → Bool} {l : List α} {k : Nat} {x : α} (h : NoneOf P l k) (hk : l[k]? = some x) (hx : P x = true) : fidx P l = k := by
  unfold fidx
  obtain ⟨hlt, e⟩ := List.getElem?_eq_some_iff.1 hk
  rw [List.findIdx?_eq_some_iff_getElem.2 ⟨hlt, by rw [e]; exact hx, fun j hj => by
    have := h j l[j] hj (List.getElem?_eq_getElem (Nat.lt_trans hj hlt))
    rw [this]
    simp⟩]
theorem fidx_any {α : Type} (P : α → Bool) (l : List α) : decide ((0 : Int) ≤ fidx P l) = l.any P := by
  unfold fidx
  cases h : l.findIdx? P with
  | none =>
    have := List.findIdx?_eq_none_iff.1 h
    rw [List.any_eq_false.2 (fun x hx => by simp [this x hx])]
    rfl
  | some k =>
    obtain ⟨hlt, hp, _⟩ := List.findIdx?_eq_some_iff_getElem.1 h
    rw [List.any_eq_true.2 ⟨l[k], List.getElem_mem hlt, hp⟩]
    exact decide_eq_true (Int.natCast_nonneg k)

set_option maxHeartbeats 1000000 in
set_option maxRecDepth 100000 in
theorem index_any {S : Nat → Prop} (v : Value) (l : List ByteArray) (s : ByteArray) (w : World) (h : RSl Rep.str w S v l) :
    Calls Try.prog 76 #[v, .string s] w fun e w' => e = .returned (.int .i64 (fidx (fun x => decide (x = s)) l)) ∧ Upd NoB w w' := by
  have HX := Lib.hid h
  obtain ⟨A, c, cs, rfl, d1, d2, _⟩ := h
  have d2' : c ≤ 9223372036854775807 := d2
  have hnone := Lib.hid (fun h => fidx_none (P := fun x => decide (x = s)) (l := l) h)
  have hsome := Lib.hid (fun k x => fidx_some (P := fun x => decide (x = s)) (l := l) (k := k) (x := x))
  go_enter Try.func76, Try.ntmps76
  go_wp2_with fail
  go_loopw [5, 8] (fun x5 i wr => ∃ k : Nat, k ≤ l.length ∧ i = .int .i64 k ∧ Hid (NoneOf (fun x => decide (x = s)) l k) ∧ Hid (Upd NoB w wr)) (fun _ i _ => l.length - (intOf i).toNat)
  case atStart => exact ⟨0, by omega, rfl, Lib.hid (NoneOf.zero _ _), Lib.hid (Upd.refl _ _)⟩
  case round =>
    obtain ⟨k, hk, rfl, hN, hU⟩ := hrel
    by_cases hlt : k < l.length
    · obtain ⟨g, o, u, rfl, hu, hcell, hg⟩ := HX.out.cell1 rfl k hlt
      obtain ⟨hu1, hu2⟩ := hu
      cases hu1
      have c0 : wr.cell? ⟨g, o + k, none⟩ = some (.string l[k]) := hU.out.cell hcell (fun h => h)
      have hx := Lib.hid (show l[k]? = some l[k] from List.getElem?_eq_getElem hlt)
      generalize l[k] = x at *
      clear hcell
      by_cases e : x = s
      · subst e
        have hres := Lib.hid (hsome.out k x hN.out hx.out (by simp))
        go_wp2_with fail
        go_ret
        exact ⟨by rw [hres.out]; rfl, hU.out⟩
      · have hne := str_ne s x (fun h => e h.symm)
        have hN2 := Lib.hid (hN.out.next hx.out (by simpa using e))
        clear e
        go_wp2_with fail
        go_roundw
        case measure => simp [intOf]; omega
        case rel => exact ⟨k + 1, by omega, by go_num, hN2, hU⟩
    · obtain rfl : k = l.length := by omega
      have hres := Lib.hid (hnone.out hN.out)
      go_wp2_with fail
      go_ret
      exact ⟨by rw [hres.out]; rfl, hU.out⟩
set_option maxHeartbeats 1000000 in
theorem contains_any {S : Nat → Prop} (v : Value) (l : List ByteArray) (s : ByteArray) (w : World) (h : RSl Rep.str w S v l) :
    Calls Try.prog 58 #[v, .string s] w fun e w' => e = .returned (.bool (l.any fun x => decide (x = s))) ∧ Upd NoB w w' := by
  have hi := Lib.hid (fun w1 (hu : Upd NoB w w1) => index_any v l s w1 (h.upd hu (fun _ _ h => h)))
  obtain ⟨A, c, cs, rfl, _⟩ := h
  have he := fidx_any (fun x => decide (x = s)) l
  generalize (l.any fun x => decide (x = s)) = B at *
  generalize fidx (fun x => decide (x = s)) l = I at *
  subst he
  go_enter Try.func58, Try.ntmps58
  go_wp2_with fail
  refine (hi.out _ (Upd.refl _ _)).mono ?_
  rintro e w2 ⟨rfl, hu⟩
  have HU := Lib.hid hu
  clear hu
  go_wp2_with fail
  go_ret
  exact ⟨rfl, HU.out⟩
set_option maxHeartbeats 1000000 in
set_option maxRecDepth 100000 in
theorem idx_right {S : Nat → Prop}  (v : Value) (l : List ByteArray) (P : ByteArray → Bool) (w : World) (h : RSl Rep.str w S v l)
    (hP : ∀ x w1, x.size ≤ maxLen → Upd NoB w w1 → Calls Try.prog 70 #[.string x] w1 fun e w' => e = .returned (.bool (P x)) ∧ Upd NoB w1 w') :
    Calls Try.prog 84 #[v, .func (.func 70) #[] #[]] w fun e w' => e = .returned (.int .i64 (fidx P l)) ∧ Upd NoB w w' := by
  have HX := Lib.hid h
  have HP := Lib.hid hP
  obtain ⟨A, c, cs, rfl, d1, d2, _⟩ := h
  have d2' : c ≤ 9223372036854775807 := d2
  clear hP
  have hnone := Lib.hid (fun h => fidx_none (P := P) (l := l) h)
  have hsome := Lib.hid (fun k x => fidx_some (P := P) (l := l) (k := k) (x := x))
  go_enter Try.func84, Try.ntmps84
  go_wp2_with fail
  go_loopw [5, 8] (fun x5 i wr => ∃ k : Nat, k ≤ l.length ∧ i = .int .i64 k ∧ Hid (NoneOf P l k) ∧ Hid (Upd NoB w wr)) (fun _ i _ => l.length - (intOf i).toNat)
  case atStart => exact ⟨0, by omega, rfl, Lib.hid (NoneOf.zero _ _), Lib.hid (Upd.refl _ _)⟩
  case round =>
    obtain ⟨k, hk, rfl, hN, hU⟩ := hrel
    by_cases hlt : k < l.length
    · obtain ⟨g, o, u, rfl, hu, hcell, hg⟩ := HX.out.cell1 rfl k hlt
      obtain ⟨hu1, hu2⟩ := hu
      cases hu1
      have c0 : wr.cell? ⟨g, o + k, none⟩ = some (.string l[k]) := hU.out.cell hcell (fun h => h)
      have hx := Lib.hid (show l[k]? = some l[k] from List.getElem?_eq_getElem hlt)
      generalize l[k] = x at *
      clear hcell
      have hcall := Lib.hid (HP.out x wr hu2 hU.out)
      cases hb : P x
      · rw [hb] at hcall
        have hN2 := Lib.hid (hN.out.next hx.out hb)
        clear hb
        go_wp2_with fail
        refine hcall.out.mono ?_
        rintro e w2 ⟨rfl, hu⟩
        have hU2 := Lib.hid (hU.out.trans hu)
        clear hu
        go_wp2_with fail
        go_roundw
        case measure => simp [intOf]; omega
        case rel => exact ⟨k + 1, by omega, by go_num, hN2, hU2⟩
      · rw [hb] at hcall
        have hres := Lib.hid (hsome.out k x hN.out hx.out hb)
        clear hb
        go_wp2_with fail
        refine hcall.out.mono ?_
        rintro e w2 ⟨rfl, hu⟩
        have hU2 := Lib.hid (hU.out.trans hu)
        clear hu
        go_wp2_with fail
        go_ret
        exact ⟨by rw [hres.out]; rfl, hU2.out⟩
    · obtain rfl : k = l.length := by omega
      have hres := Lib.hid (hnone.out hN.out)
      go_wp2_with fail
      go_ret
      exact ⟨by rw [hres.out]; rfl, hU.out⟩
set_option maxHeartbeats 1000000 in
theorem cont_right {S : Nat → Prop}  (v : Value) (l : List ByteArray) (P : ByteArray → Bool) (w : World) (h : RSl Rep.str w S v l)
    (hP : ∀ x w1, x.size ≤ maxLen → Upd NoB w w1 → Calls Try.prog 70 #[.string x] w1 fun e w' => e = .returned (.bool (P x)) ∧ Upd NoB w1 w') :
    Calls Try.prog 69 #[v, .func (.func 70) #[] #[]] w fun e w' => e = .returned (.bool (l.any P)) ∧ Upd NoB w w' := by
  have hi := Lib.hid (idx_right  v l P w h hP)
  clear hP
  obtain ⟨A, c, cs, rfl, _⟩ := h
  have he := fidx_any P l
  generalize l.any P = B at *
  generalize fidx P l = I at *
  subst he
  go_enter Try.func69, Try.ntmps69
  go_wp2_with fail
  refine hi.out.mono ?_
  rintro e w2 ⟨rfl, hu⟩
  have HU := Lib.hid hu
  clear hu
  go_wp2_with fail
  go_ret
  exact ⟨rfl, HU.out⟩
set_option maxHeartbeats 1000000 in
set_option maxRecDepth 100000 in
theorem idx_busy {S : Nat → Prop} (p q : Nat) (v : Value) (l : List ByteArray) (P : ByteArray → Bool) (w : World) (h : RSl Rep.str w S v l)
    (hP : ∀ x w1, x.size ≤ maxLen → Upd NoB w w1 → Calls Try.prog 72 #[.string x, .pointer (some ⟨p, 0, none⟩), .pointer (some ⟨q, 0, none⟩)] w1 fun e w' => e = .returned (.bool (P x)) ∧ Upd NoB w1 w') :
    Calls Try.prog 84 #[v, .func (.func 72) #[] #[.pointer (some ⟨p, 0, none⟩), .pointer (some ⟨q, 0, none⟩)]] w fun e w' => e = .returned (.int .i64 (fidx P l)) ∧ Upd NoB w w' := by
  have HX := Lib.hid h
  have HP := Lib.hid hP
  obtain ⟨A, c, cs, rfl, d1, d2, _⟩ := h
  have d2' : c ≤ 9223372036854775807 := d2
  clear hP
  have hnone := Lib.hid (fun h => fidx_none (P := P) (l := l) h)
  have hsome := Lib.hid (fun k x => fidx_some (P := P) (l := l) (k := k) (x := x))
  go_enter Try.func84, Try.ntmps84
  go_wp2_with fail
  go_loopw [5, 8] (fun x5 i wr => ∃ k : Nat, k ≤ l.length ∧ i = .int .i64 k ∧ Hid (NoneOf P l k) ∧ Hid (Upd NoB w wr)) (fun _ i _ => l.length - (intOf i).toNat)
  case atStart => exact ⟨0, by omega, rfl, Lib.hid (NoneOf.zero _ _), Lib.hid (Upd.refl _ _)⟩
  case round =>
    obtain ⟨k, hk, rfl, hN, hU⟩ := hrel
    by_cases hlt : k < l.length
    · obtain ⟨g, o, u, rfl, hu, hcell, hg⟩ := HX.out.cell1 rfl k hlt
      obtain ⟨hu1, hu2⟩ := hu
      cases hu1
      have c0 : wr.cell? ⟨g, o + k, none⟩ = some (.string l[k]) := hU.out.cell hcell (fun h => h)
      have hx := Lib.hid (show l[k]? = some l[k] from List.getElem?_eq_getElem hlt)
      generalize l[k] = x at *
      clear hcell
      have hcall := Lib.hid (HP.out x wr hu2 hU.out)
      cases hb : P x
      · rw [hb] at hcall
        have hN2 := Lib.hid (hN.out.next hx.out hb)
        clear hb
        go_wp2_with fail
        refine hcall.out.mono ?_
        rintro e w2 ⟨rfl, hu⟩
        have hU2 := Lib.hid (hU.out.trans hu)
        clear hu
        go_wp2_with fail
        go_roundw
        case measure => simp [intOf]; omega
        case rel => exact ⟨k + 1, by omega, by go_num, hN2, hU2⟩
      · rw [hb] at hcall
        have hres := Lib.hid (hsome.out k x hN.out hx.out hb)
        clear hb
        go_wp2_with fail
        refine hcall.out.mono ?_
        rintro e w2 ⟨rfl, hu⟩
        have hU2 := Lib.hid (hU.out.trans hu)
        clear hu
        go_wp2_with fail
        go_ret
        exact ⟨by rw [hres.out]; rfl, hU2.out⟩
    · obtain rfl : k = l.length := by omega
      have hres := Lib.hid (hnone.out hN.out)
      go_wp2_with fail
      go_ret
      exact ⟨by rw [hres.out]; rfl, hU.out⟩
set_option maxHeartbeats 1000000 in
theorem cont_busy {S : Nat → Prop} (p q : Nat) (v : Value) (l : List ByteArray) (P : ByteArray → Bool) (w : World) (h : RSl Rep.str w S v l)
    (hP : ∀ x w1, x.size ≤ maxLen → Upd NoB w w1 → Calls Try.prog 72 #[.string x, .pointer (some ⟨p, 0, none⟩), .pointer (some ⟨q, 0, none⟩)] w1 fun e w' => e = .returned (.bool (P x)) ∧ Upd NoB w1 w') :
    Calls Try.prog 69 #[v, .func (.func 72) #[] #[.pointer (some ⟨p, 0, none⟩), .pointer (some ⟨q, 0, none⟩)]] w fun e w' => e = .returned (.bool (l.any P)) ∧ Upd NoB w w' := by
  have hi := Lib.hid (idx_busy p q v l P w h hP)
  clear hP
  obtain ⟨A, c, cs, rfl, _⟩ := h
  have he := fidx_any P l
  generalize l.any P = B at *
  generalize fidx P l = I at *
  subst he
  go_enter Try.func69, Try.ntmps69
  go_wp2_with fail
  refine hi.out.mono ?_
  rintro e w2 ⟨rfl, hu⟩
  have HU := Lib.hid hu
  clear hu
  go_wp2_with fail
  go_ret
  exact ⟨rfl, HU.out⟩

/-- May a text be a key? -/
def keyB (s : ByteArray) : Bool := decide (0 < s.size) && (sgp s s.size && decide (s.size ≤ 32))
set_option maxHeartbeats 1000000 in
theorem right1_any (s : ByteArray) (w : World) (hs : s.size ≤ maxLen) : Calls Try.prog 70 #[.string s] w fun e w' => e = .returned (.bool (!keyB s)) ∧ Upd NoB w w' := by
  have hr := Lib.hid (fun w => show Calls Try.prog 71 #[.string s] w fun e w' => e = .returned (.bool (keyB s)) ∧ w = w' from right_any s w hs)
  generalize keyB s = B at *
  go_enter Try.func70, Try.ntmps70
  go_wp2_with fail
  refine (hr.out _).mono ?_
  rintro e w2 ⟨rfl, rfl⟩
  go_wp2_with fail
  go_ret
  exact ⟨rfl, Upd.refl _ _⟩
set_option maxHeartbeats 1000000 in
theorem rightl_any {S : Nat → Prop} (v : Value) (l : List ByteArray) (w : World) (h : RSl Rep.str w S v l) :
    Calls Try.prog 51 #[v] w fun e w' => e = .returned (.bool (l.all keyB)) ∧ Upd NoB w w' := by
  have hi := Lib.hid (cont_right v l (fun s => !keyB s) w h (fun x w1 hx _ => right1_any x w1 hx))
  obtain ⟨A, c, cs, rfl, _⟩ := h
  have he : l.all keyB = !(l.any fun s => !keyB s) := by
    rw [List.all_eq_not_any_not]
  rw [he]
  generalize (l.any fun s => !keyB s) = B at *
  clear he
  go_enter Try.func51, Try.ntmps51
  go_wp2_with fail
  refine hi.out.mono ?_
  rintro e w2 ⟨rfl, hu⟩
  have HU := Lib.hid hu
  clear hu
  go_wp2_with fail
  go_ret
  exact ⟨rfl, HU.out⟩
end Go.Proofs.Ytobfolkcpfaplaa
