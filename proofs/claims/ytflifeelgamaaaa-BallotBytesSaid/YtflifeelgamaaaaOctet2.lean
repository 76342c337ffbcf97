/- The package octet, function by function (2): the reader. -/
import Derived.Test.YtflifeelgamaaaaOctet1
namespace Go.Proofs.Ytflifeelgamaaaa
open Go.RowKit Kit Oct
set_option linter.unusedVariables false

/-- What the reader has. -/
structure Rd where
  bs : List UInt8
  bad : Bool
def Rd.most (r : Rd) (m : Nat) : Nat × Rd :=
  if r.bad then (0, r) else if (num 0 0 r.bs).2 = 0 ∨ m < (num 0 0 r.bs).1 then (0, ⟨r.bs, true⟩) else ((num 0 0 r.bs).1, ⟨r.bs.drop (num 0 0 r.bs).2, false⟩)
def Rd.int (r : Rd) (m : Int) : Nat × Rd := if m < 0 then (0, ⟨r.bs, true⟩) else r.most m.toNat
def Rd.cutText (q : Nat × Rd) : List UInt8 × Rd := if q.2.bad = true ∨ q.2.bs.length < q.1 then ([], ⟨q.2.bs, true⟩) else (q.2.bs.take q.1, ⟨q.2.bs.drop q.1, false⟩)
def Rd.text (r : Rd) (m : Int) : List UInt8 × Rd := Rd.cutText (r.int m)

/-- At block p lies a reader. -/
def Rdr (w : World) (S : Nat → Prop) (p : Nat) (r : Rd) : Prop :=
  ∃ v, w.heap[p]? = some (.cells #[v, .bool r.bad] 80 (0, 0)) ∧ RSl Rep.byte w S v r.bs ∧ ¬ S p

theorem byte_cells {w : World} {S : Nat → Prop} {bs : List UInt8} {cs : List Value} (h : Kit.Rows Rep.byte w S bs cs) (i : Nat) (hi : i < bs.length) : cs[i]? = some (.int .u8 ((bs.getD i 0).toNat : Int)) := by
  rw [rows_bytes_eq h]
  simp [List.getElem?_eq_getElem hi, List.getD_eq_getElem?_getD]

set_option maxHeartbeats 1000000 in
set_option maxRecDepth 100000 in
theorem number_any {S : Nat → Prop} (v : Value) (w : World) (bs : List UInt8) (h : RSl Rep.byte w S v bs) :
    Calls Try.prog 71 #[v] w fun e w' => e = .returned (.tuple #[.int .u64 ((num 0 0 bs).1 : Int), .int .i64 ((num 0 0 bs).2 : Int)]) ∧ w = w' := by
  have hm := h.length_le
  have hmx : maxLen = 9223372036854775807 := rfl
  obtain ⟨A, c, cs, rfl, h1, h2, h3, h4, h5⟩ := h
  cases A with
  | some a =>
    obtain ⟨q1, q2, q3⟩ := h5 a rfl
    obtain ⟨g, o, sp⟩ := a
    simp only at q1
    subst q1
    exact number_some g o c w bs (by omega) (fun i hi => q3 i _ (byte_cells h3 i hi))
  | none =>
    obtain rfl : c = 0 := h4 rfl
    obtain rfl : bs = [] := List.eq_nil_of_length_eq_zero (by omega)
    go_enter Try.func71, Try.ntmps71
    go_wp2_with fail
    go_loop [4, 10] (fun n i => i = .int .i64 0) (fun _ i => 0)
    case atStart => rfl
    case round =>
      subst hrel
      go_wp2_with fail
      go_ret2
      exact ⟨rfl, rfl⟩

section
variable {w : World} {S : Nat → Prop} {p : Nat} {r : Rd}
theorem Rdr.cells (h : Rdr w S p r) : ∃ v, w.cell? ⟨p, 0, none⟩ = some v ∧ w.cell? ⟨p, 1, none⟩ = some (.bool r.bad) ∧ w.frozen? ⟨p, 0, none⟩ = false ∧ w.frozen? ⟨p, 1, none⟩ = false ∧ RSl Rep.byte w S v r.bs ∧ ¬ S p ∧ w.heap[p]? = some (.cells #[v, .bool r.bad] 80 (0, 0)) := by
  obtain ⟨v, h1, h2, h3⟩ := h
  exact ⟨v, by simp [World.cell?, h1], by simp [World.cell?, h1], by simp [World.frozen?, h1], by simp [World.frozen?, h1], h2, h3, h1⟩
theorem Rdr.keep {F : Nat → Prop} {w' : World} (h : Rdr w S p r) (u : Upd F w w') (hs : Sep S F) (hp : ¬ F p) : Rdr w' S p r := by
  obtain ⟨v, h1, h2, h3⟩ := h
  exact ⟨v, u.heap h1 hp, h2.upd u hs, h3⟩
end

theorem heap_set {w : World} {p : Nat} {cs : Array Value} {T : TypeId} {fr : Nat × Nat} (h : w.heap[p]? = some (.cells cs T fr)) (i : Nat) (u : Value) : (w.setCell ⟨p, i, none⟩ u).heap[p]? = some (.cells (cs.setIfInBounds i u) T fr) := by
  simp only [World.setCell, Array.getElem?_modify, if_true, h]
  rfl

set_option maxHeartbeats 1000000 in
theorem bad_any {S : Nat → Prop} (p : Nat) (r : Rd) (w : World) (h : Rdr w S p r) :
    Calls Try.prog 51 #[.pointer (some ⟨p, 0, none⟩)] w fun e w' => e = .returned (.bool r.bad) ∧ w = w' := by
  obtain ⟨v, h0, h1, hf0, hf1, hs, hp, hh⟩ := h.cells
  clear h hh
  go_enter Try.func51, Try.ntmps51
  go_wp2_with fail
  go_ret
  exact ⟨rfl, rfl⟩

set_option maxHeartbeats 1000000 in
theorem left_any {S : Nat → Prop} (p : Nat) (r : Rd) (w : World) (h : Rdr w S p r) :
    Calls Try.prog 44 #[.pointer (some ⟨p, 0, none⟩)] w fun e w' => e = .returned (.int .i64 (if r.bad then 0 else (r.bs.length : Int))) ∧ w = w' := by
  obtain ⟨v, h0, h1, hf0, hf1, hs, hp, hh⟩ := h.cells
  obtain ⟨A, c, cs, rfl, _⟩ := id hs
  have hb := bad_any p r w h
  clear hh hs
  obtain ⟨bs, bad⟩ := r
  cases bad
  · go_enter Try.func44, Try.ntmps44
    go_wp2_with fail
    refine hb.mono ?_
    rintro e w' ⟨rfl, rfl⟩
    go_wp2_with fail
    go_ret
    exact ⟨rfl, rfl⟩
  · go_enter Try.func44, Try.ntmps44
    go_wp2_with fail
    refine hb.mono ?_
    rintro e w' ⟨rfl, rfl⟩
    go_wp2_with fail
    go_ret
    exact ⟨rfl, rfl⟩

set_option maxHeartbeats 1000000 in
theorem done_any {S : Nat → Prop} (p : Nat) (r : Rd) (w : World) (h : Rdr w S p r) :
    Calls Try.prog 41 #[.pointer (some ⟨p, 0, none⟩)] w fun e w' => e = .returned (.bool (!r.bad && decide (r.bs.length = 0))) ∧ w = w' := by
  obtain ⟨v, h0, h1, hf0, hf1, hs, hp, hh⟩ := h.cells
  obtain ⟨A, c, cs, rfl, _⟩ := id hs
  have hb := bad_any p r w h
  clear hh hs
  obtain ⟨bs, bad⟩ := r
  cases bad
  · go_enter Try.func41, Try.ntmps41
    go_wp2_with fail
    refine hb.mono ?_
    rintro e w' ⟨rfl, rfl⟩
    go_wp2_with fail
    go_ret
    exact ⟨by simp [Bool.beq_eq_decide_eq], rfl⟩
  · go_enter Try.func41, Try.ntmps41
    go_wp2_with fail
    refine hb.mono ?_
    rintro e w' ⟨rfl, rfl⟩
    go_wp2_with fail
    go_ret
    exact ⟨rfl, rfl⟩

set_option maxHeartbeats 1000000 in
theorem spoil_any {S : Nat → Prop} (p : Nat) (r : Rd) (w : World) (h : Rdr w S p r) :
    Calls Try.prog 67 #[.pointer (some ⟨p, 0, none⟩)] w fun e w' => e = .returned (.tuple #[]) ∧ Rdr w' S p ⟨r.bs, true⟩ ∧ Upd (fun b => b = p) w w' := by
  obtain ⟨v, h0, h1, hf0, hf1, hs, hp, hh⟩ := h.cells
  have fin : Rdr (w.setCell ⟨p, 1, none⟩ (.bool true)) S p ⟨r.bs, true⟩ ∧ Upd (fun b => b = p) w (w.setCell ⟨p, 1, none⟩ (.bool true)) := by
    have u : Upd (fun b => b = p) w (w.setCell ⟨p, 1, none⟩ (.bool true)) := (Upd.refl (fun b => b = p) w).setCell (p := ⟨p, 1, none⟩) (fun _ => rfl) (.bool true)
    exact ⟨⟨v, heap_set hh 1 _, hs.upd u (sep_one hp), hp⟩, u⟩
  have Fin := Lib.hid fin
  clear h hh hs fin
  go_enter Try.func67, Try.ntmps67
  go_wp2_with fail
  go_end0
  exact ⟨rfl, Fin.out⟩

theorem RSl.cut {w : World} {S : Nat → Prop} {g o c : Nat} {l : List UInt8} (h : RSl Rep.byte w S (.slice (some ⟨g, o, none⟩) l.length c) l) (k : Nat) (hk : k ≤ l.length) :
    RSl Rep.byte w S (.slice (some ⟨g, o, none⟩) k k) (l.take k) ∧
    RSl Rep.byte w S (.slice (if c = k then some ⟨g, o, none⟩ else some ⟨g, o + k, none⟩) (l.length - k) (c - k)) (l.drop k) := by
  obtain ⟨A, c', cs, e, h1, h2, h3, h4, h5⟩ := h
  cases e
  obtain ⟨q1, q2, q3⟩ := h5 _ rfl
  have hl := Kit.Rows.len h3
  have e1 : (l.take k).length = k := by simp; omega
  have e2 : (l.drop k).length = l.length - k := by simp
  constructor
  · refine ⟨some ⟨g, o, none⟩, k, cs.take (k * 1), by rw [e1], by omega, by omega, h3.take k, (fun h => nomatch h), fun a ha => ?_⟩
    obtain rfl := Option.some.inj ha
    refine ⟨rfl, q2, fun j u hu => q3 j u ?_⟩
    rw [List.getElem?_take] at hu
    split at hu
    · exact hu
    · cases hu
  · refine ⟨_, c - k, cs.drop (k * 1), by rw [e2], by omega, by omega, h3.drop k, ?_, ?_⟩
    · split <;> (intro h; cases h)
    · split
      · rename_i hck
        intro a ha
        obtain rfl := Option.some.inj ha
        refine ⟨rfl, q2, fun j u hu => ?_⟩
        have := (List.getElem?_eq_some_iff.1 hu).1
        simp at this
        have : cs.length = l.length := by rw [hl]; simp [Rep.byte]
        omega
      · intro a ha
        obtain rfl := Option.some.inj ha
        refine ⟨rfl, q2, fun j u hu => ?_⟩
        rw [List.getElem?_drop, Nat.mul_one] at hu
        have := q3 _ u hu
        rw [Nat.add_assoc]
        exact this

set_option maxHeartbeats 1000000 in
/-- take, of a reader with something to take. -/
theorem take_any {S : Nat → Prop} (p k : Nat) (r : Rd) (w : World) (h : Rdr w S p r) (hk : k ≤ r.bs.length) :
    Calls Try.prog 68 #[.pointer (some ⟨p, 0, none⟩), .int .i64 k] w fun e w' => ∃ v', e = .returned v' ∧ RSl Rep.byte w' S v' (r.bs.take k) ∧ Rdr w' S p ⟨r.bs.drop k, r.bad⟩ ∧ Upd (fun b => b = p) w w' := by
  obtain ⟨v, h0, h1, hf0, hf1, hs, hp, hh⟩ := h.cells
  obtain ⟨A, c, cs, rfl, q1, q2, q3, q4, q5⟩ := id hs
  have q2' : c ≤ 9223372036854775807 := q2
  have fin : ∀ u : Value, RSl Rep.byte w S u (r.bs.drop k) → Rdr (w.setCell ⟨p, 0, none⟩ u) S p ⟨r.bs.drop k, r.bad⟩ ∧ Upd (fun b => b = p) w (w.setCell ⟨p, 0, none⟩ u) := by
    intro u hu
    have ud : Upd (fun b => b = p) w (w.setCell ⟨p, 0, none⟩ u) := (Upd.refl (fun b => b = p) w).setCell (p := ⟨p, 0, none⟩) (fun _ => rfl) u
    exact ⟨⟨u, heap_set hh 0 _, hu.upd ud (sep_one hp), hp⟩, ud⟩
  cases A with
  | none =>
    obtain rfl : c = 0 := q4 rfl
    have hn : r.bs = [] := List.eq_nil_of_length_eq_zero (by omega)
    obtain rfl : k = 0 := by rw [hn] at hk; simpa using hk
    have fin1 := Lib.hid (fin (.slice none 0 0) (by rw [hn]; exact RSl.nil w S))
    have hn1 : r.bs.length = 0 := by rw [hn]; rfl
    rw [hn1] at h0
    have hr : RSl Rep.byte w S (.slice none 0 0) (r.bs.take 0) := by rw [hn]; exact RSl.nil w S
    have HR := Lib.hid hr
    clear h hh hs fin q5 q3 hn hr hn1
    go_enter Try.func68, Try.ntmps68
    go_wp2_with fail
    go_ret
    exact ⟨_, rfl, HR.out.upd fin1.out.2 (sep_one hp), fin1.out⟩
  | some a =>
    obtain ⟨z1, z2, z3⟩ := q5 a rfl
    obtain ⟨g, o, sp⟩ := a
    simp only at z1
    subst z1
    have ct := RSl.cut hs k hk
    have HR := Lib.hid ct.1
    have fin1 := Lib.hid (fin _ ct.2)
    have hk' : k ≤ r.bs.length := hk
    clear h hh hs fin q5 q3 ct
    by_cases hck : c = k
    · subst hck
      have fin2 := fin1.out
      rw [if_pos rfl, Nat.sub_self, show r.bs.length - c = 0 by omega] at fin2
      have Fin2 := Lib.hid fin2
      clear fin1 fin2
      go_enter Try.func68, Try.ntmps68
      go_wp2_with fail
      go_ret
      exact ⟨_, rfl, HR.out.upd Fin2.out.2 (sep_one hp), Fin2.out⟩
    · have fin2 := fin1.out
      rw [if_neg hck] at fin2
      have Fin2 := Lib.hid fin2
      clear fin1 fin2
      go_enter Try.func68, Try.ntmps68
      go_wp2_with fail
      go_ret
      exact ⟨_, rfl, HR.out.upd Fin2.out.2 (sep_one hp), Fin2.out⟩

/-- What a call of the reader's leaves. -/
def After (S : Nat → Prop) (p : Nat) (w : World) (r : Rd) (w' : World) : Prop := Rdr w' S p r ∧ Upd (fun b => b = p) w w'
theorem After.trans {S : Nat → Prop} {p : Nat} {w w1 w2 : World} {r r' : Rd} (h : After S p w r w1) (k : After S p w1 r' w2) : After S p w r' w2 := ⟨k.1, h.2.trans k.2⟩

set_option maxHeartbeats 1000000 in
theorem most_any {S : Nat → Prop} (p m : Nat) (r : Rd) (w : World) (h : Rdr w S p r) (hm : m < 2 ^ 64) :
    Calls Try.prog 66 #[.pointer (some ⟨p, 0, none⟩), .int .u64 m] w fun e w' => e = .returned (.int .u64 ((r.most m).1 : Int)) ∧ After S p w (r.most m).2 w' := by
  have hb := bad_any p r w h
  by_cases hbad : r.bad = true
  · have e1 : r.most m = (0, r) := by unfold Rd.most; rw [if_pos hbad]
    rw [e1]
    have fin := Lib.hid (show After S p w r w from ⟨h, Upd.refl _ _⟩)
    clear e1 h
    go_enter Try.func66, Try.ntmps66
    go_wp2_with fail
    refine hb.mono ?_
    rintro e w' ⟨rfl, rfl⟩
    go_wp2_with fail
    go_ret
    exact ⟨rfl, fin.out⟩
  · have hbf : r.bad = false := by simpa using hbad
    clear hbad
    obtain ⟨v, h0, h1, hf0, hf1, hs, hp, hh⟩ := h.cells
    have hn := number_any v w r.bs hs
    have hle := num_le r.bs
    have hml := hs.length_le
    have hmx : maxLen = 9223372036854775807 := rfl
    have hsp := spoil_any p r w h
    by_cases c1 : (num 0 0 r.bs).2 = 0 ∨ m < (num 0 0 r.bs).1
    · have e1 : r.most m = (0, ⟨r.bs, true⟩) := by unfold Rd.most; rw [if_neg (by simp [hbf]), if_pos c1]
      rw [e1]
      clear e1 hh hs
      by_cases c2 : (num 0 0 r.bs).2 = 0
      · have c2b : (((num 0 0 r.bs).2 : Int) == 0) = true := by simp [c2]
        generalize (num 0 0 r.bs).2 = z2 at *
        generalize (num 0 0 r.bs).1 = z1 at *
        clear c1 c2 h
        have HB := Lib.hid hbf
        go_enter Try.func66, Try.ntmps66
        go_wp2_with fail
        refine hb.mono ?_
        rintro e w' ⟨rfl, rfl⟩
        go_wp2_with fail
        refine hn.mono ?_
        rintro e w' ⟨rfl, rfl⟩
        go_wp2_with fail
        refine hsp.mono ?_
        rintro e w' ⟨rfl, hw⟩
        have HW := Lib.hid hw
        clear hw
        go_wp2_with fail
        go_ret
        exact ⟨rfl, HW.out⟩
      · have c2b : (((num 0 0 r.bs).2 : Int) == 0) = false := by simp [c2]
        have c3 : m < (num 0 0 r.bs).1 := c1.resolve_left c2
        generalize (num 0 0 r.bs).2 = z2 at *
        generalize (num 0 0 r.bs).1 = z1 at *
        clear c1 c2 h
        go_enter Try.func66, Try.ntmps66
        go_wp2_with fail
        refine hb.mono ?_
        rintro e w' ⟨rfl, rfl⟩
        go_wp2_with fail
        refine hn.mono ?_
        rintro e w' ⟨rfl, rfl⟩
        go_wp2_with fail
        refine hsp.mono ?_
        rintro e w' ⟨rfl, hw⟩
        have HW := Lib.hid hw
        clear hw
        go_wp2_with fail
        go_ret
        exact ⟨rfl, HW.out⟩
    · have e1 : r.most m = ((num 0 0 r.bs).1, ⟨r.bs.drop (num 0 0 r.bs).2, false⟩) := by unfold Rd.most; rw [if_neg (by simp [hbf]), if_neg c1]
      rw [e1]
      have c2b : (((num 0 0 r.bs).2 : Int) == 0) = false := by simp; omega
      have c3 : ¬ m < (num 0 0 r.bs).1 := by omega
      have ht := take_any p (num 0 0 r.bs).2 r w h hle
      rw [hbf] at ht
      have HT := Lib.hid ht
      clear e1 hh hs c1 h ht
      generalize (num 0 0 r.bs).2 = z2 at *
      generalize (num 0 0 r.bs).1 = z1 at *
      go_enter Try.func66, Try.ntmps66
      go_wp2_with fail
      refine hb.mono ?_
      rintro e w' ⟨rfl, rfl⟩
      go_wp2_with fail
      refine hn.mono ?_
      rintro e w' ⟨rfl, rfl⟩
      go_wp2_with fail
      refine HT.out.mono ?_
      rintro e w' ⟨v', rfl, _, hw⟩
      have HW := Lib.hid hw
      clear hw
      go_wp2_with fail
      go_ret
      exact ⟨rfl, HW.out⟩

theorem most_bad (r : Rd) (m : Nat) (h : (r.most m).2.bad = true) : (r.most m).1 = 0 := by
  unfold Rd.most at *
  split
  · rfl
  · split
    · rfl
    · rename_i h1 h2
      rw [if_neg h1, if_neg h2] at h
      cases h

set_option maxHeartbeats 1000000 in
theorem n_any {S : Nat → Prop} (p : Nat) (r : Rd) (w : World) (h : Rdr w S p r) :
    Calls Try.prog 40 #[.pointer (some ⟨p, 0, none⟩)] w fun e w' => e = .returned (.int .u64 ((r.most (2 ^ 64 - 1)).1 : Int)) ∧ After S p w (r.most (2 ^ 64 - 1)).2 w' := by
  have hm := Lib.hid (most_any p (2 ^ 64 - 1) r w h (by omega))
  clear h
  go_enter Try.func40, Try.ntmps40
  go_wp2_with fail
  refine hm.out.mono ?_
  rintro e w' ⟨rfl, hw⟩
  have HW := Lib.hid hw
  clear hw
  go_wp2_with fail
  go_ret
  exact ⟨rfl, HW.out⟩

theorem most_le (r : Rd) (m : Nat) : (r.most m).1 ≤ m := by
  unfold Rd.most
  split
  · exact Nat.zero_le _
  · split
    · exact Nat.zero_le _
    · simp only
      omega

theorem wf_i64 {m : Int} (hm : (Lit.int .i64 m).wf = true) : -9223372036854775808 ≤ m ∧ m ≤ 9223372036854775807 := by
  simp [Lit.wf, IntKind.min, IntKind.max, IntKind.signed, IntKind.bits] at hm
  omega

set_option maxHeartbeats 1000000 in
theorem int_any {S : Nat → Prop} (p : Nat) (m : Int) (r : Rd) (w : World) (h : Rdr w S p r) (hm : (Lit.int .i64 m).wf = true) :
    Calls Try.prog 49 #[.pointer (some ⟨p, 0, none⟩), .int .i64 m] w fun e w' => e = .returned (.int .i64 ((r.int m).1 : Int)) ∧ After S p w (r.int m).2 w' := by
  have hb := wf_i64 hm
  by_cases c : m < 0
  · have e1 : r.int m = (0, ⟨r.bs, true⟩) := by unfold Rd.int; rw [if_pos c]
    rw [e1]
    have hs := Lib.hid (spoil_any p r w h)
    clear h e1 hm
    go_enter Try.func49, Try.ntmps49
    go_wp2_with fail
    refine hs.out.mono ?_
    rintro e w' ⟨rfl, hw⟩
    have HW := Lib.hid hw
    clear hw
    go_wp2_with fail
    go_ret
    exact ⟨rfl, HW.out⟩
  · have e1 : r.int m = r.most m.toNat := by unfold Rd.int; rw [if_neg c]
    rw [e1]
    obtain ⟨n, rfl⟩ := Int.eq_ofNat_of_zero_le (show 0 ≤ m by omega)
    have hs := Lib.hid (most_any p n r w h (by omega))
    have hl := most_le r n
    rw [Int.toNat_natCast]
    have ew : IntKind.u64.wrap (n : Int) = n := by simp only [IntKind.wrap, IntKind.bits, IntKind.signed]; simp; omega
    have ew2 : IntKind.i64.wrap ((r.most n).1 : Int) = (r.most n).1 := by simp only [IntKind.wrap, IntKind.bits, IntKind.signed]; simp; omega
    clear h e1 hm
    go_enter Try.func49, Try.ntmps49
    go_wp2_with fail
    refine hs.out.mono ?_
    rintro e w' ⟨rfl, hw⟩
    have HW := Lib.hid hw
    clear hw
    go_wp2_with fail
    go_ret
    exact ⟨by first | rfl | rw [ew2], HW.out⟩

set_option maxHeartbeats 1000000 in
theorem flag_any {S : Nat → Prop} (p : Nat) (r : Rd) (w : World) (h : Rdr w S p r) :
    Calls Try.prog 50 #[.pointer (some ⟨p, 0, none⟩)] w fun e w' => e = .returned (.bool (decide ((r.most 1).1 = 1))) ∧ After S p w (r.most 1).2 w' := by
  have hm := Lib.hid (most_any p 1 r w h (by omega))
  clear h
  go_enter Try.func50, Try.ntmps50
  go_wp2_with fail
  refine hm.out.mono ?_
  rintro e w' ⟨rfl, hw⟩
  have HW := Lib.hid hw
  clear hw
  go_wp2_with fail
  go_ret
  exact ⟨by simp [Bool.beq_eq_decide_eq]; omega, HW.out⟩

theorem int_bad (r : Rd) (m : Int) (h : (r.int m).2.bad = true) : (r.int m).1 = 0 := by
  unfold Rd.int at *
  split
  · rfl
  · rename_i c
    rw [if_neg c] at h
    exact most_bad r _ h

set_option maxHeartbeats 1000000 in
theorem text_any {S : Nat → Prop} (p : Nat) (m : Int) (r : Rd) (w : World) (h : Rdr w S p r) (hm : (Lit.int .i64 m).wf = true) :
    Calls Try.prog 48 #[.pointer (some ⟨p, 0, none⟩), .int .i64 m] w fun e w' => e = .returned (.string (strOf (r.text m).1)) ∧ After S p w (r.text m).2 w' := by
  have hi := int_any p m r w h hm
  have hml : (r.int m).1 ≤ 9223372036854775807 := by
    have hb := wf_i64 hm
    unfold Rd.int
    split
    · simp
    · have := most_le r m.toNat
      omega
  unfold Rd.text
  generalize r.int m = q at *
  obtain ⟨n, r1⟩ := q
  simp only at hi hml
  have HI := Lib.hid hi
  clear hi h hm
  go_enter Try.func48, Try.ntmps48
  go_wp2_with fail
  refine HI.out.mono ?_
  rintro e w1 ⟨rfl, hw⟩
  have hb := bad_any p r1 w1 hw.1
  have hsp := Lib.hid (spoil_any p r1 w1 hw.1)
  obtain ⟨v, h0, h1, hf0, hf1, hs, hp, hh⟩ := hw.1.cells
  obtain ⟨A, c, cs, rfl, q1, q2, _⟩ := id hs
  have q2' : c ≤ 9223372036854775807 := q2
  have ht := fun (hk : n ≤ r1.bs.length) => take_any p n r1 w1 hw.1 hk
  have HT := Lib.hid ht
  have HW := Lib.hid hw
  clear hw hh hs ht
  by_cases c1 : r1.bad = true
  · have E1 := Lib.hid (show Rd.cutText (n, r1) = ([], ⟨r1.bs, true⟩) by unfold Rd.cutText; rw [if_pos (Or.inl c1)])
    go_wp2_with fail
    refine hb.mono ?_
    rintro e w' ⟨rfl, rfl⟩
    go_wp2_with fail
    refine hsp.out.mono ?_
    rintro e w' ⟨rfl, hw⟩
    have HW2 := Lib.hid hw
    clear hw
    go_wp2_with fail
    go_ret
    exact ⟨by rw [E1.out]; rfl, by rw [E1.out]; exact HW.out.trans HW2.out⟩
  · have c1f : r1.bad = false := by simpa using c1
    by_cases c2 : r1.bs.length < n
    · have E1 := Lib.hid (show Rd.cutText (n, r1) = ([], ⟨r1.bs, true⟩) by unfold Rd.cutText; rw [if_pos (Or.inr c2)])
      clear c1
      go_wp2_with fail
      refine hb.mono ?_
      rintro e w' ⟨rfl, rfl⟩
      go_wp2_with fail
      refine hsp.out.mono ?_
      rintro e w' ⟨rfl, hw⟩
      have HW2 := Lib.hid hw
      clear hw
      go_wp2_with fail
      go_ret
      exact ⟨by rw [E1.out]; rfl, by rw [E1.out]; exact HW.out.trans HW2.out⟩
    · have E1 := Lib.hid (show Rd.cutText (n, r1) = (r1.bs.take n, ⟨r1.bs.drop n, false⟩) by unfold Rd.cutText; rw [if_neg (by intro h; exact h.elim c1 c2)])
      have HT2 := HT.out (by omega)
      rw [c1f] at HT2
      have HT3 := Lib.hid HT2
      clear c1 HT2
      go_wp2_with fail
      refine hb.mono ?_
      rintro e w' ⟨rfl, rfl⟩
      go_wp2_with fail
      refine HT3.out.mono ?_
      rintro e w' ⟨v', rfl, hv, hw⟩
      have hcv := conv_str (P := Try.prog) hv (src := 53) (e := 5) (dst := 9) Try.underlying53 Try.underlying5 Try.underlying9
      have HW2 := Lib.hid hw
      clear hw hv
      go_wp2_with fail
      go_ret
      exact ⟨by rw [E1.out]; rfl, by rw [E1.out]; exact HW.out.trans HW2.out⟩

end Go.Proofs.Ytflifeelgamaaaa
