/- Who holds what: spans, and the document's rows, tell the same (plain laws). -/
import Derived.Test.YtobfolkcpfaplaaLockF
namespace Go.Proofs.Ytobfolkcpfaplaa
open Go.RowKit Kit
set_option linter.unusedVariables false

/-- The rows of a span. -/
def rowsS (s : Span) : List Rwl := (⟨s.cl, s.sq, ⟨#[]⟩, false, s.at_, s.till⟩ :: s.rd.map fun k => ⟨s.cl, s.sq, k, false, s.at_, s.till⟩) ++ s.wr.map fun k => ⟨s.cl, s.sq, k, true, s.at_, s.till⟩
def rowsL (l : List Span) : List Rwl := l.flatMap rowsS
theorem rowsL_nil : rowsL [] = [] := rfl
theorem rowsL_cons (s : Span) (l : List Span) : rowsL (s :: l) = rowsS s ++ rowsL l := by simp [rowsL]
theorem rowsL_snoc (l : List Span) (s : Span) : rowsL (l ++ [s]) = rowsL l ++ rowsS s := by simp [rowsL]
def KeysOk (l : List Span) : Prop := ∀ s ∈ l, s.rd.all keyB = true ∧ s.wr.all keyB = true
theorem keyB_pos {k : ByteArray} (h : keyB k = true) : k.size ≠ 0 := by
  unfold keyB at h
  simp at h
  omega
structure Good (l : List Span) (last : Int) : Prop where
  keys : KeysOk l
  uniq : ∀ (i j : Nat) (s t : Span), l[i]? = some s → l[j]? = some t → s.till = 0 → t.till = 0 → s.cl = t.cl → s.sq = t.sq → i = j
  alone : ∀ (i j : Nat) (s t : Span), i ≠ j → l[i]? = some s → l[j]? = some t → s.till = 0 → t.till = 0 → ∀ k ∈ s.wr, k ∉ t.wr ∧ k ∉ t.rd
  last : 0 ≤ last
theorem good_nil : Good [] 0 := ⟨fun s hs => absurd hs (List.not_mem_nil), fun i j s t h => by simp at h, fun i j s t _ h => by simp at h, Int.le_refl _⟩

theorem any_const {α : Type} (b : Bool) (l : List α) : (b || l.any fun _ => b) = b := by
  cases b
  · simp
  · rfl
theorem held_rowsS (s : Span) (c q : Int) : ((rowsS s).any fun r => r.held c q) = s.held c q := by
  unfold rowsS
  rw [List.any_append, List.any_cons, List.any_map, List.any_map]
  show (Rwl.held ⟨s.cl, s.sq, ⟨#[]⟩, false, s.at_, s.till⟩ c q || (s.rd.any fun _ => s.held c q) || (s.wr.any fun _ => s.held c q)) = _
  show (s.held c q || (s.rd.any fun _ => s.held c q) || (s.wr.any fun _ => s.held c q)) = _
  rw [any_const, any_const]
theorem held_rows (l : List Span) (c q : Int) : ((rowsL l).any fun r => r.held c q) = holdsB l c q := by
  unfold rowsL holdsB
  rw [List.any_flatMap]
  congr 1
  funext s
  exact held_rowsS s c q
theorem mem_size {l : List ByteArray} (h : l.all keyB = true) {k : ByteArray} (hk : k ∈ l) : k.size ≠ 0 := keyB_pos (List.all_eq_true.1 h k hk)
theorem no_empty {l : List ByteArray} (h : l.all keyB = true) {key : ByteArray} (hk : key.size = 0) : (l.any fun x => decide (x = key)) = false := by
  rw [List.any_eq_false]
  intro x hx e
  rw [decide_eq_true_eq] at e
  exact mem_size h hx (e ▸ hk)
theorem busy_rowsS {s : Span} (h : s.rd.all keyB = true ∧ s.wr.all keyB = true) (key : ByteArray) (b : Bool) : ((rowsS s).any fun r => r.busy key b) = s.busy key b := by
  unfold rowsS
  rw [List.any_append, List.any_cons, List.any_map, List.any_map]
  by_cases hk : key.size = 0
  · have e1 : (Rwl.busy ⟨s.cl, s.sq, ⟨#[]⟩, false, s.at_, s.till⟩ key b) = false := by simp [Rwl.busy, hk]
    rw [e1]
    unfold Span.busy
    rw [no_empty h.1 hk, no_empty h.2 hk]
    simp [Rwl.busy, hk, Function.comp_def]
  · have e0 : ¬ (⟨#[]⟩ : ByteArray) = key := fun e => hk (by rw [← e]; rfl)
    have e1 : (Rwl.busy ⟨s.cl, s.sq, ⟨#[]⟩, false, s.at_, s.till⟩ key b) = false := by simp [Rwl.busy, e0]
    rw [e1, Bool.false_or]
    unfold Span.busy
    by_cases ht : s.till = 0
    · cases b
      · simp [Rwl.busy, hk, ht, Function.comp_def]
      · simp [Rwl.busy, hk, ht, Function.comp_def, Bool.or_comm]
    · simp [Rwl.busy, ht, Function.comp_def]
theorem busy_rows {l : List Span} (h : KeysOk l) (key : ByteArray) (b : Bool) : rbusyB (rowsL l) key b = busyB l key b := by
  unfold rbusyB rowsL busyB
  rw [List.any_flatMap]
  induction l with
  | nil => rfl
  | cons s l ih =>
    rw [List.any_cons, List.any_cons, ih (fun t ht => h t (List.mem_cons_of_mem _ ht)), busy_rowsS (h s (List.mem_cons_self ..))]
theorem len_rowsS {s : Span} (h : s.rd.all keyB = true ∧ s.wr.all keyB = true) : lenR (rowsS s) = if s.till = 0 then 1 else 0 := by
  unfold lenR rowsS
  rw [List.countP_append, List.countP_cons, List.countP_map, List.countP_map]
  have e1 : s.rd.countP ((fun r => r.own) ∘ fun k => (⟨s.cl, s.sq, k, false, s.at_, s.till⟩ : Rwl)) = 0 := by
    rw [List.countP_eq_zero]
    intro k hk
    have := mem_size h.1 hk
    show ¬ (decide (k.size = 0) && decide (s.till = 0)) = true
    rw [decide_eq_false this]
    simp
  have e2 : s.wr.countP ((fun r => r.own) ∘ fun k => (⟨s.cl, s.sq, k, true, s.at_, s.till⟩ : Rwl)) = 0 := by
    rw [List.countP_eq_zero]
    intro k hk
    have := mem_size h.2 hk
    show ¬ (decide (k.size = 0) && decide (s.till = 0)) = true
    rw [decide_eq_false this]
    simp
  rw [e1, e2]
  have e3 : (Rwl.own ⟨s.cl, s.sq, ⟨#[]⟩, false, s.at_, s.till⟩) = decide (s.till = 0) := by
    show (decide ((⟨#[]⟩ : ByteArray).size = 0) && decide (s.till = 0)) = _
    rfl
  rw [e3]
  by_cases ht : s.till = 0 <;> simp [ht]
theorem len_rows {l : List Span} (h : KeysOk l) : lenR (rowsL l) = lenS l := by
  induction l with
  | nil => rfl
  | cons s l ih =>
    have h1 : lenR (rowsS s ++ rowsL l) = lenR (rowsS s) + lenR (rowsL l) := List.countP_append ..
    have h2 : lenS (s :: l) = lenS l + (if s.till = 0 then 1 else 0) := by
      unfold lenS
      rw [List.countP_cons]
      by_cases ht : s.till = 0 <;> simp [ht]
    rw [rowsL_cons, h1, len_rowsS (h s (List.mem_cons_self ..)), ih (fun t ht => h t (List.mem_cons_of_mem _ ht)), h2]
    omega
theorem find_same {l : List Rwl} {c q : Int} (h : ∀ r ∈ l, r.cl = c ∧ r.sq = q) (P : Rwl → Bool) : (l.find? P).map (fun r => (r.cl, r.sq)) = if l.any P = true then some (c, q) else none := by
  induction l with
  | nil => rfl
  | cons r l ih =>
    rw [List.find?_cons, List.any_cons]
    obtain ⟨h1, h2⟩ := h r (List.mem_cons_self ..)
    cases hp : P r
    · rw [Bool.false_or]
      exact ih (fun t ht => h t (List.mem_cons_of_mem _ ht))
    · simp [h1, h2]
theorem writes_rowsS (s : Span) (key : ByteArray) (n : Int) : ((rowsS s).any fun r => r.writes key n) = s.writes key n := by
  unfold rowsS
  rw [List.any_append, List.any_cons, List.any_map, List.any_map]
  have e1 : (Rwl.writes ⟨s.cl, s.sq, ⟨#[]⟩, false, s.at_, s.till⟩ key n) = false := rfl
  rw [e1]
  have e2 : (s.rd.any ((fun r => r.writes key n) ∘ fun k => (⟨s.cl, s.sq, k, false, s.at_, s.till⟩ : Rwl))) = false := by
    rw [List.any_eq_false]
    intro k _ e
    cases e
  rw [e2]
  unfold Span.writes
  by_cases ha : s.at_ ≤ n
  · by_cases ht : s.till = 0
    · simp [Rwl.writes, ha, ht, Function.comp_def]
    · by_cases hn : n < s.till <;> simp [Rwl.writes, ha, ht, hn, Function.comp_def]
  · simp [Rwl.writes, ha, Function.comp_def]
theorem writer_rows (l : List Span) (key : ByteArray) (n : Int) : writerR (rowsL l) key n = writerS l key n := by
  induction l with
  | nil => rfl
  | cons s l ih =>
    have h1 : writerR (rowsS s ++ rowsL l) key n = (((rowsS s).find? fun r => r.writes key n).map (fun r => (r.cl, r.sq))).or (writerR (rowsL l) key n) := by
      unfold writerR
      rw [List.find?_append]
      cases (rowsS s).find? fun r => r.writes key n <;> rfl
    have hs : ∀ r ∈ rowsS s, r.cl = s.cl ∧ r.sq = s.sq := by
      intro r hr
      unfold rowsS at hr
      simp only [List.cons_append, List.mem_cons, List.mem_append, List.mem_map] at hr
      rcases hr with rfl | ⟨k, _, rfl⟩ | ⟨k, _, rfl⟩ <;> exact ⟨rfl, rfl⟩
    rw [rowsL_cons, h1, find_same hs, writes_rowsS, ih]
    unfold writerS
    rw [List.find?_cons]
    cases s.writes key n <;> rfl

theorem take_rows {l : List Span} (h : KeysOk l) (last c q a : Int) (rd wr : List ByteArray) :
    rtake (rowsL l) last c q a rd wr = ((takeL l last c q a rd wr).1, rowsL (takeL l last c q a rd wr).2.1, (takeL l last c q a rd wr).2.2) := by
  have e1 : (fun k => rbusyB (rowsL l) k false) = fun k => busyB l k false := funext fun k => busy_rows h k false
  have e2 : (fun k => rbusyB (rowsL l) k true) = fun k => busyB l k true := funext fun k => busy_rows h k true
  unfold rtake takeL
  rw [held_rows, e1, e2]
  repeat' split
  all_goals first | rfl | skip
  show ((0 : Int), rowsL l ++ rowsOf c q a rd wr, a) = (0, rowsL (l ++ [⟨c, q, rd, wr, a, 0⟩]), a)
  rw [rowsL_snoc]
  rfl
theorem not_any {α : Type} {P : α → Bool} {l : List α} (h : l.any P = false) {i : Nat} {s : α} (hi : l[i]? = some s) : P s = false := by
  have := List.any_eq_false.1 h s (List.mem_of_getElem? hi)
  simpa using this
theorem snoc_at {α : Type} {l : List α} {y s : α} {i : Nat} (h : (l ++ [y])[i]? = some s) : (i < l.length ∧ l[i]? = some s) ∨ (i = l.length ∧ s = y) := by
  rw [List.getElem?_append] at h
  split at h
  · exact .inl ⟨by assumption, h⟩
  · rename_i hl
    have : i - l.length = 0 := by
      have := (List.getElem?_eq_some_iff.1 h).1
      simp at this
      omega
    rw [this] at h
    simp at h
    exact .inr ⟨by omega, h.symm⟩
theorem take_good {l : List Span} {last : Int} (h : Good l last) (c q a : Int) (rd wr : List ByteArray) : Good (takeL l last c q a rd wr).2.1 (takeL l last c q a rd wr).2.2 := by
  unfold takeL
  split
  · exact h
  split
  · exact h
  split
  · exact h
  split
  · exact h
  split
  · exact h
  split
  · exact h
  rename_i h1 h2 h3 h4 h5 h6
  have h2 : rd.all keyB = true := by simpa using h2
  have h3 : wr.all keyB = true := by simpa using h3
  have h4 : holdsB l c q = false := by simpa using h4
  have h5 : (rd.any fun k => busyB l k false) = false := Bool.eq_false_iff.2 h5
  have h6 : (wr.any fun k => busyB l k true) = false := Bool.eq_false_iff.2 h6
  have hl := h.last
  have nb : ∀ (i : Nat) (s : Span), l[i]? = some s → s.till = 0 → ¬ (s.cl = c ∧ s.sq = q) := by
    intro i s hi ht hcq
    have := not_any h4 hi
    simp [Span.held, ht, hcq] at this
  have nr : ∀ (i : Nat) (s : Span), l[i]? = some s → s.till = 0 → ∀ k ∈ rd, k ∉ s.wr := by
    intro i s hi ht k hk hw
    have h7 := List.any_eq_false.1 h5 k hk
    have h8 : s.busy k false = true := by
      unfold Span.busy
      rw [decide_eq_true ht, List.any_eq_true.2 ⟨k, hw, decide_eq_true rfl⟩]
      rfl
    exact h7 (show busyB l k false = true from some_any (P := fun s : Span => s.busy k false) hi h8)
  have nw : ∀ (i : Nat) (s : Span), l[i]? = some s → s.till = 0 → ∀ k ∈ wr, k ∉ s.wr ∧ k ∉ s.rd := by
    intro i s hi ht k hk
    have h7 := List.any_eq_false.1 h6 k hk
    constructor
    · intro hw
      have h8 : s.busy k true = true := by
        unfold Span.busy
        rw [decide_eq_true ht, List.any_eq_true.2 ⟨k, hw, decide_eq_true rfl⟩]
        rfl
      exact h7 (show busyB l k true = true from some_any (P := fun s : Span => s.busy k true) hi h8)
    · intro hw
      have h8 : s.busy k true = true := by
        unfold Span.busy
        rw [decide_eq_true ht, show (s.rd.any fun x => decide (x = k)) = true from List.any_eq_true.2 ⟨k, hw, decide_eq_true rfl⟩]
        simp
      exact h7 (show busyB l k true = true from some_any (P := fun s : Span => s.busy k true) hi h8)
  refine ⟨?_, ?_, ?_, by show 0 ≤ a; omega⟩
  · intro s hs
    rcases List.mem_append.1 hs with hs | hs
    · exact h.keys s hs
    · rw [List.mem_singleton.1 hs]; exact ⟨h2, h3⟩
  · intro i j s t hi hj hs ht hc hq
    rcases snoc_at hi with ⟨li, hi⟩ | ⟨rfl, rfl⟩
    · rcases snoc_at hj with ⟨lj, hj⟩ | ⟨rfl, rfl⟩
      · exact h.uniq i j s t hi hj hs ht hc hq
      · exact absurd ⟨hc, hq⟩ (nb i s hi hs)
    · rcases snoc_at hj with ⟨lj, hj⟩ | ⟨rfl, rfl⟩
      · exact absurd ⟨hc.symm, hq.symm⟩ (nb j t hj ht)
      · rfl
  · intro i j s t hij hi hj hs ht k hk
    rcases snoc_at hi with ⟨li, hi⟩ | ⟨rfl, rfl⟩
    · rcases snoc_at hj with ⟨lj, hj⟩ | ⟨rfl, rfl⟩
      · exact h.alone i j s t hij hi hj hs ht k hk
      · exact ⟨fun hw => (nw i s hi hs k hw).1 hk, fun hr => nr i s hi hs k hr hk⟩
    · rcases snoc_at hj with ⟨lj, hj⟩ | ⟨rfl, rfl⟩
      · exact nw j t hj ht k hk
      · exact absurd rfl hij
def freedS (c q a : Int) (s : Span) : Span := if s.held c q = true then { s with till := a } else s
theorem freed_rowsS (c q a : Int) (s : Span) : (rowsS s).map (freed c q a) = rowsS (freedS c q a s) := by
  have e : ∀ k b, freed c q a ⟨s.cl, s.sq, k, b, s.at_, s.till⟩ = if s.held c q = true then ⟨s.cl, s.sq, k, b, s.at_, a⟩ else ⟨s.cl, s.sq, k, b, s.at_, s.till⟩ := fun k b => rfl
  unfold rowsS freedS
  cases hh : s.held c q
  · simp [e, hh, Function.comp_def]
  · simp [e, hh, Function.comp_def]
theorem freed_rows (c q a : Int) (l : List Span) : (rowsL l).map (freed c q a) = rowsL (l.map (freedS c q a)) := by
  induction l with
  | nil => rfl
  | cons s l ih => rw [rowsL_cons, List.map_append, ih, freed_rowsS, List.map_cons, rowsL_cons]
theorem held_iff {s : Span} {c q : Int} : s.held c q = true ↔ s.till = 0 ∧ s.cl = c ∧ s.sq = q := by
  unfold Span.held
  simp
theorem free_map {l : List Span} {last : Int} (h : Good l last) {c q a : Int} {k : Nat} (hk : l.findIdx? (fun s => s.held c q) = some k) : l.modify k (fun s => { s with till := a }) = l.map (freedS c q a) := by
  obtain ⟨hlt, hp, _⟩ := List.findIdx?_eq_some_iff_getElem.1 hk
  refine List.ext_getElem? fun i => ?_
  rw [List.getElem?_modify, List.getElem?_map]
  cases hi : l[i]? with
  | none => rfl
  | some s =>
    by_cases e : k = i
    · subst e
      have hs : s = l[k] := by rw [List.getElem?_eq_getElem hlt] at hi; exact (Option.some.inj hi).symm
      subst hs
      simp [freedS, hp]
    · have hn : s.held c q = false := by
        cases hh : s.held c q with
        | false => rfl
        | true =>
          obtain ⟨a1, a2, a3⟩ := held_iff.1 hh
          obtain ⟨b1, b2, b3⟩ := held_iff.1 hp
          exact absurd (h.uniq k i _ s (List.getElem?_eq_getElem hlt) hi b1 a1 (b2.trans a2.symm) (b3.trans a3.symm)) e
      simp [freedS, hn, e]
theorem holds_none {l : List Span} {c q : Int} (h : l.findIdx? (fun s => s.held c q) = none) : holdsB l c q = false := by
  unfold holdsB
  rw [List.any_eq_false]
  intro s hs
  have := List.findIdx?_eq_none_iff.1 h s hs
  simp [this]
theorem holds_some {l : List Span} {c q : Int} {k : Nat} (h : l.findIdx? (fun s => s.held c q) = some k) : holdsB l c q = true := by
  obtain ⟨hlt, hp, _⟩ := List.findIdx?_eq_some_iff_getElem.1 h
  exact List.any_eq_true.2 ⟨_, List.getElem_mem hlt, hp⟩
theorem free_rows {l : List Span} {last : Int} (h : Good l last) (c q a : Int) :
    rfree (rowsL l) last c q a = ((freeL l last c q a).1, rowsL (freeL l last c q a).2.1, (freeL l last c q a).2.2) := by
  unfold rfree freeL
  rw [held_rows]
  by_cases ha : a ≤ last
  · rw [if_pos ha, if_pos ha]
  · rw [if_neg ha, if_neg ha]
    cases hk : l.findIdx? (fun s => s.held c q) with
    | none => rw [holds_none hk, if_pos rfl]
    | some k =>
      rw [holds_some hk, if_neg (by simp)]
      simp only
      rw [free_map h hk, freed_rows]
theorem free_good {l : List Span} {last : Int} (h : Good l last) (c q a : Int) : Good (freeL l last c q a).2.1 (freeL l last c q a).2.2 := by
  unfold freeL
  split
  · exact h
  split
  · exact h
  · rename_i ha k hk
    have hl := h.last
    have key : ∀ (i : Nat) (s : Span), (l.map (freedS c q a))[i]? = some s → s.till = 0 → l[i]? = some s := by
      intro i s hi hs
      rw [List.getElem?_map] at hi
      cases ht : l[i]? with
      | none => rw [ht] at hi; cases hi
      | some t =>
        rw [ht] at hi
        simp only [Option.map_some, Option.some.injEq] at hi
        unfold freedS at hi
        split at hi
        · subst hi
          simp only at hs
          omega
        · rw [hi]
    simp only
    rw [free_map h hk]
    refine ⟨?_, ?_, ?_, by omega⟩
    · intro s hs
      obtain ⟨t, ht, rfl⟩ := List.mem_map.1 hs
      have := h.keys t ht
      unfold freedS
      split <;> exact this
    · intro i j s t hi hj hs ht hc hq
      exact h.uniq i j s t (key i s hi hs) (key j t hj ht) hs ht hc hq
    · intro i j s t hij hi hj hs ht
      exact h.alone i j s t hij (key i s hi hs) (key j t hj ht) hs ht
end Go.Proofs.Ytobfolkcpfaplaa
