/- Regions that draw their order and end in a store: what is loaded ahead of the store may be taken first, though the store turns it: the store waits for the load. No program in sight. -/
import Derived.Test.YtobfolkcpfaplaaSched
namespace Go.Proofs.Ytobfolkcpfaplaa.Kit
open Go.RowKit
set_option linter.unusedVariables false
section
variable {P : Program} {ops : Array Oper} {Q : Exit → Act → World → Prop} {md : Region.Mode}

/-- As wpAnyH; what the world must meet may depend on what has come up. -/
def wpAnyL (P : Program) (md : Region.Mode) (ops : Array Oper) (Q : Exit → Act → World → Prop) (S : Array Bool → World → Prop) : Nat → Array Bool → Act → World → Prop
  | 0, listed, a, w => Region.ready md ops listed = [] ∧ Q .normal a w
  | fuel + 1, listed, a, w =>
    (Region.ready md ops listed = [] → Q .normal a w) ∧
    ∀ i ∈ Region.ready md ops listed, wpOp P ops Q i (fun a' w' => S (listed.setIfInBounds i true) w' ∧ wpAnyL P md ops Q S fuel (listed.setIfInBounds i true) a' w') a w

theorem wpAny_of_L {S : Array Bool → World → Prop} : ∀ (fuel : Nat) (listed : Array Bool) (a : Act) (w : World), wpAnyL P md ops Q S fuel listed a w → wpAny P md ops Q fuel listed a w
  | 0, _, _, _, h => h
  | fuel + 1, _, _, _, h => ⟨h.1, fun i hi => wpOp_mono (fun a' w' h' => wpAny_of_L fuel _ a' w' h'.2) (h.2 i hi)⟩
def Over (L0 L : Array Bool) : Prop := ∀ k, L0.getD k true = true → L.getD k true = true
theorem Over.set {L0 L : Array Bool} (h : Over L0 L) (j : Nat) : Over L0 (L.setIfInBounds j true) := by
  intro k hk
  by_cases e : j = k
  · subst e
    by_cases hlt : j < L.size
    · simp [hlt]
    · simp [Array.getElem?_eq_none (show (L.setIfInBounds j true).size ≤ j by simp; omega)]
  · rw [getD_set_ne true e]
    exact h k hk
theorem wpAnyL_mono {S S' : Array Bool → World → Prop} {L0 : Array Bool} (hS : ∀ L w, Over L0 L → S' L w → S L w) : ∀ (fuel : Nat) (listed : Array Bool) (a : Act) (w : World), Over L0 listed → wpAnyL P md ops Q S' fuel listed a w → wpAnyL P md ops Q S fuel listed a w
  | 0, _, _, _, _, h => h
  | fuel + 1, _, _, _, ho, h => ⟨h.1, fun i hi => wpOp_mono (fun _ _ h' => ⟨hS _ _ (ho.set i) h'.1, wpAnyL_mono hS fuel _ _ _ (ho.set i) h'.2⟩) (h.2 i hi)⟩

/-- What has come up has all come up that it waits for. -/
def Closed (md : Region.Mode) (ops : Array Oper) (L : Array Bool) : Prop := ∀ k o, ops[k]? = some o → L.getD k true = true → ∀ e ∈ o.after, Region.binds md e = true → L.getD e.on false = true
theorem Closed.set {L : Array Bool} (h : Closed md ops L) {j : Nat} (hj : j ∈ Region.ready md ops L) : Closed md ops (L.setIfInBounds j true) := by
  intro k o hk hL e he hb
  by_cases hjk : j = k
  · subst hjk
    obtain ⟨_, o', ho', hall⟩ := mem_ready.1 hj
    rw [hk] at ho'
    cases ho'
    exact getD_set_true (hall e he hb)
  · rw [getD_set_ne true hjk] at hL
    exact getD_set_true (h k o hk hL e he hb)
/-- Does d wait for i, through others too? -/
def waits (md : Region.Mode) (ops : Array Oper) (i : Nat) : Nat → Nat → Bool
  | 0, _ => false
  | n + 1, d => match ops[d]? with
    | some o => o.after.any fun e => Region.binds md e && (e.on == i || waits md ops i n e.on)
    | none => false
theorem waits_un {L : Array Bool} (hc : Closed md ops L) {i : Nat} (hi : L.getD i true = false) : ∀ (n d : Nat), waits md ops i n d = true → L.getD d true = false ∧ ¬ d ∈ Region.ready md ops L := by
  intro n
  induction n with
  | zero => intro d h; cases h
  | succ n ih =>
    intro d h
    unfold waits at h
    split at h
    · rename_i o ho
      simp only [Array.any_eq_true, Bool.and_eq_true, Bool.or_eq_true, beq_iff_eq] at h
      obtain ⟨m, hm, hb, hor⟩ := h
      have hno : L.getD (o.after[m]).on false ≠ true := by
        intro hl
        have key : L.getD (o.after[m]).on true = false := by
          rcases hor with e | e
          · rw [e]; exact hi
          · exact (ih _ e).1
        rcases Nat.lt_or_ge (o.after[m]).on L.size with h' | h'
        · simp [h'] at hl key
          rw [hl] at key
          cases key
        · simp [Array.getElem?_eq_none h'] at key
      refine ⟨?_, fun hr => ?_⟩
      · cases hd : L.getD d true with
        | false => rfl
        | true => exact absurd (hc d o ho hd _ (Array.getElem_mem hm) hb) hno
      · obtain ⟨_, o', ho', hall⟩ := mem_ready.1 hr
        rw [ho] at ho'
        cases ho'
        exact hno (hall _ (Array.getElem_mem hm) hb)
    · cases h

theorem wpAnyL_first {S : Array Bool → World → Prop} {T : World → Prop} {i : Nat} {oi : Oper} {v : Value} (hi : ops[i]? = some oi) (hsel : ∀ (j : Nat) (o : Oper) cs b, ops[j]? = some o → o.op ≠ .select cs b)
    (hQ : ∀ c a w, Q (.panic c) (a.put oi.dst v) w → Q (.panic c) a w)
    (hM : ∀ L j w, Closed md ops L → L.getD i true = false → j ∈ Region.ready md ops L → j ≠ i → S ((L.setIfInBounds i true).setIfInBounds j true) w → S (L.setIfInBounds j true) w)
    (hN : ∀ L w, Closed md ops L → L.getD i true = false → S L w → S (L.setIfInBounds i true) w)
    (hT : ∀ L w, Closed md ops L → L.getD i true = false → S L w → T w) :
    ∀ (fuel : Nat) (listed : Array Bool) (a : Act) (w : World), Closed md ops listed →
      (∀ j oj, ops[j]? = some oj → j ≠ i → listed.getD j true = false → (∀ e ∈ oj.after, Region.binds md e = true → e.on ≠ i) → oi.apart ops oj = true) →
      i ∈ Region.ready md ops listed → YieldsIf P ops T oi v a → S listed w →
      wpAnyL P md ops Q S fuel (listed.setIfInBounds i true) (a.put oi.dst v) w → wpAnyL P md ops Q S (fuel + 1) listed a w := by
  intro fuel
  induction fuel with
  | zero =>
    intro listed a w hc _ hr hy hS H
    have hun := (mem_ready.1 hr).1
    refine ⟨fun h => (by rw [h] at hr; cases hr), fun j hj => ?_⟩
    by_cases hji : j = i
    · subst hji; exact hy.wpOp hi (hT _ _ hc hun hS) ⟨hN _ _ hc hun hS, H⟩
    · have := ready_mono hj hji
      rw [H.1] at this
      cases this
  | succ fuel ih =>
    intro listed a w hc hfree hr hy hS H
    have hun0 := (mem_ready.1 hr).1
    refine ⟨fun h => (by rw [h] at hr; cases hr), fun j hj => ?_⟩
    by_cases hji : j = i
    · subst hji; exact hy.wpOp hi (hT _ _ hc hun0 hS) ⟨hN _ _ hc hun0 hS, H⟩
    · have h1 := H.2 j (ready_mono hj hji)
      obtain ⟨hjun, oj, hoj, hall⟩ := mem_ready.1 hj
      have hnot : ∀ e ∈ oj.after, Region.binds md e = true → e.on ≠ i := fun e he hb heq => by
        have h1 := hall e he hb
        have h0 := (mem_ready.1 hr).1
        rw [heq] at h1
        rcases Nat.lt_or_ge i listed.size with h' | h'
        · simp [h'] at h0 h1; rw [h0] at h1; cases h1
        · simp [Array.getElem?_eq_none h'] at h1
      have h2 := wpOp_putIf hoj (hfree j oj hoj hji hjun hnot) (fun cs b => hsel i oi cs b hi) (fun cs b => hsel j oj cs b hoj) hQ hy h1
      have hfree' : ∀ k ok, ops[k]? = some ok → k ≠ i → (listed.setIfInBounds j true).getD k true = false →
          (∀ e ∈ ok.after, Region.binds md e = true → e.on ≠ i) → oi.apart ops ok = true := fun k ok hk hki hun hno => by
        refine hfree k ok hk hki ?_ hno
        by_cases hjk : j = k
        · subst hjk; exact hjun
        · rw [getD_set_ne true hjk] at hun; exact hun
      refine wpOp_mono (fun a' w' h3 => ?_) h2
      have hSj := hM listed j w' hc hun0 hj hji h3.2.1
      refine ⟨hSj, ih (listed.setIfInBounds j true) a' w' (hc.set hj) hfree' (ready_mono hr (Ne.symm hji)) h3.1 hSj ?_⟩
      rw [Array.setIfInBounds_comm _ _ hji]
      exact h3.2.2

def noneUp (D : List Nat) (L : Array Bool) : Prop := ∀ d ∈ D, L.getD d true = false
/-- What is still to be shown: all worlds to come are this one, grown, with nothing turned but in G; and but in F, till one of D comes up. -/
def Sched2 (P : Program) (ops : Array Oper) (Q : Exit → Act → World → Prop) (F G : Nat → Prop) (D : List Nat) (fuel : Nat) (listed : Array Bool) (a : Act) (w : World) : Prop :=
  wpAnyL P .any ops Q (fun L x => Upd G w x ∧ (noneUp D L → Upd F w x)) fuel listed a w

variable {F G : Nat → Prop} {D : List Nat} {fuel : Nat} {listed : Array Bool} {a : Act} {w : World}
theorem sched2_begin {id : Nat} (F G : Nat → Prop) (D : List Nat) (hm : P.follows .mixedOrders = true) (h : Sched2 P ops Q F G D ops.size (Array.replicate ops.size false) a w.drew) : (Code.region id ops true).wp P Q a w := by
  refine wp_region_any hm ?_
  exact wpAny_of_L _ _ _ _ h
def closedB (md : Region.Mode) (ops : Array Oper) (L : Array Bool) : Bool :=
  (List.range ops.size).all fun k => match ops[k]? with
    | some o => !L.getD k true || o.after.all fun e => !Region.binds md e || L.getD e.on false
    | none => true
theorem closedB_spec {L : Array Bool} (h : closedB md ops L = true) : Closed md ops L := by
  intro k o hk hL e he hb
  have hlt : k < ops.size := (Array.getElem?_eq_some_iff.1 hk).1
  have := List.all_eq_true.1 h k (List.mem_range.2 hlt)
  simp only [hk, hL, Bool.not_true, Bool.false_or] at this
  have := Array.all_eq_true_iff_forall_mem.1 this e he
  simpa [hb] using this
/-- An operation that all of D wait for: it yields its value in every world to come till one of D comes up. -/
theorem sched2_take (i : Nat) {oi : Oper} {v : Value} (hi : ops[i]? = some oi) (hs : Region.noSelect ops = true) (hc : closedB .any ops listed = true) (hD : (D.all fun d => d != i && waits .any ops i ops.size d) = true) (hf : Region.free .any ops listed i = true) (hr : (Region.ready .any ops listed).contains i = true)
    (hQ : ∀ c a w, Q (.panic c) (a.put oi.dst v) w → Q (.panic c) a w) (hy : (Region.wanted oi (yielded ops a.tmps) = true ∧ ∀ x, Upd F w x → (execOp a.eval oi).run P x = .ok (.value v) x) ∨ (Region.wanted oi (yielded ops a.tmps) = false ∧ v = undef))
    (h : Sched2 P ops Q F G D fuel (listed.setIfInBounds i true) (a.put oi.dst v) w) : Sched2 P ops Q F G D (fuel + 1) listed a w := by
  have hD' := List.all_eq_true.1 hD
  have hw : ∀ L, Closed .any ops L → L.getD i true = false → ∀ d ∈ D, d ≠ i ∧ L.getD d true = false ∧ ¬ d ∈ Region.ready .any ops L := fun L hc hl d hd => by
    have := hD' d hd
    simp only [Bool.and_eq_true, bne_iff_ne, ne_eq] at this
    exact ⟨this.1, waits_un hc hl _ _ this.2⟩
  refine wpAnyL_first (T := fun x => Upd F w x) hi (Region.noSelect_spec hs) hQ ?_ ?_ ?_ fuel listed a w (closedB_spec hc) (Region.free_spec hi hf) (by simpa using hr) hy ⟨Upd.refl _ _, fun _ => Upd.refl _ _⟩ h
  · intro L j x hc hl hj hji ⟨h1, h2⟩
    refine ⟨h1, fun _ => h2 (fun d hd => ?_)⟩
    obtain ⟨k1, k2, k3⟩ := hw L hc hl d hd
    have hdj : j ≠ d := fun e => k3 (e ▸ hj)
    rw [getD_set_ne true hdj, getD_set_ne true (Ne.symm k1)]
    exact k2
  · intro L x hc hl ⟨h1, h2⟩
    exact ⟨h1, fun _ => h2 (fun d hd => (hw L hc hl d hd).2.1)⟩
  · intro L x hc hl ⟨h1, h2⟩
    exact h2 (fun d hd => (hw L hc hl d hd).2.1)
/-- The only operation that may come up. -/
theorem sched2_alone (i : Nat) {oi : Oper} (hr : Region.ready .any ops listed = [i]) (hi : ops[i]? = some oi) (hw : Region.wanted oi (yielded ops a.tmps) = true)
    (h : oi.wp P a w (fun a' w' => (Upd G w w' ∧ (noneUp D (listed.setIfInBounds i true) → Upd F w w')) ∧ Sched2 P ops Q F G D fuel (listed.setIfInBounds i true) a' w') Q) : Sched2 P ops Q F G D (fuel + 1) listed a w := by
  refine ⟨fun h0 => (by rw [hr] at h0; cases h0), fun j hj => ?_⟩
  obtain rfl : j = i := by rw [hr] at hj; simpa using hj
  unfold wpOp
  simp only [hi]
  rw [if_pos hw]
  exact .inl (Oper.wp_mono (fun a' w' h' => ⟨h'.1, by
    have h2 := h'.2
    unfold Sched2 at h2
    refine wpAnyL_mono (L0 := listed.setIfInBounds j true) (fun L x hL hx => ⟨h'.1.1.trans hx.1, fun hl => ?_⟩) _ _ _ _ (fun _ h => h) h2
    refine (h'.1.2 (fun d hd => ?_)).trans (hx.2 hl)
    have := hl d hd
    cases e : (listed.setIfInBounds j true).getD d true with
    | false => rfl
    | true => rw [hL d e] at this; cases this⟩) h)
/-- The only operation that may come up, by a law on lists of operations. -/
theorem sched2_law (i : Nat) {oi : Oper} (hr : Region.ready .any ops listed = [i]) (hi : ops[i]? = some oi) (hg : oi.guard = none)
    (h : wpList P ops (NormalIs (fun a' w' => (Upd G w w' ∧ (noneUp D (listed.setIfInBounds i true) → Upd F w w')) ∧ Sched2 P ops Q F G D fuel (listed.setIfInBounds i true) a' w') Q) [oi] a w) : Sched2 P ops Q F G D (fuel + 1) listed a w := by
  refine ⟨fun h0 => (by rw [hr] at h0; cases h0), fun j hj => ?_⟩
  obtain rfl : j = i := by rw [hr] at hj; simpa using hj
  unfold wpOp
  simp only [hi]
  rw [if_pos (by simp [Region.wanted, hg])]
  refine (wp_of_list hg h).imp (fun h => Oper.wp_mono (fun a' w' h' => ⟨h'.1, ?_⟩) h) id
  have h2 := h'.2
  unfold Sched2 at h2
  refine wpAnyL_mono (L0 := listed.setIfInBounds j true) (fun L x hL hx => ⟨h'.1.1.trans hx.1, fun hl => ?_⟩) _ _ _ _ (fun _ h => h) h2
  refine (h'.1.2 (fun d hd => ?_)).trans (hx.2 hl)
  have := hl d hd
  cases e : (listed.setIfInBounds j true).getD d true with
  | false => rfl
  | true => rw [hL d e] at this; cases this
theorem sched2_done (hr : Region.ready .any ops listed = []) (h : Q .normal a w) : Sched2 P ops Q F G D fuel listed a w := by
  cases fuel with
  | zero => exact ⟨hr, h⟩
  | succ n => exact ⟨fun _ => h, by rw [hr]; simp⟩
/-- Both while F holds, and behind it. -/
theorem both {F G : Nat → Prop} {w w' : World} {p : Prop} (h : Upd F w w') (hfg : ∀ b, F b → G b) : Upd G w w' ∧ (p → Upd F w w') := ⟨h.mono (fun b _ hb => hfg b hb), fun _ => h⟩
end
end Go.Proofs.Ytobfolkcpfaplaa.Kit
