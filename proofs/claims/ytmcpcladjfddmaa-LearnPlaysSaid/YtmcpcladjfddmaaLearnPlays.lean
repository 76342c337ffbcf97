/- Whatever is learned, a learner answers, and has, what the chapter says (LearnPlays): the law's walk. -/
import Derived.Test.YtmcpcladjfddmaaRefLearn2
namespace Go.Proofs.Ytmcpcladjfddmaa
open Go.RowKit Kit
set_option linter.unusedVariables false

/-- The learner's knowledge is the rows'. -/
structure Same (m : Ln) (l : List Rw) : Prop where
  val : ∀ s : Int, rfind l s = m.val s
  rng : ∀ x ∈ l, 0 ≤ x.1 ∧ x.1 < 400
  top : rtop l = (m.top : Int)
theorem same_new : Same Ln.new [] := ⟨fun s => by show none = _; unfold Ln.val; split <;> rfl, fun x hx => absurd hx (List.not_mem_nil), rfl⟩
theorem same_learn {m : Ln} {l : List Rw} (h : Same m l) (s : Int) (v : ByteArray) : (rlearn l s v).1 = (m.learn s v).1 ∧ Same (m.learn s v).2 (rlearn l s v).2 ∧ (rlearn l s v).2.length ≤ l.length + 1 := by
  unfold rlearn Ln.learn
  by_cases hg : s < 0 ∨ 399 < s ∨ 64 < v.size
  · rw [if_pos hg, if_pos (by omega)]
    exact ⟨rfl, h, Nat.le_succ _⟩
  · rw [if_neg hg, if_neg (by omega)]
    have hv : rfind l s = m.f s.toNat := by rw [h.val s]; unfold Ln.val; rw [if_pos (by omega)]
    rw [hv]
    cases hf : m.f s.toNat with
    | some u =>
      by_cases e : u = v
      · simp only [if_pos e]
        exact ⟨trivial, h, Nat.le_succ _⟩
      · simp only [if_neg e]
        exact ⟨trivial, h, Nat.le_succ _⟩
    | none =>
      refine ⟨rfl, ⟨fun t => ?_, fun x hx => ?_, ?_⟩, by simp⟩
      · show rfind (l ++ [(s, v)]) t = _
        rw [rfind_app, h.val t]
        unfold Ln.val
        show Option.or _ (if (s == t) = true then some v else none) = if 0 ≤ t ∧ t < 400 then setF m.f s.toNat v t.toNat else none
        unfold setF
        by_cases e : s = t
        · subst e
          rw [if_pos (by omega), hf, if_pos (by simp), if_pos (by omega), if_pos rfl]
          rfl
        · rw [if_neg (show ¬ (s == t) = true by simpa using e)]
          by_cases ht : 0 ≤ t ∧ t < 400
          · rw [if_pos ht, if_pos ht, if_neg (by omega)]
            cases m.f t.toNat <;> rfl
          · rw [if_neg ht, if_neg ht]; rfl
      · rcases List.mem_append.1 hx with hx | hx
        · exact h.rng x hx
        · rw [List.mem_singleton.1 hx]
          show 0 ≤ s ∧ s < 400
          omega
      · show rtop (l ++ [(s, v)]) = ((max m.top (s.toNat + 1) : Nat) : Int)
        rw [rtop_app, h.top]
        show (if (m.top : Int) ≤ s then s + 1 else (m.top : Int)) = _
        split <;> omega
theorem adv_congr {f g : Nat → Option ByteArray} (h : ∀ k, k < 400 → f k = g k) : ∀ (n k : Nat), 400 - k = n → adv f k = adv g k := by
  intro n
  induction n with
  | zero => intro k hn; rw [adv_stop (by omega), adv_stop (by omega)]
  | succ n ih =>
    intro k hn
    have hk := h k (by omega)
    by_cases hf : k < 400 ∧ (f k).isSome = true
    · rw [adv_step hf.1 hf.2, adv_step hf.1 (by rw [← hk]; exact hf.2), ih (k + 1) (by omega)]
    · rw [adv_stop hf, adv_stop (by rw [← hk]; exact hf)]
theorem same_pre {m : Ln} {l : List Rw} (h : Same m l) (ho : m.ok) : adv (fun k => rfind l (k : Int)) 0 = m.pre := by
  rw [adv_congr (g := m.f) (fun k hk => by rw [h.val]; unfold Ln.val; rw [if_pos (by omega)]; rfl) 400 0 rfl, adv_from m.pre ho.1 ho.2.2.2.1]
  by_cases e : m.pre < 400
  · exact adv_stop (fun hh => by rw [ho.2.2.2.2 e] at hh; cases hh.2)
  · exact adv_stop (fun hh => e hh.1)
theorem same_size {m : Ln} {l : List Rw} (h : Same m l) (ho : m.ok) (k : Nat) : ((rfind l (k : Int)).getD ⟨#[]⟩).size ≤ 64 := by
  rw [h.val]
  unfold Ln.val
  split
  · exact Ln.val0_size ho _
  · show (0 : Nat) ≤ 64
    omega
theorem same_frm {m : Ln} {l : List Rw} (h : Same m l) (ho : m.ok) (s most : Int) : rfrm l s most m.pre = m.frm s most := by
  have h4 := ho.1
  rw [rfrm_eq l m.val0 s most m.pre (fun j hj => by rw [h.val]; unfold Ln.val; rw [if_pos (by omega)]; rfl)]
  rfl
theorem RLn.out {w0 w : World} {xs : List Nat} {q : Nat} {l : List Rw} (h : RLn w0 w xs q l) (o : Obj) : RLn w0 (w.alloc o) (w.heap.size :: xs) q l := by
  obtain ⟨v, h1, h2⟩ := h
  have u := (Upd.refl NoB w).alloc o
  refine ⟨v, u.heap h1 (fun h => h), (h2.upd u (fun _ _ h => h)).mono (fun b hb => ⟨hb.1, Nat.lt_of_lt_of_le hb.2.1 u.size, fun hm => ?_⟩)⟩
  rcases List.mem_cons.1 hm with e | e
  · have := hb.2.1; omega
  · exact hb.2.2 e
theorem RLn.back {w0 w : World} {xs : List Nat} {x q : Nat} {l : List Rw} (h : RLn w0 w (x :: xs) q l) : RLn w0 w xs q l := by
  obtain ⟨v, h1, h2⟩ := h
  exact ⟨v, h1, h2.mono (fun b hb => ⟨hb.1, hb.2.1, fun hm => hb.2.2 (List.mem_cons_of_mem _ hm)⟩)⟩

set_option maxHeartbeats 4000000 in
set_option maxRecDepth 100000 in
theorem learnPlays_walk {S : Nat → Prop} (v : Value) (l : List Rw) (slot most : Int) (w : World) (h : RSl Rep.row w S v l) :
    Calls Try.prog 4 #[v, .int .i64 slot, .int .i64 most] w fun e w' => e = .returned (.bool true) ∧ Upd NoB w w' := by
  have HX := Lib.hid h
  obtain ⟨A, c, cs, rfl, d1, d2, _⟩ := h
  have d2' : c ≤ 9223372036854775807 := d2
  go_enter Try.func4, Try.ntmps4
  go_wp2_with fail
  refine (new_any _).mono ?_
  rintro e w1 ⟨p, rfl, hp, hl1, hu1⟩
  have HL1 := Lib.hid hl1
  have HU1 := Lib.hid hu1
  have hpl := hl1.lt
  clear hl1 hu1
  have hpq : p < w1.heap.size := hpl
  have hqw : w.heap.size ≤ w1.heap.size := HU1.out.size
  have u0 : Upd NoB w1 (w1.alloc (.cells #[.slice none 0 0] 37)) := (Upd.refl NoB w1).alloc _
  have HR0 := Lib.hid (show RLn w (w1.alloc (.cells #[.slice none 0 0] 37)) [p, w1.heap.size] w1.heap.size [] from ⟨_, heap_alloc_new _ _, OSl.nil _ _ _⟩)
  have HL0 := Lib.hid (HL1.out.keep u0 (fun h => h))
  have HU0 := Lib.hid (HU1.out.trans u0)
  clear u0
  go_wp2_with fail
  generalize hq : w1.heap.size = q at *
  generalize w1.alloc (.cells #[.slice none 0 0] 37) = w2 at *
  clear hq
  go_loopw [9, 10, 20] (fun x9 x10 i wr => ∃ k : Nat, k ≤ l.length ∧ i = .int .i64 k ∧ ∃ (m : Ln) (L : List Rw), L.length ≤ k ∧ L.length ≤ 30 ∧ Hid (Lrn wr p m) ∧ Hid m.ok ∧ Hid (RLn w wr [p, q] q L) ∧ Hid (Same m L) ∧ Hid (Upd NoB w wr)) (fun _ _ i _ => l.length - (intOf i).toNat)
  case atStart => exact ⟨0, by omega, rfl, Ln.new, [], by simp, by simp, HL0, Lib.hid new_ok, HR0, Lib.hid same_new, HU0⟩
  case round =>
    obtain ⟨k, hk, rfl, m, L, hLk, hL30, hL, hok, hR, hS, hU⟩ := hrel
    have hpr := hL.out.lt
    have hqr : q < wr.heap.size := by obtain ⟨_, h1, _⟩ := hR.out; exact lt_of_heap h1
    by_cases hlt : k < l.length
    · obtain ⟨g, o, rcs, rfl, hrep, hcs, hg⟩ := HX.out.cellN k hlt
      obtain ⟨hr1, hr2, hr3⟩ := hrep
      subst hr1
      have c0 : wr.cell? ⟨g, o + k * 2, none⟩ = some (.int .i64 l[k].1) := hU.out.cell (hcs 0 _ rfl) (fun h => h)
      have c1 : wr.cell? ⟨g, o + k * 2 + 1, none⟩ = some (.string l[k].2) := hU.out.cell (hcs 1 _ rfl) (fun h => h)
      have hr3' : l[k].2.size ≤ 9223372036854775807 := hr3
      generalize l[k] = x at *
      obtain ⟨xs, xv⟩ := x
      simp only at c0 c1 hr3'
      clear hcs hr3
      have u0 : Upd NoB wr (wr.alloc (.cells #[.int .i64 xs, .string xv] 39)) := (Upd.refl NoB wr).alloc _
      have hLa := Lib.hid (hL.out.keep u0 (fun h => h))
      have hRa := Lib.hid (hR.out.out (.cells #[.int .i64 xs, .string xv] 39))
      have hUa := Lib.hid (hU.out.trans u0)
      have hB0 := Lib.hid (heap_alloc_new wr (.cells #[.int .i64 xs, .string xv] 39))
      have hsz0 : wr.heap.size < (wr.alloc (.cells #[.int .i64 xs, .string xv] 39)).heap.size := by simp
      clear u0
      by_cases h30 : 30 ≤ k
      · have hI30 : (30 : Int) ≤ (k : Int) := by omega
        have hd30 : decide ((30 : Int) ≤ (k : Int)) = true := decide_eq_true hI30
        have hL := hLa
        have hR := Lib.hid (hRa.out.back)
        have hU := hUa
        clear hLa hRa hUa
        have hva := Lib.hid (fun w1 (hu : Upd NoB w w1 ∧ Lrn w1 p m) => val_any p m slot w1 hu.2)
        have hvr := Lib.hid (fun w1 (h : RLn w w1 [p, q] q L) => refval_any w [p, q] q L slot w1 h (by omega))
        have hfa := Lib.hid (fun w1 (h : Lrn w1 p m) => from_any p m slot most w1 h hok.out)
        have hfr := fun w1 (h : RLn w w1 [p, q] q L) => reffrom_any w [p, q] q L slot most m.pre w1 h (by omega) (same_pre hS.out hok.out) hok.out.1 (same_size hS.out hok.out)
        rw [same_frm hS.out hok.out] at hfr
        have hfr := Lib.hid hfr
        have hvr := hvr.out
        rw [hS.out.val slot] at hvr
        have hvr := Lib.hid hvr
        generalize (m.val slot).getD ⟨#[]⟩ = y at *
        generalize (m.val slot).isSome = B at *
        generalize m.frm slot most = FR at *
        go_wp2_with fail
        refine (hva.out _ ⟨hU.out, hL.out⟩).mono ?_
        rintro e w2 ⟨rfl, hu⟩
        have hL2 := Lib.hid (hL.out.keep hu (fun h => h))
        have hR2 := Lib.hid (hR.out.keep hu (fun h => h) (fun b hb => hb.elim))
        have hU2 := Lib.hid (hU.out.trans hu)
        clear hu
        go_wp2_with fail
        refine (hvr.out _ hR2.out).mono ?_
        rintro e w3 ⟨rfl, hu⟩
        have hL3 := Lib.hid (hL2.out.keep hu (fun h => h))
        have hR3 := Lib.hid (hR2.out.keep hu (fun h => h) (fun b hb => hb.elim))
        have hU3 := Lib.hid (hU2.out.trans hu)
        clear hu
        go_wp2_with fail
        refine (hfa.out _ hL3.out).mono ?_
        rintro e w4 ⟨v1, rfl, hM1⟩
        have hM1 := Lib.hid hM1
        have hR4 := Lib.hid (hR3.out.keep hM1.out.2 (fun h => h) (fun b hb => hb.elim))
        have hU4 := Lib.hid (hU3.out.trans hM1.out.2)
        go_wp2_with fail
        refine (hfr.out _ hR4.out).mono ?_
        rintro e w5 ⟨v2, rfl, hM2⟩
        have hM2 := Lib.hid hM2
        have hU5 := Lib.hid (hU4.out.trans hM2.out.2)
        have hk := keysEq_any v1 v2 _ _ w5 (hM1.out.upd hM2.out.2).1.read hM2.out.1.read
        rw [decide_eq_true rfl] at hk
        have HK := Lib.hid hk
        clear hk
        go_wp2_with fail
        refine (HK.out).mono ?_
        rintro e w6 ⟨rfl, hu⟩
        have hU6 := Lib.hid (hU5.out.trans hu)
        clear hu
        go_wp2_with fail
        refine (awakeLearn_any _).mono ?_
        rintro e w7 ⟨rfl, hu⟩
        have hU7 := Lib.hid (hU6.out.trans hu)
        clear hu
        go_wp2_with fail
        go_ret
        exact ⟨rfl, hU7.out⟩
      · have hI30 : ¬ (30 : Int) ≤ (k : Int) := by omega
        have hd30 : decide ((30 : Int) ≤ (k : Int)) = false := decide_eq_false hI30
        have hstep := Lib.hid (same_learn hS.out xs xv)
        have hla := Lib.hid (fun w3 (h : Lrn w3 p m) => learn_any p m xs xv w3 h hok.out hr3')
        have hlr := Lib.hid (fun w3 (h : RLn w w3 [wr.heap.size, p, q] q L) (hx : ∀ x ∈ [wr.heap.size, p, q], x < w3.heap.size) (h0 : w.heap.size ≤ w3.heap.size) => reflearn_any w [wr.heap.size, p, q] q L xs xv w3 h (by simp) hx h0 (by omega) hr3')
        have hok2 := Lib.hid (Ln.learn_ok hok.out xs xv)
        rw [hstep.out.1] at hlr
        generalize m.learn xs xv = r at *
        generalize rlearn L xs xv = rr at *
        obtain ⟨E, m2⟩ := r
        obtain ⟨E', L2⟩ := rr
        simp only at hla hlr hok2
        have hS2 := Lib.hid hstep.out.2.1
        have hL2 := hstep.out.2.2
        simp only at hS2 hL2
        clear hstep
        have hpa := Lib.hid (fun w3 (h : Lrn w3 p m2) => prefix_any p m2 w3 h)
        have hta := Lib.hid (fun w3 (h : Lrn w3 p m2) => top_any p m2 w3 h)
        have hpb := fun w3 (h : RLn w w3 [wr.heap.size, p, q] q L2) => refprefix_any w [wr.heap.size, p, q] q L2 w3 h (by omega)
        rw [same_pre hS2.out hok2.out] at hpb
        have hpb := Lib.hid hpb
        have htb := fun w3 (h : RLn w w3 [wr.heap.size, p, q] q L2) => reftop_any w [wr.heap.size, p, q] q L2 w3 h (by omega) hS2.out.rng
        rw [hS2.out.top] at htb
        have htb := Lib.hid htb
        obtain ⟨b0, hb0⟩ : ∃ b0, wr.heap.size = b0 := ⟨_, rfl⟩
        have hlt0 : p < b0 ∧ q < b0 := by omega
        have C0 := Lib.hid (show (wr.alloc (.cells #[.int .i64 xs, .string xv] 39)).drew.cell? ⟨b0, 0, none⟩ = some (.int .i64 xs) by rw [← hb0]; simp only [World.cell?]; rw [show (wr.alloc (.cells #[.int .i64 xs, .string xv] 39)).drew.heap = (wr.alloc (.cells #[.int .i64 xs, .string xv] 39)).heap from rfl, hB0.out]; rfl)
        have C1 := Lib.hid (show (wr.alloc (.cells #[.int .i64 xs, .string xv] 39)).drew.cell? ⟨b0, 1, none⟩ = some (.string xv) by rw [← hb0]; simp only [World.cell?]; rw [show (wr.alloc (.cells #[.int .i64 xs, .string xv] 39)).drew.heap = (wr.alloc (.cells #[.int .i64 xs, .string xv] 39)).heap from rfl, hB0.out]; rfl)
        have hwsz := hU.out.size
        go_wp2_with fail
        rw [hb0] at hRa hlr hpb htb
        have hLd := Lib.hid (hLa.out.keep (Upd.refl NoB _).drew (fun h => h))
        have hRd := Lib.hid (hRa.out.keep (Upd.refl NoB _).drew (fun h => h) (fun b hb => hb.elim))
        have hUd := Lib.hid (hUa.out.drew)
        have hszd : b0 < (wr.alloc (.cells #[.int .i64 xs, .string xv] 39)).drew.heap.size := by rw [← hb0]; exact hsz0
        clear hsz0 hB0 hLa hRa hUa hb0
        refine sched_begin (fun b => b ≠ b0) (by kernel_rfl) ?_
        generalize (wr.alloc (.cells #[.int .i64 xs, .string xv] 39)).drew = wa at *
        refine sched_take 0 rfl (by kernel_rfl) (by kernel_rfl) (by kernel_rfl) (fun _ _ _ h => h) rfl (fun x hx => by go_simp; rfl) ?_
        go_simp
        refine sched_take 1 rfl (by kernel_rfl) (by kernel_rfl) (by kernel_rfl) (fun _ _ _ h => h) rfl (fun x hx => by go_simp; rfl) ?_
        go_simp
        refine sched_take 2 rfl (by kernel_rfl) (by kernel_rfl) (by kernel_rfl) (fun _ _ _ h => h) rfl (fun x hx => by have hcx := hx.cell C0.out (fun h => h rfl); go_simp; rfl) ?_
        go_simp
        refine sched_take 3 rfl (by kernel_rfl) (by kernel_rfl) (by kernel_rfl) (fun _ _ _ h => h) rfl (fun x hx => by go_simp; rfl) ?_
        go_simp
        refine sched_take 4 rfl (by kernel_rfl) (by kernel_rfl) (by kernel_rfl) (fun _ _ _ h => h) rfl (fun x hx => by have hcx := hx.cell C1.out (fun h => h rfl); go_simp; rfl) ?_
        go_simp
        refine sched_take 6 rfl (by kernel_rfl) (by kernel_rfl) (by kernel_rfl) (fun _ _ _ h => h) rfl (fun x hx => by go_simp; rfl) ?_
        go_simp
        refine sched_take 7 rfl (by kernel_rfl) (by kernel_rfl) (by kernel_rfl) (fun _ _ _ h => h) rfl (fun x hx => by go_simp; rfl) ?_
        go_simp
        refine sched_take 8 rfl (by kernel_rfl) (by kernel_rfl) (by kernel_rfl) (fun _ _ _ h => h) rfl (fun x hx => by have hcx := hx.cell C0.out (fun h => h rfl); go_simp; rfl) ?_
        go_simp
        refine sched_take 9 rfl (by kernel_rfl) (by kernel_rfl) (by kernel_rfl) (fun _ _ _ h => h) rfl (fun x hx => by go_simp; rfl) ?_
        go_simp
        refine sched_take 10 rfl (by kernel_rfl) (by kernel_rfl) (by kernel_rfl) (fun _ _ _ h => h) rfl (fun x hx => by have hcx := hx.cell C1.out (fun h => h rfl); go_simp; rfl) ?_
        go_simp
        refine sched_alone 5 (by kernel_rfl) rfl rfl ?_
        go_simp
        refine (hla.out _ hLd.out).mono ?_
        rintro e w3 ⟨rfl, hl, hu⟩
        refine ⟨hu.mono (fun b _ e => by omega), ?_⟩
        have hL3 := Lib.hid hl
        have hR3 := Lib.hid (hRd.out.keep hu (by omega) (fun b hb => .inl (by rw [show b = p from hb]; simp)))
        have hU3 := Lib.hid (hUd.out.then hu (fun i hi e => by omega))
        have hz3 := hu.size
        clear hl hu
        go_simp
        refine sched_alone 11 (by kernel_rfl) rfl rfl ?_
        go_simp
        refine (hlr.out _ hR3.out (by intro x hx; simp at hx; omega) (by omega)).mono ?_
        rintro e w4 ⟨rfl, hr, hu⟩
        have hnF : ∀ b, (b = q ∨ New w w3 [b0, p, q] b) → b ≠ b0 ∧ b ≠ p ∧ w.heap.size ≤ b := by
          intro b e
          rcases e with e | e
          · omega
          · exact ⟨fun h => e.2.2 (by rw [h]; simp), fun h => e.2.2 (by rw [h]; simp), e.1⟩
        refine ⟨hu.mono (fun b _ e => (hnF b e).1), ?_⟩
        have hL4 := Lib.hid (hL3.out.keep hu (fun e => (hnF p e).2.1 rfl))
        have hR4 := Lib.hid hr
        have hU4 := Lib.hid (hU3.out.then hu (fun i hi e => by have := (hnF i e).2.2; omega))
        clear hnF
        clear hr hu
        go_simp
        refine sched_take 12 rfl (by kernel_rfl) (by kernel_rfl) (by kernel_rfl) (fun _ _ _ h => h) rfl (fun x hx => by go_simp; rfl) ?_
        go_simp
        refine sched_take 13 rfl (by kernel_rfl) (by kernel_rfl) (by kernel_rfl) (fun _ _ _ h => h) rfl (fun x hx => by go_simp; rfl) ?_
        go_simp
        refine sched_take 14 rfl (by kernel_rfl) (by kernel_rfl) (by kernel_rfl) (fun _ _ _ h => h) rfl (fun x hx => by go_simp; rfl) ?_
        go_simp
        refine sched_take 16 rfl (by kernel_rfl) (by kernel_rfl) (by kernel_rfl) (fun _ _ _ h => h) rfl (fun x hx => by go_simp; rfl) ?_
        go_simp
        refine sched_alone 15 (by kernel_rfl) rfl rfl ?_
        go_simp
        refine (hpa.out _ hL4.out).mono ?_
        rintro e w5 ⟨rfl, rfl⟩
        refine ⟨Upd.refl _ _, ?_⟩
        go_simp
        refine sched_alone 17 (by kernel_rfl) rfl rfl ?_
        go_simp
        refine (hpb.out _ hR4.out).mono ?_
        rintro e w5 ⟨rfl, hu⟩
        refine ⟨hu.mono (fun _ _ h => h.elim), ?_⟩
        have hL5 := Lib.hid (hL4.out.keep hu (fun h => h))
        have hR5 := Lib.hid (hR4.out.keep hu (fun h => h) (fun b hb => hb.elim))
        have hU5 := Lib.hid (hU4.out.trans hu)
        clear hu
        go_simp
        refine sched_take 18 rfl (by kernel_rfl) (by kernel_rfl) (by kernel_rfl) (fun _ _ _ h => h) rfl (fun x hx => by go_simp; rfl) ?_
        go_simp
        refine sched_take 19 rfl (by kernel_rfl) (by kernel_rfl) (by kernel_rfl) (fun _ _ _ h => h) rfl (fun x hx => by go_simp; rfl) ?_
        go_simp
        refine sched_take 20 rfl (by kernel_rfl) (by kernel_rfl) (by kernel_rfl) (fun _ _ _ h => h) rfl (fun x hx => by go_simp; rfl) ?_
        go_simp
        refine sched_take 21 rfl (by kernel_rfl) (by kernel_rfl) (by kernel_rfl) (fun _ _ _ h => h) rfl (fun x hx => by go_simp; rfl) ?_
        go_simp
        refine sched_take 23 rfl (by kernel_rfl) (by kernel_rfl) (by kernel_rfl) (fun _ _ _ h => h) rfl (fun x hx => by go_simp; rfl) ?_
        go_simp
        refine sched_alone 22 (by kernel_rfl) rfl rfl ?_
        go_simp
        refine (hta.out _ hL5.out).mono ?_
        rintro e w6 ⟨rfl, rfl⟩
        refine ⟨Upd.refl _ _, ?_⟩
        go_simp
        refine sched_alone 24 (by kernel_rfl) rfl rfl ?_
        go_simp
        refine (htb.out _ hR5.out).mono ?_
        rintro e w6 ⟨rfl, hu⟩
        refine ⟨hu.mono (fun _ _ h => h.elim), ?_⟩
        have hL6 := Lib.hid (hL5.out.keep hu (fun h => h))
        have hR6 := Lib.hid ((hR5.out.keep hu (fun h => h) (fun b hb => hb.elim)).back)
        have hU6 := Lib.hid (hU5.out.trans hu)
        clear hu
        go_simp
        refine sched_take 25 rfl (by kernel_rfl) (by kernel_rfl) (by kernel_rfl) (fun _ _ _ h => h) rfl (fun x hx => by go_simp; rfl) ?_
        go_simp
        refine sched_take 26 rfl (by kernel_rfl) (by kernel_rfl) (by kernel_rfl) (fun _ _ _ h => h) rfl (fun x hx => by go_simp; rfl) ?_
        go_simp
        refine sched_done (by kernel_rfl) ?_
        go_wp2_with fail
        go_roundw
        case measure => simp [intOf]; omega
        case rel => exact ⟨k + 1, by omega, by go_num, m2, L2, by omega, by omega, hL6, hok2, hR6, hS2, hU6⟩
    · obtain rfl : k = l.length := by omega
      have hva := Lib.hid (fun w1 (hu : Upd NoB w w1 ∧ Lrn w1 p m) => val_any p m slot w1 hu.2)
      have hvr := Lib.hid (fun w1 (h : RLn w w1 [p, q] q L) => refval_any w [p, q] q L slot w1 h (by omega))
      have hfa := Lib.hid (fun w1 (h : Lrn w1 p m) => from_any p m slot most w1 h hok.out)
      have hfr := fun w1 (h : RLn w w1 [p, q] q L) => reffrom_any w [p, q] q L slot most m.pre w1 h (by omega) (same_pre hS.out hok.out) hok.out.1 (same_size hS.out hok.out)
      rw [same_frm hS.out hok.out] at hfr
      have hfr := Lib.hid hfr
      have hvr := hvr.out
      rw [hS.out.val slot] at hvr
      have hvr := Lib.hid hvr
      generalize (m.val slot).getD ⟨#[]⟩ = y at *
      generalize (m.val slot).isSome = B at *
      generalize m.frm slot most = FR at *
      go_wp2_with fail
      refine (hva.out _ ⟨hU.out, hL.out⟩).mono ?_
      rintro e w2 ⟨rfl, hu⟩
      have hL2 := Lib.hid (hL.out.keep hu (fun h => h))
      have hR2 := Lib.hid (hR.out.keep hu (fun h => h) (fun b hb => hb.elim))
      have hU2 := Lib.hid (hU.out.trans hu)
      clear hu
      go_wp2_with fail
      refine (hvr.out _ hR2.out).mono ?_
      rintro e w3 ⟨rfl, hu⟩
      have hL3 := Lib.hid (hL2.out.keep hu (fun h => h))
      have hR3 := Lib.hid (hR2.out.keep hu (fun h => h) (fun b hb => hb.elim))
      have hU3 := Lib.hid (hU2.out.trans hu)
      clear hu
      go_wp2_with fail
      refine (hfa.out _ hL3.out).mono ?_
      rintro e w4 ⟨v1, rfl, hM1⟩
      have hM1 := Lib.hid hM1
      have hR4 := Lib.hid (hR3.out.keep hM1.out.2 (fun h => h) (fun b hb => hb.elim))
      have hU4 := Lib.hid (hU3.out.trans hM1.out.2)
      go_wp2_with fail
      refine (hfr.out _ hR4.out).mono ?_
      rintro e w5 ⟨v2, rfl, hM2⟩
      have hM2 := Lib.hid hM2
      have hU5 := Lib.hid (hU4.out.trans hM2.out.2)
      have hk := keysEq_any v1 v2 _ _ w5 (hM1.out.upd hM2.out.2).1.read hM2.out.1.read
      rw [decide_eq_true rfl] at hk
      have HK := Lib.hid hk
      clear hk
      go_wp2_with fail
      refine (HK.out).mono ?_
      rintro e w6 ⟨rfl, hu⟩
      have hU6 := Lib.hid (hU5.out.trans hu)
      clear hu
      go_wp2_with fail
      refine (awakeLearn_any _).mono ?_
      rintro e w7 ⟨rfl, hu⟩
      have hU7 := Lib.hid (hU6.out.trans hu)
      clear hu
      go_wp2_with fail
      go_ret
      exact ⟨rfl, hU7.out⟩
end Go.Proofs.Ytmcpcladjfddmaa
