/- Whatever is read of any bytes is as the chapter says, till it is bad (OctetReads): the law's walk. -/
import Derived.Test.YtflifeelgamaaaaOctRef3
import Derived.Test.YtflifeelgamaaaaOctetOne
import Derived.Test.YtflifeelgamaaaaOpen
import Derived.Deep.Cut
import Derived.Deep.CutRange
import Derived.Deep.CutBlock
namespace Go.Proofs.Ytflifeelgamaaaa
open Go.RowKit Kit Oct
set_option linter.unusedVariables false

/-- An op: what it reads, and up to what. -/
def Rep.op : Rep (Int × Int) where
  sz := 2
  pos := by decide
  rep _ _ x cs := cs = [.int .i64 x.1, .int .i64 x.2] ∧ (Lit.int .i64 x.1).wf = true ∧ (Lit.int .i64 x.2).wf = true
  len h := by rw [h.1]; rfl
  one h := by rw [h.1]; intro u hu; simp at hu; rcases hu with rfl | rfl <;> rfl
  keep h _ _ := h

theorem el_op {H : Type} {enc : TypeId × Value → H} {W : World} (n : Nat) (cs : List Value) (x : DataW H × List MemPlace) (h : DataW.trod enc Try.prog W 0 (fun _ => true) true n 72 cs = some x) :
    ∃ y, Rep.op.rep W (Old W) y cs := by
  obtain ⟨xs, m, _, _, hl, hlen, hf⟩ := DataW.trod_struct Try.underlying72 h
  have hl' : cs.length = 2 := by rw [hl]; kernel_rfl
  match cs, hl' with
  | [c0, c1], _ =>
    match xs, hlen with
    | [y0, y1], _ =>
      have f0 := hf 0 _ rfl
      have f1 := hf 1 _ rfl
      obtain ⟨a, e0, _, w0⟩ := DataW.trod_int Try.underlying3 f0
      obtain ⟨b, e1, _, w1⟩ := DataW.trod_int Try.underlying3 f1
      have q1 : Try.prog.cellsOf 3 = 1 := by kernel_rfl
      refine ⟨(a, b), ?_, w0, w1⟩
      simp at e0 e1
      rw [q1] at e0
      rw [q1] at e1
      simp at e0 e1
      rw [e0, e1]

/-- Both readers lie there, and they are as far. -/
structure Two (w0 : World) (S1 : Nat → Prop) (p q : Nat) (r1 r2 : Rd) (x : World) : Prop where
  o : Rdr x S1 p r1
  f : RRdr x (Old w0) q r2
  u : Upd NoB w0 x
  hp : w0.heap.size ≤ p
  hq : p < q
  hs : ∀ b, S1 b → b < p
theorem Two.grow {w0 x y : World} {S1 : Nat → Prop} {p q : Nat} {r1 r2 : Rd} (h : Two w0 S1 p q r1 r2 x) (u : Upd NoB x y) : Two w0 S1 p q r1 r2 y :=
  ⟨h.o.keep u (fun _ _ h => h) (fun h => h), h.f.keep u (fun _ _ h => h) (fun h => h), h.u.trans u, h.hp, h.hq, h.hs⟩
theorem Two.oct {w0 x y : World} {S1 : Nat → Prop} {p q : Nat} {r1 r2 r1' : Rd} (h : Two w0 S1 p q r1 r2 x) (k : After S1 p x r1' y) : Two w0 S1 p q r1' r2 y :=
  ⟨k.1, h.f.keep k.2 (fun b hb (e : b = p) => by have := h.hp; have : b < w0.heap.size := hb; omega) (fun (e : q = p) => by have := h.hq; omega), h.u.then k.2 (fun i hi (e : i = p) => by have := h.hp; omega), h.hp, h.hq, h.hs⟩
theorem Two.ref {w0 x y : World} {S1 : Nat → Prop} {p q : Nat} {r1 r2 r2' : Rd} (h : Two w0 S1 p q r1 r2 x) (k : RAfter (Old w0) q x r2' y) : Two w0 S1 p q r1 r2' y :=
  ⟨h.o.keep k.2 (fun b hb (e : b = q) => by have := h.hq; have := h.hs b hb; omega) (fun (e : p = q) => by have := h.hq; omega), k.1, h.u.then k.2 (fun i hi (e : i = q) => by have := h.hp; have := h.hq; omega), h.hp, h.hq, h.hs⟩

/-- What the end of a round sees. -/
theorem tails {w0 x0 : World} {S1 : Nat → Prop} {p q : Nat} {r : Rd} (h : Two w0 S1 p q r r x0) : ∃ (b : Bool) (z : Int) (v : Value) (a : Nat),
    Hid (∀ x, Upd NoB x0 x → Calls Try.prog 51 #[.pointer (some ⟨p, 0, none⟩)] x fun e w' => e = .returned (.bool b) ∧ x = w') ∧
    Hid (∀ x, Upd NoB x0 x → Calls Try.prog 44 #[.pointer (some ⟨p, 0, none⟩)] x fun e w' => e = .returned (.int .i64 z) ∧ x = w') ∧
    Hid (∀ x, Upd NoB x0 x → Calls Try.prog 56 #[.pointer (some ⟨q, 0, none⟩)] x fun e w' => e = .returned (.int .i64 z) ∧ Upd NoB x w') ∧
    Hid (∀ x, Upd NoB x0 x → Calls Try.prog 41 #[.pointer (some ⟨p, 0, none⟩)] x fun e w' => e = .returned (.bool (!b && (z == 0))) ∧ x = w') ∧
    Hid (∀ x, Upd NoB x0 x → RCells x q v a b) := by
  obtain ⟨B, a, v, hh, _⟩ := id h.f
  refine ⟨r.bad, if r.bad then 0 else (r.bs.length : Int), v, a, Lib.hid (fun x hx => bad_any p r x (h.grow hx).o), Lib.hid (fun x hx => left_any p r x (h.grow hx).o), Lib.hid (fun x hx => rleft_any q r x (h.grow hx).f), Lib.hid (fun x hx => (done_any p r x (h.grow hx).o).mono ?_), Lib.hid (fun x hx => RCells.of (hx.heap hh (fun h => h)))⟩
  rintro e w' ⟨rfl, rfl⟩
  refine ⟨?_, rfl⟩
  congr 2
  cases r.bad with
  | true => rfl
  | false =>
    by_cases hl : r.bs.length = 0
    · rw [hl]; rfl
    · simp [hl]

set_option maxHeartbeats 8000000 in
set_option maxRecDepth 100000 in
theorem octetReads_walk (v : Value) (l : List UInt8) (v1 : Value) (ops : List (Int × Int)) (w : World) (h : RSl Rep.byte w (Old w) v l) (h1 : RSl Rep.op w (Old w) v1 ops) :
    Calls Try.prog 13 #[v, v1] w fun e w' => e = .returned (.bool true) ∧ Upd NoB w w' := by
  have hf := Lib.hid (few_any v l w h)
  have HO := Lib.hid h1
  obtain ⟨A, c, cs, rfl, d1, d2, d3, d4, d5⟩ := h1
  have d2' : c ≤ 9223372036854775807 := d2
  clear h
  go_enter Try.func13, Try.ntmps13
  go_wp2_with fail
  refine hf.out.mono ?_
  rintro e w' ⟨v', rfl, hB, rfl⟩
  have hl : (l.take 200).length ≤ 200 := by rw [List.length_take]; omega
  generalize l.take 200 = B at *
  obtain ⟨A', c', cs', rfl, _⟩ := id hB
  generalize hv' : Value.slice A' B.length c' = v' at hB
  have hn := Lib.hid (new_any v' B w hB (by omega))
  have HB := Lib.hid hB
  subst hv'
  clear hB hf
  go_wp2_with fail
  refine hn.out.mono ?_
  rintro e w1 ⟨p, rfl, hp, hp1, hr, hu⟩
  have t0 : Two w (fun b => w.heap.size ≤ b ∧ b < p) p w1.heap.size ⟨B, false⟩ ⟨B, false⟩ (w1.alloc (.cells #[(.slice A' B.length c'), .int .i64 0, .bool false] 70)) := by
    have ua : Upd NoB w1 (w1.alloc (.cells #[(.slice A' B.length c'), .int .i64 0, .bool false] 70)) := (Upd.refl NoB w1).alloc _
    exact ⟨hr.keep ua (fun _ _ h => h) (fun h => h), ⟨B, 0, _, heap_alloc_new _ _, HB.out.upd (hu.trans ua) (fun _ _ h => h), fun h => by have : w1.heap.size < w.heap.size := h; omega, by omega, by omega, rfl⟩, hu.trans ua, hp, hp1, fun b hb => hb.2⟩
  generalize hS : (fun b => w.heap.size ≤ b ∧ b < p) = S1 at *
  have T0 := Lib.hid t0
  clear t0 hr hu hS
  go_wp2_with fail
  generalize w1.alloc (.cells #[.slice A' B.length c', .int .i64 0, .bool false] 70) = wa at *
  generalize w1.heap.size = q at *
  clear hn HB
  have hend : ∀ i : Nat, i ≤ ops.length → True := fun _ _ => trivial
  go_loopw [19] (fun v19 wr => ∃ (i : Nat) (r : Rd), v19 = .int .i64 i ∧ i ≤ ops.length ∧ Hid (Two w S1 p q r r wr)) (fun v19 _ => ops.length - (intOf v19).toNat)
  case atStart => exact ⟨0, _, rfl, by omega, T0.out⟩
  case round =>
    obtain ⟨i, r, rfl, hi, hT⟩ := hrel
    by_cases hlt : i < ops.length
    · have hx : ops[i]? = some ops[i] := List.getElem?_eq_getElem hlt
      generalize ops[i] = op at hx
      obtain ⟨kd, n⟩ := op
      cases A with
      | none => have := d4 rfl; omega
      | some a =>
        obtain ⟨f1, f2, f3⟩ := d5 a rfl
        obtain ⟨g, o, sp⟩ := a
        simp only at f1 f2 f3
        subst f1
        obtain ⟨cc, ⟨rfl, n1, n2⟩, hcc⟩ := d3.at_ i _ hx
        have c0 := hT.out.u.cell (f3 _ _ (hcc 0 _ rfl)) (fun h => h)
        have c1 := hT.out.u.cell (f3 _ _ (hcc 1 _ rfl)) (fun h => h)
        have z1 : o + (i * Rep.op.sz + 0) = o + i * 2 := by simp [Rep.op]
        have z2 : o + (i * Rep.op.sz + 1) = o + i * 2 + 1 := by simp [Rep.op]; omega
        rw [z1] at c0
        rw [z2] at c1
        simp only at c0 c1 n1 n2
        by_cases q30 : 30 ≤ (i : Int)
        · go_wp2_with fail
          refine (awake_any _).mono ?_
          rintro e w9 ⟨rfl, hu9⟩
          have HU9 := Lib.hid ((hT.out.u.alloc (.cells #[.int .i64 kd, .int .i64 n] 72)).trans hu9)
          clear hu9
          go_wp2_with fail
          go_ret
          exact ⟨rfl, HU9.out⟩
        · have tb := hT.out.grow ((Upd.refl NoB wr).alloc (.cells #[.int .i64 kd, .int .i64 n] 72))
          have TB := Lib.hid tb
          have hpl : p < wr.heap.size := by obtain ⟨_, hh, _⟩ := hT.out.o; exact lt_of_heap hh
          have hql : q < wr.heap.size := by obtain ⟨_, _, _, hh, _⟩ := hT.out.f; exact lt_of_heap hh
          have CN := Lib.hid (show ∀ x, Upd (fun b => b = p ∨ b = q) (wr.alloc (.cells #[.int .i64 kd, .int .i64 n] 72)).drew x → x.cell? ⟨wr.heap.size, 1, none⟩ = some (.int .i64 n) from fun x hx => by
            have h0 := hx.heap (w := (wr.alloc (.cells #[.int .i64 kd, .int .i64 n] 72)).drew) (heap_alloc_new wr (.cells #[.int .i64 kd, .int .i64 n] 72)) (by omega)
            simp [World.cell?, h0])
          clear tb hpl hql
          go_upto_block 2 with fail
          go_cut [9, 19] from 20 to 97 (fun v9 v19 wc => v9 = .bool true ∧ v19 = .int .i64 i ∧ ∃ r', Hid (Two w S1 p q r' r' wc))
          case first =>
            by_cases k0 : kd = 0
            · subst k0
              have hn := n_any p r _ TB.out.o
              have hr := fun x h => rn_any (S := Old w) q r x h
              generalize r.most (2 ^ 64 - 1) = mq at hn hr
              obtain ⟨m1, r'⟩ := mq
              have HN := Lib.hid hn
              have HR0 := Lib.hid hr
              clear hn hr
              go_wp2_with fail
              refine HN.out.mono ?_
              rintro e w2 ⟨rfl, ha⟩
              have T1 := Lib.hid (TB.out.oct ha)
              clear ha HN
              go_wp2_with fail
              refine (HR0.out w2 T1.out.f).mono ?_
              rintro e w3 ⟨rfl, ha⟩
              have T2 := Lib.hid (T1.out.ref ha)
              clear ha HR0 CN TB T1
              go_wp2_with fail
              go_meet
              exact ⟨rfl, rfl, _, T2⟩
            · have k0' : (kd == 0) = false := by simpa using k0
              by_cases k1 : kd = 1
              · subst k1
                have hn := fun x h => int_any (S := S1) p n r x h n2
                have hr := fun x h => rint_any (S := Old w) q n r x h n2
                generalize r.int n = mq at hn hr
                obtain ⟨m1, r'⟩ := mq
                have HN := Lib.hid hn
                have HR0 := Lib.hid hr
                clear hn hr
                go_wp2_with fail
                refine sched_begin (fun b => b = p ∨ b = q) (by kernel_rfl) ?_
                refine sched_take 0 rfl (by kernel_rfl) (by kernel_rfl) (by kernel_rfl) (fun _ _ _ h => h) rfl (fun x hx => by go_simp; rfl) ?_
                go_simp
                refine sched_take 1 rfl (by kernel_rfl) (by kernel_rfl) (by kernel_rfl) (fun _ _ _ h => h) rfl (fun x hx => by go_simp; rfl) ?_
                go_simp
                refine sched_take 2 rfl (by kernel_rfl) (by kernel_rfl) (by kernel_rfl) (fun _ _ _ h => h) rfl (fun x hx => by have cn := CN.out x hx; go_simp; rfl) ?_
                go_simp
                refine sched_take 4 rfl (by kernel_rfl) (by kernel_rfl) (by kernel_rfl) (fun _ _ _ h => h) rfl (fun x hx => by go_simp; rfl) ?_
                go_simp
                refine sched_take 5 rfl (by kernel_rfl) (by kernel_rfl) (by kernel_rfl) (fun _ _ _ h => h) rfl (fun x hx => by go_simp; rfl) ?_
                go_simp
                refine sched_take 6 rfl (by kernel_rfl) (by kernel_rfl) (by kernel_rfl) (fun _ _ _ h => h) rfl (fun x hx => by have cn := CN.out x hx; go_simp; rfl) ?_
                go_simp
                refine sched_alone 3 (by kernel_rfl) rfl rfl ?_
                go_simp
                refine (HN.out _ (TB.out.grow ((Upd.refl NoB _).drew)).o).mono ?_
                rintro e w2 ⟨rfl, ha⟩
                refine ⟨ha.2.mono (fun _ _ e => .inl e), ?_⟩
                have T1 := Lib.hid ((TB.out.grow ((Upd.refl NoB _).drew)).oct ha)
                clear ha
                go_simp
                refine sched_alone 7 (by kernel_rfl) rfl rfl ?_
                go_simp
                refine (HR0.out w2 T1.out.f).mono ?_
                rintro e w3 ⟨rfl, ha⟩
                refine ⟨ha.2.mono (fun _ _ e => .inr e), ?_⟩
                have T2 := Lib.hid (T1.out.ref ha)
                clear ha
                go_simp
                refine sched_take 8 rfl (by kernel_rfl) (by kernel_rfl) (by kernel_rfl) (fun _ _ _ h => h) rfl (fun x hx => by go_simp; rfl) ?_
                go_simp
                refine sched_take 9 rfl (by kernel_rfl) (by kernel_rfl) (by kernel_rfl) (fun _ _ _ h => h) rfl (fun x hx => by go_simp; rfl) ?_
                go_simp
                refine sched_done (by kernel_rfl) ?_
                clear HR0 HN CN TB T1
                go_wp2_with fail
                go_meet
                exact ⟨rfl, rfl, _, T2⟩
              · have k1' : (kd == 1) = false := by simpa using k1
                by_cases k2 : kd = 2
                · subst k2
                  have hn := fun x h => text_any (S := S1) p n r x h n2
                  have hr := fun x h => rtext_any (S := Old w) q n r x h n2
                  generalize r.text n = mq at hn hr
                  obtain ⟨m1, r'⟩ := mq
                  have HN := Lib.hid hn
                  have HR0 := Lib.hid hr
                  clear hn hr
                  go_wp2_with fail
                  refine sched_begin (fun b => b = p ∨ b = q) (by kernel_rfl) ?_
                  refine sched_take 0 rfl (by kernel_rfl) (by kernel_rfl) (by kernel_rfl) (fun _ _ _ h => h) rfl (fun x hx => by go_simp; rfl) ?_
                  go_simp
                  refine sched_take 1 rfl (by kernel_rfl) (by kernel_rfl) (by kernel_rfl) (fun _ _ _ h => h) rfl (fun x hx => by go_simp; rfl) ?_
                  go_simp
                  refine sched_take 2 rfl (by kernel_rfl) (by kernel_rfl) (by kernel_rfl) (fun _ _ _ h => h) rfl (fun x hx => by have cn := CN.out x hx; go_simp; rfl) ?_
                  go_simp
                  refine sched_take 4 rfl (by kernel_rfl) (by kernel_rfl) (by kernel_rfl) (fun _ _ _ h => h) rfl (fun x hx => by go_simp; rfl) ?_
                  go_simp
                  refine sched_take 5 rfl (by kernel_rfl) (by kernel_rfl) (by kernel_rfl) (fun _ _ _ h => h) rfl (fun x hx => by go_simp; rfl) ?_
                  go_simp
                  refine sched_take 6 rfl (by kernel_rfl) (by kernel_rfl) (by kernel_rfl) (fun _ _ _ h => h) rfl (fun x hx => by have cn := CN.out x hx; go_simp; rfl) ?_
                  go_simp
                  refine sched_alone 3 (by kernel_rfl) rfl rfl ?_
                  go_simp
                  refine (HN.out _ (TB.out.grow ((Upd.refl NoB _).drew)).o).mono ?_
                  rintro e w2 ⟨rfl, ha⟩
                  refine ⟨ha.2.mono (fun _ _ e => .inl e), ?_⟩
                  have T1 := Lib.hid ((TB.out.grow ((Upd.refl NoB _).drew)).oct ha)
                  clear ha
                  go_simp
                  refine sched_alone 7 (by kernel_rfl) rfl rfl ?_
                  go_simp
                  refine (HR0.out w2 T1.out.f).mono ?_
                  rintro e w3 ⟨rfl, ha⟩
                  refine ⟨ha.2.mono (fun _ _ e => .inr e), ?_⟩
                  have T2 := Lib.hid (T1.out.ref ha)
                  clear ha
                  go_simp
                  refine sched_take 8 rfl (by kernel_rfl) (by kernel_rfl) (by kernel_rfl) (fun _ _ _ h => h) rfl (fun x hx => by go_simp; rfl) ?_
                  go_simp
                  refine sched_take 9 rfl (by kernel_rfl) (by kernel_rfl) (by kernel_rfl) (fun _ _ _ h => h) rfl (fun x hx => by go_simp; rfl) ?_
                  go_simp
                  refine sched_done (by kernel_rfl) ?_
                  clear HR0 HN CN TB T1
                  go_wp2_with fail
                  go_meet
                  exact ⟨rfl, rfl, _, T2⟩
                · have k2' : (kd == 2) = false := by simpa using k2
                  by_cases k3 : kd = 3
                  · subst k3
                    have hn := flag_any p r _ TB.out.o
                    have hr := fun x h => rflag_any (S := Old w) q r x h
                    generalize r.most 1 = mq at hn hr
                    obtain ⟨m1, r'⟩ := mq
                    have HN := Lib.hid hn
                    have HR0 := Lib.hid hr
                    clear hn hr
                    go_wp2_with fail
                    refine HN.out.mono ?_
                    rintro e w2 ⟨rfl, ha⟩
                    have T1 := Lib.hid (TB.out.oct ha)
                    clear ha HN
                    go_wp2_with fail
                    refine (HR0.out w2 T1.out.f).mono ?_
                    rintro e w3 ⟨rfl, ha⟩
                    have T2 := Lib.hid (T1.out.ref ha)
                    clear ha HR0 CN TB T1
                    go_wp2_with fail
                    go_meet
                    exact ⟨rfl, rfl, _, T2⟩
                  · have k3' : (kd == 3) = false := by simpa using k3
                    obtain ⟨w3, hw3⟩ : ∃ w3, w3 = wr.alloc (.cells #[.int .i64 kd, .int .i64 n] 72) := ⟨_, rfl⟩
                    obtain ⟨r', rfl⟩ : ∃ r', r' = r := ⟨_, rfl⟩
                    have T2 := Lib.hid (show Two w S1 p q r' r' w3 by rw [hw3]; exact TB.out)
                    clear CN TB
                    subst hw3
                    go_wp2_with fail
                    go_meet
                    exact ⟨rfl, rfl, _, T2⟩
          case rest =>
            obtain ⟨rfl, rfl, r', T2⟩ := hcut
            clear CN TB
            obtain ⟨b, z, v3, a3, LB, LL, LR, LD, LC⟩ := tails (T2.out.grow ((Upd.refl NoB _).drew))
            go_wp2_with fail
            cases b with
            | true =>
              refine sched_begin NoB (by kernel_rfl) ?_
              refine sched_take 0 rfl (by kernel_rfl) (by kernel_rfl) (by kernel_rfl) (fun _ _ _ h => h) rfl (fun x hx => by go_simp; rfl) ?_
              go_simp
              refine sched_take 1 rfl (by kernel_rfl) (by kernel_rfl) (by kernel_rfl) (fun _ _ _ h => h) rfl (fun x hx => by go_simp; rfl) ?_
              go_simp
              refine sched_take 2 rfl (by kernel_rfl) (by kernel_rfl) (by kernel_rfl) (fun _ _ _ h => h) rfl (fun x hx => by go_simp; rfl) ?_
              go_simp
              refine sched_take 3 rfl (by kernel_rfl) (by kernel_rfl) (by kernel_rfl) (fun _ _ _ h => h) rfl (fun x hx => by go_simp; rfl) ?_
              go_simp
              refine sched_take 5 rfl (by kernel_rfl) (by kernel_rfl) (by kernel_rfl) (fun _ _ _ h => h) rfl (fun x hx => by go_simp; rfl) ?_
              go_simp
              refine sched_take 6 rfl (by kernel_rfl) (by kernel_rfl) (by kernel_rfl) (fun _ _ _ h => h) rfl (fun x hx => by go_simp; rfl) ?_
              go_simp
              refine sched_take 7 rfl (by kernel_rfl) (by kernel_rfl) (by kernel_rfl) (fun _ _ _ h => h) rfl (fun x hx => by go_simp; rfl) ?_
              go_simp
              refine sched_take 8 rfl (by kernel_rfl) (by kernel_rfl) (by kernel_rfl) (fun _ _ _ h => h) rfl (fun x hx => by obtain ⟨j0, j1, j2, j3, j4⟩ := LC.out x hx; go_simp; rfl) ?_
              go_simp
              refine sched_alone 4 (by kernel_rfl) rfl rfl ?_
              go_simp
              refine (LB.out _ (Upd.refl _ _)).mono ?_
              rintro e w4 ⟨rfl, rfl⟩
              refine ⟨Upd.refl _ _, ?_⟩
              go_simp
              refine sched_take 9 rfl (by kernel_rfl) (by kernel_rfl) (by kernel_rfl) (fun _ _ _ h => h) rfl (fun x hx => by go_simp; rfl) ?_
              go_simp
              refine sched_take 10 rfl (by kernel_rfl) (by kernel_rfl) (by kernel_rfl) (fun _ _ _ h => h) rfl (fun x hx => by go_simp; rfl) ?_
              go_simp
              refine sched_take 11 rfl (by kernel_rfl) (by kernel_rfl) (by kernel_rfl) (fun _ _ _ h => h) rfl (fun x hx => by go_simp; rfl) ?_
              go_simp
              refine sched_take 12 rfl (by kernel_rfl) (by kernel_rfl) (by kernel_rfl) (fun _ _ _ h => h) rfl (fun x hx => by go_simp; rfl) ?_
              go_simp
              refine sched_take 14 rfl (by kernel_rfl) (by kernel_rfl) (by kernel_rfl) (fun _ _ _ h => h) rfl (fun x hx => by go_simp; rfl) ?_
              go_simp
              refine sched_alone 13 (by kernel_rfl) rfl rfl ?_
              go_simp
              refine (LL.out _ (Upd.refl _ _)).mono ?_
              rintro e w4 ⟨rfl, rfl⟩
              refine ⟨Upd.refl _ _, ?_⟩
              go_simp
              refine sched_alone 15 (by kernel_rfl) rfl rfl ?_
              go_simp
              refine (LR.out _ (Upd.refl _ _)).mono ?_
              rintro e w4 ⟨rfl, hu⟩
              refine ⟨hu, ?_⟩
              have HU := Lib.hid hu
              clear hu
              go_simp
              refine sched_take 16 rfl (by kernel_rfl) (by kernel_rfl) (by kernel_rfl) (fun _ _ _ h => h) rfl (fun x hx => by go_simp; rfl) ?_
              go_simp
              refine sched_take 17 rfl (by kernel_rfl) (by kernel_rfl) (by kernel_rfl) (fun _ _ _ h => h) rfl (fun x hx => by go_simp; rfl) ?_
              go_simp
              refine sched_take 18 rfl (by kernel_rfl) (by kernel_rfl) (by kernel_rfl) (fun _ _ _ h => h) rfl (fun x hx => by go_simp; rfl) ?_
              go_simp
              refine sched_take 19 rfl (by kernel_rfl) (by kernel_rfl) (by kernel_rfl) (fun _ _ _ h => h) rfl (fun x hx => by go_simp; rfl) ?_
              go_simp
              refine sched_take 21 rfl (by kernel_rfl) (by kernel_rfl) (by kernel_rfl) (fun _ _ _ h => h) rfl (fun x hx => by go_simp; rfl) ?_
              go_simp
              refine sched_take 22 rfl (by kernel_rfl) (by kernel_rfl) (by kernel_rfl) (fun _ _ _ h => h) rfl (fun x hx => by go_simp; rfl) ?_
              go_simp
              refine sched_take 23 rfl (by kernel_rfl) (by kernel_rfl) (by kernel_rfl) (fun _ _ _ h => h) rfl (fun x hx => by go_simp; rfl) ?_
              go_simp
              refine sched_take 24 rfl (by kernel_rfl) (by kernel_rfl) (by kernel_rfl) (fun _ _ _ h => h) rfl (fun x hx => by obtain ⟨j0, j1, j2, j3, j4⟩ := LC.out x (HU.out.trans hx); go_simp; rfl) ?_
              go_simp
              refine sched_take 25 rfl (by kernel_rfl) (by kernel_rfl) (by kernel_rfl) (fun _ _ _ h => h) rfl (fun x hx => by go_simp; rfl) ?_
              go_simp
              refine sched_alone 20 (by kernel_rfl) rfl rfl ?_
              go_simp
              refine (LD.out _ HU.out).mono ?_
              rintro e w5 ⟨rfl, rfl⟩
              refine ⟨Upd.refl _ _, ?_⟩
              go_simp
              refine sched_take 26 rfl (by kernel_rfl) (by kernel_rfl) (by kernel_rfl) (fun _ _ _ h => h) rfl (fun x hx => by go_simp; rfl) ?_
              go_simp
              refine sched_skip 27 rfl (by kernel_rfl) (by kernel_rfl) (by kernel_rfl) (fun _ _ _ h => h) rfl ?_
              go_simp
              refine sched_skip 28 rfl (by kernel_rfl) (by kernel_rfl) (by kernel_rfl) (fun _ _ _ h => h) rfl ?_
              go_simp
              refine sched_skip 29 rfl (by kernel_rfl) (by kernel_rfl) (by kernel_rfl) (fun _ _ _ h => h) rfl ?_
              go_simp
              refine sched_take 30 rfl (by kernel_rfl) (by kernel_rfl) (by kernel_rfl) (fun _ _ _ h => h) rfl (fun x hx => by go_simp; rfl) ?_
              go_simp
              refine sched_take 31 rfl (by kernel_rfl) (by kernel_rfl) (by kernel_rfl) (fun _ _ _ h => h) rfl (fun x hx => by go_simp; rfl) ?_
              go_simp
              refine sched_take 32 rfl (by kernel_rfl) (by kernel_rfl) (by kernel_rfl) (fun _ _ _ h => h) rfl (fun x hx => by go_simp; rfl) ?_
              go_simp
              refine sched_done (by kernel_rfl) ?_
              have T4 := Lib.hid ((T2.out.grow ((Upd.refl NoB _).drew)).grow HU.out)
              clear LB LL LR LD LC HU T2
              go_wp2_with fail
              go_roundw
              case rel => exact ⟨i + 1, r', by go_num, by omega, T4.out⟩
              case measure => simp [intOf]; omega
            | false =>
              refine sched_begin NoB (by kernel_rfl) ?_
              refine sched_take 0 rfl (by kernel_rfl) (by kernel_rfl) (by kernel_rfl) (fun _ _ _ h => h) rfl (fun x hx => by go_simp; rfl) ?_
              go_simp
              refine sched_take 1 rfl (by kernel_rfl) (by kernel_rfl) (by kernel_rfl) (fun _ _ _ h => h) rfl (fun x hx => by go_simp; rfl) ?_
              go_simp
              refine sched_take 2 rfl (by kernel_rfl) (by kernel_rfl) (by kernel_rfl) (fun _ _ _ h => h) rfl (fun x hx => by go_simp; rfl) ?_
              go_simp
              refine sched_take 3 rfl (by kernel_rfl) (by kernel_rfl) (by kernel_rfl) (fun _ _ _ h => h) rfl (fun x hx => by go_simp; rfl) ?_
              go_simp
              refine sched_take 5 rfl (by kernel_rfl) (by kernel_rfl) (by kernel_rfl) (fun _ _ _ h => h) rfl (fun x hx => by go_simp; rfl) ?_
              go_simp
              refine sched_take 6 rfl (by kernel_rfl) (by kernel_rfl) (by kernel_rfl) (fun _ _ _ h => h) rfl (fun x hx => by go_simp; rfl) ?_
              go_simp
              refine sched_take 7 rfl (by kernel_rfl) (by kernel_rfl) (by kernel_rfl) (fun _ _ _ h => h) rfl (fun x hx => by go_simp; rfl) ?_
              go_simp
              refine sched_take 8 rfl (by kernel_rfl) (by kernel_rfl) (by kernel_rfl) (fun _ _ _ h => h) rfl (fun x hx => by obtain ⟨j0, j1, j2, j3, j4⟩ := LC.out x hx; go_simp; rfl) ?_
              go_simp
              refine sched_alone 4 (by kernel_rfl) rfl rfl ?_
              go_simp
              refine (LB.out _ (Upd.refl _ _)).mono ?_
              rintro e w4 ⟨rfl, rfl⟩
              refine ⟨Upd.refl _ _, ?_⟩
              go_simp
              refine sched_take 9 rfl (by kernel_rfl) (by kernel_rfl) (by kernel_rfl) (fun _ _ _ h => h) rfl (fun x hx => by go_simp; rfl) ?_
              go_simp
              refine sched_take 10 rfl (by kernel_rfl) (by kernel_rfl) (by kernel_rfl) (fun _ _ _ h => h) rfl (fun x hx => by go_simp; rfl) ?_
              go_simp
              refine sched_take 11 rfl (by kernel_rfl) (by kernel_rfl) (by kernel_rfl) (fun _ _ _ h => h) rfl (fun x hx => by go_simp; rfl) ?_
              go_simp
              refine sched_take 12 rfl (by kernel_rfl) (by kernel_rfl) (by kernel_rfl) (fun _ _ _ h => h) rfl (fun x hx => by go_simp; rfl) ?_
              go_simp
              refine sched_take 14 rfl (by kernel_rfl) (by kernel_rfl) (by kernel_rfl) (fun _ _ _ h => h) rfl (fun x hx => by go_simp; rfl) ?_
              go_simp
              refine sched_alone 13 (by kernel_rfl) rfl rfl ?_
              go_simp
              refine (LL.out _ (Upd.refl _ _)).mono ?_
              rintro e w4 ⟨rfl, rfl⟩
              refine ⟨Upd.refl _ _, ?_⟩
              go_simp
              refine sched_alone 15 (by kernel_rfl) rfl rfl ?_
              go_simp
              refine (LR.out _ (Upd.refl _ _)).mono ?_
              rintro e w4 ⟨rfl, hu⟩
              refine ⟨hu, ?_⟩
              have HU := Lib.hid hu
              clear hu
              go_simp
              refine sched_take 16 rfl (by kernel_rfl) (by kernel_rfl) (by kernel_rfl) (fun _ _ _ h => h) rfl (fun x hx => by go_simp; rfl) ?_
              go_simp
              refine sched_take 17 rfl (by kernel_rfl) (by kernel_rfl) (by kernel_rfl) (fun _ _ _ h => h) rfl (fun x hx => by go_simp; rfl) ?_
              go_simp
              refine sched_take 18 rfl (by kernel_rfl) (by kernel_rfl) (by kernel_rfl) (fun _ _ _ h => h) rfl (fun x hx => by go_simp; rfl) ?_
              go_simp
              refine sched_take 19 rfl (by kernel_rfl) (by kernel_rfl) (by kernel_rfl) (fun _ _ _ h => h) rfl (fun x hx => by go_simp; rfl) ?_
              go_simp
              refine sched_take 21 rfl (by kernel_rfl) (by kernel_rfl) (by kernel_rfl) (fun _ _ _ h => h) rfl (fun x hx => by go_simp; rfl) ?_
              go_simp
              refine sched_take 22 rfl (by kernel_rfl) (by kernel_rfl) (by kernel_rfl) (fun _ _ _ h => h) rfl (fun x hx => by go_simp; rfl) ?_
              go_simp
              refine sched_take 23 rfl (by kernel_rfl) (by kernel_rfl) (by kernel_rfl) (fun _ _ _ h => h) rfl (fun x hx => by go_simp; rfl) ?_
              go_simp
              refine sched_take 24 rfl (by kernel_rfl) (by kernel_rfl) (by kernel_rfl) (fun _ _ _ h => h) rfl (fun x hx => by obtain ⟨j0, j1, j2, j3, j4⟩ := LC.out x (HU.out.trans hx); go_simp; rfl) ?_
              go_simp
              refine sched_take 25 rfl (by kernel_rfl) (by kernel_rfl) (by kernel_rfl) (fun _ _ _ h => h) rfl (fun x hx => by go_simp; rfl) ?_
              go_simp
              refine sched_alone 20 (by kernel_rfl) rfl rfl ?_
              go_simp
              refine (LD.out _ HU.out).mono ?_
              rintro e w5 ⟨rfl, rfl⟩
              refine ⟨Upd.refl _ _, ?_⟩
              go_simp
              refine sched_take 26 rfl (by kernel_rfl) (by kernel_rfl) (by kernel_rfl) (fun _ _ _ h => h) rfl (fun x hx => by go_simp; rfl) ?_
              go_simp
              refine sched_take 27 rfl (by kernel_rfl) (by kernel_rfl) (by kernel_rfl) (fun _ _ _ h => h) rfl (fun x hx => by go_simp; rfl) ?_
              go_simp
              refine sched_alone 28 (by kernel_rfl) rfl rfl ?_
              go_simp
              refine (LR.out _ HU.out).mono ?_
              rintro e w6 ⟨rfl, hu⟩
              refine ⟨hu, ?_⟩
              have HU2 := Lib.hid (HU.out.trans hu)
              clear hu
              go_simp
              refine sched_take 29 rfl (by kernel_rfl) (by kernel_rfl) (by kernel_rfl) (fun _ _ _ h => h) rfl (fun x hx => by go_simp; rfl) ?_
              go_simp
              refine sched_take 30 rfl (by kernel_rfl) (by kernel_rfl) (by kernel_rfl) (fun _ _ _ h => h) rfl (fun x hx => by go_simp; rfl) ?_
              go_simp
              refine sched_take 31 rfl (by kernel_rfl) (by kernel_rfl) (by kernel_rfl) (fun _ _ _ h => h) rfl (fun x hx => by go_simp; rfl) ?_
              go_simp
              refine sched_take 32 rfl (by kernel_rfl) (by kernel_rfl) (by kernel_rfl) (fun _ _ _ h => h) rfl (fun x hx => by go_simp; rfl) ?_
              go_simp
              refine sched_done (by kernel_rfl) ?_
              have T4 := Lib.hid ((T2.out.grow ((Upd.refl NoB _).drew)).grow HU2.out)
              clear LB LL LR LD LC HU HU2 T2
              go_wp2_with fail
              go_roundw
              case rel => exact ⟨i + 1, r', by go_num, by omega, T4.out⟩
              case measure => simp [intOf]; omega
    · go_wp2_with fail
      refine (awake_any _).mono ?_
      rintro e w9 ⟨rfl, hu9⟩
      have HU9 := Lib.hid hu9
      clear hu9
      go_wp2_with fail
      go_ret
      exact ⟨rfl, hT.out.u.trans HU9.out⟩
end Go.Proofs.Ytflifeelgamaaaa
