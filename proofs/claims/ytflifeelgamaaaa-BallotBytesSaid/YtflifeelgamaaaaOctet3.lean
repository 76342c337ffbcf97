/- The package octet, function by function (3): bytes that are made. -/
import Derived.Test.YtflifeelgamaaaaOctet2
namespace Go.Proofs.Ytflifeelgamaaaa
open Go.RowKit Kit Oct
set_option linter.unusedVariables false

set_option maxHeartbeats 1000000 in
set_option maxRecDepth 100000 in
/-- slices.Clone of bytes that are read: bytes of its own. -/
theorem clone_any {S : Nat → Prop} (v : Value) (l : List UInt8) (w : World) (h : RSl Rep.byte w S v l) (hl : l.length ≤ 140737488355328) :
    Calls Try.prog 65 #[v] w fun e w' => ∃ v', e = .returned v' ∧ OSl Rep.byte 5 w' (grow NoB w w') v' l ∧ Upd NoB w w' := by
  obtain ⟨A, c, cs, rfl, h1, h2, h3, h4, h5⟩ := id h
  cases A with
  | none =>
    obtain rfl : c = 0 := h4 rfl
    obtain rfl : l = [] := List.eq_nil_of_length_eq_zero (by omega)
    have hnil := fun w => Lib.run_eql_slice_nil (P := Try.prog) w 53 5 none 0 0 0 0 Try.underlying53
    have fin := Lib.hid (show OSl Rep.byte 5 w (grow NoB w w) (.slice none 0 0) ([] : List UInt8) from OSl.nil _ _ _)
    clear h h3 h5
    go_enter Try.func65, Try.ntmps65
    go_wp2_with fail
    go_ret
    exact ⟨_, rfl, fin.out, Upd.refl _ _⟩
  | some a =>
    have hnil := fun w => Lib.run_eql_slice_nil (P := Try.prog) w 53 5 (some a) l.length c 0 0 Try.underlying53
    have hs : S a.block := (h5 a rfl).2.1
    have u0 : Upd NoB w (w.alloc (.cells #[] 5)) := (Upd.refl NoB w).alloc _
    have H := Lib.hid (h.upd u0 (fun b _ hf => hf))
    have H0 := Lib.hid (OSl.made (r := Rep.byte) (e := 5) (w := w) (S := fun b => b = w.heap.size) #[] 0 (by rfl) (by decide) rfl)
    have HB := Lib.hid (show Bd (fun b => b = w.heap.size) (w.alloc (.cells #[] 5)) from fun b hb => by rw [show b = w.heap.size from hb]; simp)
    clear h h3 h5 h4
    go_enter Try.func65, Try.ntmps65
    go_wp2_with (at_builtin; go_must (refine app_all (r := Rep.byte) rfl _ _ 53 5 (.int .u8 0) 1 rfl Try.underlying53 i5 rfl (by decide) rfl rfl H0.out HB.out H.out (fun cs hc => ?_) ?_ ?_))
    · rw [rows_bytes_eq hc]; exact Rows_bytes _ _ _
    · simpa using hl
    · intro v1 w1 ho hu
      have Ho := Lib.hid ho
      have Hu := Lib.hid hu
      clear ho hu
      go_wp2_with fail
      go_ret
      refine ⟨_, rfl, Ho.out.mono ?_, u0.then Hu.out ?_⟩
      · intro b hb
        refine ⟨.inr ?_, hb.2⟩
        rcases hb.1 with hb1 | hb1
        · rw [show b = w.heap.size from hb1]; exact Nat.le_refl _
        · exact Nat.le_trans u0.size hb1
      · intro i hi hown
        simp [Value.ownBlock] at hown
        omega
theorem enc_len : ∀ (k n : Nat), n < 2 ^ (7 * (k + 1)) → (enc n).length ≤ k + 1 := by
  intro k
  induction k with
  | zero =>
    intro n h
    rw [enc_small (by simpa using h)]
    simp
  | succ k ih =>
    intro n h
    by_cases c : n < 128
    · rw [enc_small c]; simp
    · rw [enc_big c, List.length_cons]
      have := ih (n / 128) (by rw [pow7] at h; omega)
      omega
theorem enc_len10 {n : Nat} (h : n < 2 ^ 64) : (enc n).length ≤ 10 := enc_len 9 n (by omega)

theorem or128 (m : Nat) : bits .or .u8 ((m : Int) % 256) 128 = (((UInt8.ofNat (m % 128 + 128)).toNat : Nat) : Int) := by
  have e : (m : Int) % 256 = ((m % 256 : Nat) : Int) := by simp
  have t : ∀ x : Fin 256, bits .or .u8 ((x.val : Nat) : Int) 128 = ((x.val % 128 + 128 : Nat) : Int) := by decide +kernel
  rw [e, t ⟨m % 256, Nat.mod_lt _ (by decide)⟩, toNat_ofNat (by omega)]
  simp only
  omega
theorem low_byte (m : Nat) (h : m < 128) : IntKind.u8.wrap (m : Int) = (((UInt8.ofNat m).toNat : Nat) : Int) := by
  rw [toNat_ofNat (by omega)]
  simp only [IntKind.wrap, IntKind.bits, IntKind.signed]
  simp
  omega

set_option maxHeartbeats 1000000 in
set_option maxRecDepth 100000 in
theorem new_any {S : Nat → Prop} (v : Value) (l : List UInt8) (w : World) (h : RSl Rep.byte w S v l) (hl : l.length ≤ 140737488355328) :
    Calls Try.prog 39 #[v] w fun e w' => ∃ p, e = .returned (.pointer (some ⟨p, 0, none⟩)) ∧ w.heap.size ≤ p ∧ p < w'.heap.size ∧ Rdr w' (fun b => w.heap.size ≤ b ∧ b < p) p ⟨l, false⟩ ∧ Upd NoB w w' := by
  have hc := Lib.hid (clone_any v l w h hl)
  clear h
  go_enter Try.func39, Try.ntmps39
  go_wp2_with fail
  refine hc.out.mono ?_
  rintro e w1 ⟨v', rfl, ho, hu⟩
  obtain ⟨A, c, _, rfl, _⟩ := ho.read
  generalize hv' : Value.slice A l.length c = v' at ho
  have hrd : Rdr (w1.alloc (.cells #[v', .bool false] 80)) (fun b => w.heap.size ≤ b ∧ b < w1.heap.size) w1.heap.size ⟨l, false⟩ := by
    refine ⟨v', heap_alloc_new _ _, ?_, by simp⟩
    have := ho.read.upd ((Upd.refl NoB w1).alloc (.cells #[v', .bool false] 80)) (fun b _ hf => hf)
    exact this.mono (fun b hb => ⟨hb.1.resolve_left (fun h => h), hb.2⟩)
  have H := Lib.hid (show w.heap.size ≤ w1.heap.size ∧ w1.heap.size < (w1.alloc (.cells #[v', .bool false] 80)).heap.size ∧ Rdr (w1.alloc (.cells #[v', .bool false] 80)) (fun b => w.heap.size ≤ b ∧ b < w1.heap.size) w1.heap.size ⟨l, false⟩ ∧ Upd NoB w (w1.alloc (.cells #[v', .bool false] 80)) from
    ⟨hu.size, by simp, hrd, hu.alloc _⟩)
  clear ho hu hrd
  subst hv'
  go_wp2_with fail
  go_ret
  exact ⟨_, rfl, H.out⟩

/-- What the loop of Put carries. -/
def PutAt (l : List UInt8) (n : Nat) (w : World) (m : Nat) (v : Value) (wr : World) : Prop :=
  ∃ pre, enc n = pre ++ enc m ∧ OSl Rep.byte 5 wr (grow NoB w wr) v (l ++ pre) ∧ Upd NoB w wr

set_option maxHeartbeats 1000000 in
set_option maxRecDepth 100000 in
theorem put_any {S : Nat → Prop} (v : Value) (l : List UInt8) (n : Nat) (w : World) (h : RSl Rep.byte w S v l) (hl : l.length ≤ 100000) (hn : n < 2 ^ 64) :
    Calls Try.prog 43 #[v, .int .u64 n] w fun e w' => ∃ v', e = .returned v' ∧ OSl Rep.byte 5 w' (grow NoB w w') v' (l ++ enc n) ∧ Upd NoB w w' := by
  have hc := Lib.hid (clone_any v l w h (by omega))
  have hlen := enc_len10 hn
  clear h
  go_enter Try.func43, Try.ntmps43
  go_wp2_with fail
  refine hc.out.mono ?_
  rintro e w1 ⟨v', rfl, ho, hu⟩
  have H0 := Lib.hid (show PutAt l n w n v' w1 from ⟨[], rfl, by rw [List.append_nil]; exact ho, hu⟩)
  clear ho hu
  go_wp2_with fail
  go_loopw [1, 5] (fun m out wr => ∃ k : Nat, m = .int .u64 k ∧ k < 2 ^ 64 ∧ Hid (PutAt l n w k out wr)) (fun m _ _ => (intOf m).toNat)
  case atStart => exact ⟨n, rfl, hn, H0.out⟩
  case round =>
    obtain ⟨k, rfl, hk, hat⟩ := hrel
    obtain ⟨pre, he, ho, hu⟩ := hat.out
    have hpl : pre.length ≤ 10 := by have := congrArg List.length he; rw [List.length_append] at this; omega
    have HO := Lib.hid ho
    have HU := Lib.hid hu
    have HB := Lib.hid (Bd.grow NoB w wr)
    have hall : ((l ++ pre).length + 1) * 1 ≤ 140737488355328 := by rw [List.length_append]; omega
    by_cases hlt : k < 128
    · have hy := Lib.hid (show Rep.byte.rep wr NoB (UInt8.ofNat k) #[.int .u8 (k : Int)].toList by simp [Rep.byte]; omega)
      have hfin := Lib.hid (show enc n = pre ++ [UInt8.ofNat k] by rw [he, enc_small hlt])
      clear ho hu he hat
      go_wp2_with (at_builtin; go_must (refine app_one (r := Rep.byte) (y := UInt8.ofNat k) rfl _ _ 53 5 (.int .u8 0) 1 rfl Try.underlying53 i5 rfl (by decide) rfl rfl HO.out HB.out hy.out (fun b hb => hb.elim) hall ?_))
      intro v1 w2 ho2 hu2
      have HO2 := Lib.hid ho2
      have HU2 := Lib.hid hu2
      clear ho2 hu2
      go_wp2_with fail
      go_ret
      refine ⟨_, rfl, ?_, HU.out.then HU2.out ?_⟩
      · rw [hfin.out]
        refine HO2.out.mono (fun b hb => ⟨.inr ?_, hb.2⟩)
        rcases hb.1 with h1 | h1
        · exact h1.1.resolve_left (fun h => h)
        · exact Nat.le_trans HU.out.size h1
      · intro i hi hown
        obtain ⟨_, _, hset, _⟩ := HO.out
        have := (hset i hown).1.resolve_left (fun h => h)
        omega
    · have hy := Lib.hid (show Rep.byte.rep wr NoB (UInt8.ofNat (k % 128 + 128)) #[.int .u8 (bits .or .u8 ((k : Int) % 256) 128)].toList by rw [or128]; rfl)
      have hfin := Lib.hid (show enc n = (pre ++ [UInt8.ofNat (k % 128 + 128)]) ++ enc (k / 128) by rw [he, enc_big hlt]; simp)
      clear ho hu he hat
      generalize (UInt8.ofNat (k % 128 + 128)) = c at *
      go_wp2_with (at_builtin; go_must (refine app_one (r := Rep.byte) (y := c) rfl _ _ 53 5 (.int .u8 0) 1 rfl Try.underlying53 i5 rfl (by decide) rfl rfl HO.out HB.out hy.out (fun b hb => hb.elim) hall ?_))
      intro v1 w2 ho2 hu2
      have fin := Lib.hid (show PutAt l n w (k / 128) v1 w2 by
        refine ⟨pre ++ [c], hfin.out, ?_, HU.out.then hu2 ?_⟩
        · refine ho2.mono (fun b hb => ⟨.inr ?_, hb.2⟩)
          rcases hb.1 with h1 | h1
          · exact h1.1.resolve_left (fun h => h)
          · exact Nat.le_trans HU.out.size h1
        · intro i hi hown
          obtain ⟨_, _, hset, _⟩ := HO.out
          have := (hset i hown).1.resolve_left (fun h => h)
          omega)
      clear ho2 hu2
      go_wp2_with fail
      go_roundw
      case rel => exact ⟨k / 128, by go_num, by omega, fin.out⟩
      case measure => simp [intOf]; omega
/-- A text's bytes. -/
def encText (s : ByteArray) : List UInt8 := enc s.size ++ s.data.toList

set_option maxHeartbeats 1000000 in
set_option maxRecDepth 100000 in
theorem puttext_any {S : Nat → Prop} (v : Value) (l : List UInt8) (s : ByteArray) (w : World) (h : RSl Rep.byte w S v l) (hl : l.length ≤ 10000) (hs : s.size ≤ 100000) :
    Calls Try.prog 45 #[v, .string s] w fun e w' => ∃ v', e = .returned v' ∧ OSl Rep.byte 5 w' (grow NoB w w') v' (l ++ encText s) ∧ Upd NoB w w' := by
  have hp := Lib.hid (put_any v l s.size w h (by omega) (by omega))
  have hlen := enc_len10 (show s.size < 2 ^ 64 by omega)
  clear h
  go_enter Try.func45, Try.ntmps45
  go_wp2_with fail
  refine hp.out.mono ?_
  rintro e w1 ⟨v', rfl, ho, hu⟩
  have HO := Lib.hid ho
  have HU := Lib.hid hu
  have HB := Lib.hid (Bd.grow NoB w w1)
  have hall : (l ++ enc s.size).length + s.size ≤ 140737488355328 := by rw [List.length_append]; omega
  clear ho hu
  go_wp2_with (at_builtin; go_must (refine app_str rfl _ _ 53 9 5 rfl Try.underlying53 Try.underlying9 i5 rfl rfl HO.out HB.out hall ?_))
  intro v1 w2 ho2 hu2
  have fin := Lib.hid (show OSl Rep.byte 5 w2 (grow NoB w w2) v1 (l ++ encText s) ∧ Upd NoB w w2 by
    refine ⟨?_, HU.out.then hu2 ?_⟩
    · unfold encText
      rw [← List.append_assoc]
      have ho3 : OSl Rep.byte 5 w2 (grow (grow NoB w w1) w1 w2) v1 ((l ++ enc s.size) ++ s.data.toList) := by simpa using ho2
      refine ho3.mono (fun b hb => ⟨.inr ?_, hb.2⟩)
      rcases hb.1 with h1 | h1
      · exact h1.1.resolve_left (fun h => h)
      · exact Nat.le_trans HU.out.size h1
    · intro i hi hown
      obtain ⟨_, _, hset, _⟩ := HO.out
      have := (hset i hown).1.resolve_left (fun h => h)
      omega)
  clear ho2 hu2
  go_wp2_with fail
  go_ret
  exact ⟨_, rfl, fin.out⟩

theorem enc300 : enc 300 = [172, 2] := by
  rw [enc_big (by decide), enc_small (by decide)]
  rfl

set_option maxHeartbeats 1000000 in
set_option maxRecDepth 100000 in
/-- Chapter 1's example. -/
theorem awake_any (w : World) : Calls Try.prog 42 #[] w fun e w' => e = .returned (.bool true) ∧ Upd NoB w w' := by
  have hp := put_any (S := NoB) (.slice none 0 0) [] 300 w (RSl.nil w NoB) (by decide) (by decide)
  rw [enc300] at hp
  have HP := Lib.hid hp
  clear hp
  go_enter Try.func42, Try.ntmps42
  go_wp2_with fail
  refine HP.out.mono ?_
  rintro e w1 ⟨v', rfl, ho, hu⟩
  obtain ⟨A, c, cs, rfl, h1, h2, h3, h4, h5⟩ := ho.read
  have h1' : 2 ≤ c := h1
  cases A with
  | none =>
    have := h4 rfl
    omega
  | some a =>
    obtain ⟨q1, q2, q3⟩ := h5 a rfl
    obtain ⟨g, o, sp⟩ := a
    simp only at q1
    subst q1
    have c0 : w1.cell? ⟨g, o, none⟩ = some (.int .u8 172) := q3 0 _ (byte_cells h3 0 (by decide))
    have c1 : w1.cell? ⟨g, o + 1, none⟩ = some (.int .u8 2) := q3 1 _ (byte_cells h3 1 (by decide))
    have HU := Lib.hid hu
    clear h1 h2 h3 h4 h5 q2 q3 hu ho
    go_wp2_with fail
    go_ret
    exact ⟨rfl, HU.out⟩

end Go.Proofs.Ytflifeelgamaaaa
