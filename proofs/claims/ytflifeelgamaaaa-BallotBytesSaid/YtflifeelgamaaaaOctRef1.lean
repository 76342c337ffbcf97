/- The reference of chapter 1, function by function (1): a number's bytes, a text's. -/
import Derived.Test.YtflifeelgamaaaaOctet3
import Derived.Deep.RegionWith
namespace Go.Proofs.Ytflifeelgamaaaa
open Go.RowKit Kit Oct
set_option linter.unusedVariables false

/-- What is owned, is new, in a world that has only grown. -/
def NewSl {α : Type} (r : Rep α) (e : TypeId) (w w' : World) (v : Value) (l : List α) : Prop := OSl r e w' (grow NoB w w') v l ∧ Upd NoB w w'

set_option maxHeartbeats 1000000 in
set_option maxRecDepth 100000 in
theorem refput_any : ∀ (n : Nat) (w : World), n < 2 ^ 64 → Calls Try.prog 46 #[.int .u64 n] w fun e w' => ∃ v', e = .returned v' ∧ NewSl Rep.byte 5 w w' v' (enc n) := by
  intro n
  induction n using Nat.strongRecOn with
  | _ n ih =>
    intro w hn
    by_cases c : n < 128
    · have fin := Lib.hid (show NewSl Rep.byte 5 w (w.alloc (.cells #[.int .u8 (n : Int)] 5)) (.slice (some ⟨w.heap.size, 0, none⟩) 1 1) (enc n) by
        rw [enc_small c]
        refine ⟨OSl.lit (T := NoB) _ 1 rfl (by decide) ⟨[.int .u8 (n : Int)], [], by simp, by simp [Rep.byte]; omega, rfl⟩ (fun _ h => h.elim) (fun _ h => h.elim) ⟨.inr (Nat.le_refl _), by simp⟩, (Upd.refl _ _).alloc _⟩)
      clear ih
      go_enter Try.func46, Try.ntmps46
      go_wp2_with fail
      go_ret
      exact ⟨_, rfl, fin.out⟩
    · have hp := Lib.hid (fun w => ih (n / 128) (by omega) w (by omega))
      have hlen := enc_len10 (show n / 128 < 2 ^ 64 by omega)
      have hfin := Lib.hid (enc_big c)
      have hb : (n % 128 + 128 : Nat) < 256 := by omega
      have H0 := Lib.hid (OSl.lit (r := Rep.byte) (e := 5) (w := w) (S := fun b => b = w.heap.size) (T := NoB) (l := [UInt8.ofNat (n % 128 + 128)]) #[.int .u8 ((n : Int) % 128 + 128)] 1 rfl (by decide) ⟨[.int .u8 ((n : Int) % 128 + 128)], [], by simp, by simp only [Rep.byte]; rw [toNat_ofNat hb]; simp, rfl⟩ (fun _ h => h.elim) (fun _ h => h.elim) rfl)
      generalize UInt8.ofNat (n % 128 + 128) = bt at H0 hfin
      clear ih
      go_enter Try.func46, Try.ntmps46
      go_wp2_with fail
      rw [show ((n : Int) / 128) = ((n / 128 : Nat) : Int) from by simp]
      refine (hp.out _).mono ?_
      rintro e w1 ⟨v1, rfl, ho, hu⟩
      have u0 : Upd NoB w w1 := ((Upd.refl NoB w).alloc (.cells #[.int .u8 ((n : Int) % 128 + 128)] 5)).trans hu
      have H1 := Lib.hid (H0.out.upd hu (fun b _ h => h))
      have HB := Lib.hid (show Bd (fun b => b = w.heap.size) w1 from fun b hb => by rw [show b = w.heap.size from hb]; have := hu.size; simp at this; omega)
      have HR := Lib.hid ho.read
      have HU := Lib.hid u0
      clear ho hu u0 H0
      go_wp2_with (at_builtin; go_must (refine app_all (r := Rep.byte) rfl _ _ 53 5 (.int .u8 0) 1 rfl Try.underlying53 i5 rfl (by decide) rfl rfl H1.out HB.out HR.out (fun cs hc => ?_) ?_ ?_))
      · rw [rows_bytes_eq hc]; exact Rows_bytes _ _ _
      · simp; omega
      · intro v2 w2 ho hu
        have Fin := Lib.hid (show NewSl Rep.byte 5 w w2 v2 (enc n) by
          refine ⟨?_, HU.out.then hu ?_⟩
          · rw [hfin.out]
            refine ho.mono (fun b hb => ⟨.inr ?_, hb.2⟩)
            rcases hb.1 with h1 | h1
            · rw [show b = w.heap.size from h1]; exact Nat.le_refl _
            · exact Nat.le_trans HU.out.size h1
          · intro i hi hown
            simp [Value.ownBlock] at hown
            omega)
        clear ho hu
        go_wp2_with fail
        go_ret
        exact ⟨_, rfl, Fin.out⟩

set_option maxHeartbeats 1000000 in
set_option maxRecDepth 100000 in
theorem reftext_any (s : ByteArray) (w : World) (hs : s.size ≤ 100000) : Calls Try.prog 47 #[.string s] w fun e w' => ∃ v', e = .returned v' ∧ NewSl Rep.byte 5 w w' v' (encText s) := by
  have hp := Lib.hid (refput_any s.size w (by omega))
  have hlen := enc_len10 (show s.size < 2 ^ 64 by omega)
  go_enter Try.func47, Try.ntmps47
  go_wp2_with fail
  refine hp.out.mono ?_
  rintro e w1 ⟨v', rfl, ho, hu⟩
  have HO := Lib.hid ho
  have HU := Lib.hid hu
  have HB := Lib.hid (Bd.grow NoB w w1)
  have hall : (enc s.size).length + s.size ≤ 140737488355328 := by omega
  clear ho hu
  go_wp2_with (at_builtin; go_must (refine app_str rfl _ _ 53 9 5 rfl Try.underlying53 Try.underlying9 i5 rfl rfl HO.out HB.out hall ?_))
  intro v1 w2 ho2 hu2
  have fin := Lib.hid (show NewSl Rep.byte 5 w w2 v1 (encText s) by
    refine ⟨ho2.mono (grow_new HU.out.size), HU.out.then hu2 ?_⟩
    intro i hi hown
    obtain ⟨_, _, hset, _⟩ := HO.out
    have := grow_ge _ (hset i hown)
    omega)
  clear ho2 hu2
  go_wp2_with fail
  go_ret
  exact ⟨_, rfl, fin.out⟩
end Go.Proofs.Ytflifeelgamaaaa
