-- PRINTED BY print.sh 35421559b90ae4d0a3588c463048766b98c2df88dd9212a6774a882060cdf62d: not written by this session
import Derived.Test.YtflifeelgamaaaaPKeysRightx0
import Derived.Test.YtflifeelgamaaaaPKeysRightx1
namespace Go.Proofs.Ytflifeelgamaaaa.PKeysRight
open Go.RowKit Go.Proofs.YtflifeelgamaaaaW.PrintWords Go.Proofs.YtflifeelgamaaaaW.PrintLast Go.Proofs.YtflifeelgamaaaaW.PrintMore
attribute [local go_sem] max2_int min2_int max_two min_two max_three min_three max_four min_four   -- for this text's walks alone
set_option linter.unusedVariables false
set_option linter.unusedSimpArgs false

/-! ### sautoirlaw08_awake: function 27 -/
def sautoirlaw08_awake.f (k : Nat)  : Option (Bool) := (keys_Number.f k (⟨#[97]⟩ : ByteArray)).bind fun t106 => (if t106 = 177604 then ((keys_Right.f k (⟨#[97]⟩ : ByteArray)).bind fun t107 => (if t107 = true then ((keys_Right.f k (⟨#[]⟩ : ByteArray)).bind fun t108 => (some (!t108))) else (some false))) else (some false))
theorem sautoirlaw08_awake.mono : ∀ k, LeO (sautoirlaw08_awake.f k ) (sautoirlaw08_awake.f (k + 1) ) := by
  intro  k
  unfold sautoirlaw08_awake.f
  repeat' first
      | (with_reducible exact keys_Number.mono _ _)
      | (with_reducible exact keys_Right.mono _ _)
      | (with_reducible exact LeO.refl _)
      | (with_reducible exact LeO.none _)
      | (with_reducible refine LeO.ite ?_ ?_)
      | (with_reducible refine LeO.bind ?_ (fun _ => ?_))
      | exact keys_Number.mono _ _
      | exact keys_Right.mono _ _
      | exact LeO.none _
      | refine LeO.ite ?_ ?_
      | refine LeO.bind ?_ (fun _ => ?_)
set_option maxHeartbeats 8000000 in
set_option maxRecDepth 100000 in
theorem sautoirlaw08_awake.calls (k : Nat)  (r : Bool) (w : World) (h : sautoirlaw08_awake.f k  = some r) :
    Calls Try.prog 27 #[] w fun e w' => e = .returned (.bool r) ∧ Drawn0 w w' := by
  have H : ((keys_Number.f k (⟨#[97]⟩ : ByteArray)).bind fun t106 => (if t106 = 177604 then ((keys_Right.f k (⟨#[97]⟩ : ByteArray)).bind fun t107 => (if t107 = true then ((keys_Right.f k (⟨#[]⟩ : ByteArray)).bind fun t108 => (some (!t108))) else (some false))) else (some false))) = some r := h
  clear h
  replace H := Option.bind_eq_some_iff.mp H
  obtain ⟨t106, A10, H⟩ := H
  replace H : (if t106 = 177604 then ((keys_Right.f k (⟨#[97]⟩ : ByteArray)).bind fun t107 => (if t107 = true then ((keys_Right.f k (⟨#[]⟩ : ByteArray)).bind fun t108 => (some (!t108))) else (some false))) else (some false)) = some r := H
  have A1 := Aside0.mk A10
  clear A10
  by_cases c2 : t106 = 177604
  · rw [if_pos c2] at H
    have c2b0 : (t106 == 177604) = true := beq_iff_eq.mpr c2
    have c2b1 : (t106 != 177604) = false := bne_eq_false_iff_eq.mpr c2
    clear c2
    replace H := Option.bind_eq_some_iff.mp H
    obtain ⟨t107, A30, H⟩ := H
    replace H : (if t107 = true then ((keys_Right.f k (⟨#[]⟩ : ByteArray)).bind fun t108 => (some (!t108))) else (some false)) = some r := H
    have A3 := Aside0.mk A30
    clear A30
    by_cases c4 : t107 = true
    · subst c4
      have H1 : ((keys_Right.f k (⟨#[]⟩ : ByteArray)).bind fun t108 => (some (!t108))) = some r := by rw [if_pos rfl] at H; exact H
      clear H
      have H := H1
      clear H1
      replace H := Option.bind_eq_some_iff.mp H
      obtain ⟨t108, A50, H⟩ := H
      replace H : (some (!t108)) = some r := H
      have A5 := Aside0.mk A50
      clear A50
      obtain rfl := Option.some.inj H
      go_enter Try.func27, Try.ntmps27
      go_wp2_with (first | ((with_reducible refine gate_callee (f := 29) rfl ?_); refine goesL_ (some 1) rfl rfl Try.func29 (by kernel_rfl) rfl #[.string (⟨#[97]⟩ : ByteArray)] rfl (by (try simp only [List.map_toArray, List.map_cons, List.map_nil]); first | done | rfl | (simp only [List.length_drop, List.length_take]; rfl)) ?_; (with_reducible refine (keys_Number.calls k (⟨#[97]⟩ : ByteArray) t106 _ A1.out).mono ?_); rintro e w' ⟨rfl, ⟨nd, rfl⟩⟩; refine ⟨_, rfl, ?_⟩) | (go_at_call 23; (with_reducible refine (keys_Right.calls k (⟨#[97]⟩ : ByteArray) true _ A3.out).mono ?_); rintro e w' ⟨rfl, ⟨nd, rfl⟩⟩) | (go_at_call 23; (with_reducible refine (keys_Right.calls k (⟨#[]⟩ : ByteArray) t108 _ A5.out).mono ?_); rintro e w' ⟨rfl, ⟨nd, rfl⟩⟩))
      go_ret
      exact ⟨by first | rfl | (simp; done) | (simp [*]; done), by repeat (first | exact Drawn0.refl _ | apply Drawn0.step)⟩
    · replace c4 := Bool.eq_false_iff.mpr c4
      subst c4
      have H1 : (some false) = some r := by rw [if_neg (show ¬ (false = true) by decide)] at H; exact H
      clear H
      have H := H1
      clear H1
      obtain rfl := Option.some.inj H
      go_enter Try.func27, Try.ntmps27
      go_wp2_with (first | ((with_reducible refine gate_callee (f := 29) rfl ?_); refine goesL_ (some 1) rfl rfl Try.func29 (by kernel_rfl) rfl #[.string (⟨#[97]⟩ : ByteArray)] rfl (by (try simp only [List.map_toArray, List.map_cons, List.map_nil]); first | done | rfl | (simp only [List.length_drop, List.length_take]; rfl)) ?_; (with_reducible refine (keys_Number.calls k (⟨#[97]⟩ : ByteArray) t106 _ A1.out).mono ?_); rintro e w' ⟨rfl, ⟨nd, rfl⟩⟩; refine ⟨_, rfl, ?_⟩) | (go_at_call 23; (with_reducible refine (keys_Right.calls k (⟨#[97]⟩ : ByteArray) false _ A3.out).mono ?_); rintro e w' ⟨rfl, ⟨nd, rfl⟩⟩))
      go_ret
      exact ⟨by first | rfl | (simp; done) | (simp [*]; done), by repeat (first | exact Drawn0.refl _ | apply Drawn0.step)⟩
  · rw [if_neg c2] at H
    have c2b0 : (t106 == 177604) = false := beq_eq_false_iff_ne.mpr c2
    have c2b1 : (t106 != 177604) = true := bne_iff_ne.mpr c2
    obtain rfl := Option.some.inj H
    go_enter Try.func27, Try.ntmps27
    go_wp2_with (first | ((with_reducible refine gate_callee (f := 29) rfl ?_); refine goesL_ (some 1) rfl rfl Try.func29 (by kernel_rfl) rfl #[.string (⟨#[97]⟩ : ByteArray)] rfl (by (try simp only [List.map_toArray, List.map_cons, List.map_nil]); first | done | rfl | (simp only [List.length_drop, List.length_take]; rfl)) ?_; (with_reducible refine (keys_Number.calls k (⟨#[97]⟩ : ByteArray) t106 _ A1.out).mono ?_); rintro e w' ⟨rfl, ⟨nd, rfl⟩⟩; refine ⟨_, rfl, ?_⟩))
    go_ret
    exact ⟨by first | rfl | (simp; done) | (simp [*]; done), by repeat (first | exact Drawn0.refl _ | apply Drawn0.step)⟩

/-! ### sautoirlaw08_KeysRight: function 5 -/
def sautoirlaw08_KeysRight.f (k : Nat) (a0 : ByteArray) : Option (Bool) := (sautoirlaw08_short.f a0).bind fun t109 => ((keys_Right.f k t109).bind fun t110 => ((sautoirref08_Right.f k t109).bind fun t111 => (if (t110 == t111) = true then ((keys_RightVal.f k t109).bind fun t112 => ((sautoirref08_RightVal.f k t109).bind fun t113 => (if (t112 == t113) = true then ((sautoirlaw08_awake.f k).bind fun t114 => (some t114)) else (some false)))) else (some false))))
theorem sautoirlaw08_KeysRight.mono : ∀ a0 k, LeO (sautoirlaw08_KeysRight.f k a0) (sautoirlaw08_KeysRight.f (k + 1) a0) := by
  intro a0 k
  unfold sautoirlaw08_KeysRight.f
  repeat' first
      | (with_reducible exact keys_Right.mono _ _)
      | (with_reducible exact keys_RightVal.mono _ _)
      | (with_reducible exact sautoirlaw08_awake.mono _)
      | (with_reducible exact sautoirref08_Right.mono _ _)
      | (with_reducible exact sautoirref08_RightVal.mono _ _)
      | (with_reducible exact LeO.refl _)
      | (with_reducible exact LeO.none _)
      | (with_reducible refine LeO.ite ?_ ?_)
      | (with_reducible refine LeO.bind ?_ (fun _ => ?_))
      | exact keys_Right.mono _ _
      | exact keys_RightVal.mono _ _
      | exact sautoirlaw08_awake.mono _
      | exact sautoirref08_Right.mono _ _
      | exact sautoirref08_RightVal.mono _ _
      | exact LeO.none _
      | refine LeO.ite ?_ ?_
      | refine LeO.bind ?_ (fun _ => ?_)
set_option maxHeartbeats 8000000 in
set_option maxRecDepth 100000 in
theorem sautoirlaw08_KeysRight.calls (k : Nat) (a0 : ByteArray) (r : Bool) (w : World) (h : sautoirlaw08_KeysRight.f k a0 = some r) :
    Calls Try.prog 5 #[.string a0] w fun e w' => e = .returned (.bool r) ∧ Drawn0 w w' := by
  have H : ((sautoirlaw08_short.f a0).bind fun t109 => ((keys_Right.f k t109).bind fun t110 => ((sautoirref08_Right.f k t109).bind fun t111 => (if (t110 == t111) = true then ((keys_RightVal.f k t109).bind fun t112 => ((sautoirref08_RightVal.f k t109).bind fun t113 => (if (t112 == t113) = true then ((sautoirlaw08_awake.f k).bind fun t114 => (some t114)) else (some false)))) else (some false))))) = some r := h
  clear h
  replace H := Option.bind_eq_some_iff.mp H
  obtain ⟨t109, A20, H⟩ := H
  replace H : ((keys_Right.f k t109).bind fun t110 => ((sautoirref08_Right.f k t109).bind fun t111 => (if (t110 == t111) = true then ((keys_RightVal.f k t109).bind fun t112 => ((sautoirref08_RightVal.f k t109).bind fun t113 => (if (t112 == t113) = true then ((sautoirlaw08_awake.f k).bind fun t114 => (some t114)) else (some false)))) else (some false)))) = some r := H
  have A2 := Aside0.mk A20
  clear A20
  replace H := Option.bind_eq_some_iff.mp H
  obtain ⟨t110, A30, H⟩ := H
  replace H : ((sautoirref08_Right.f k t109).bind fun t111 => (if (t110 == t111) = true then ((keys_RightVal.f k t109).bind fun t112 => ((sautoirref08_RightVal.f k t109).bind fun t113 => (if (t112 == t113) = true then ((sautoirlaw08_awake.f k).bind fun t114 => (some t114)) else (some false)))) else (some false))) = some r := H
  have A3 := Aside0.mk A30
  clear A30
  replace H := Option.bind_eq_some_iff.mp H
  obtain ⟨t111, A40, H⟩ := H
  replace H : (if (t110 == t111) = true then ((keys_RightVal.f k t109).bind fun t112 => ((sautoirref08_RightVal.f k t109).bind fun t113 => (if (t112 == t113) = true then ((sautoirlaw08_awake.f k).bind fun t114 => (some t114)) else (some false)))) else (some false)) = some r := H
  have A4 := Aside0.mk A40
  clear A40
  by_cases c5 : (t110 == t111) = true
  · rw [if_pos c5] at H
    have c5b0 : (t110 == t111) = true := c5
    (try (have c5b1 : decide (t110 = t111) = true := by simpa using c5))
    (try (have c5b2 : (t110 == t111) = true := by simpa using c5))
    clear c5
    replace H := Option.bind_eq_some_iff.mp H
    obtain ⟨t112, A60, H⟩ := H
    replace H : ((sautoirref08_RightVal.f k t109).bind fun t113 => (if (t112 == t113) = true then ((sautoirlaw08_awake.f k).bind fun t114 => (some t114)) else (some false))) = some r := H
    have A6 := Aside0.mk A60
    clear A60
    replace H := Option.bind_eq_some_iff.mp H
    obtain ⟨t113, A70, H⟩ := H
    replace H : (if (t112 == t113) = true then ((sautoirlaw08_awake.f k).bind fun t114 => (some t114)) else (some false)) = some r := H
    have A7 := Aside0.mk A70
    clear A70
    by_cases c8 : (t112 == t113) = true
    · rw [if_pos c8] at H
      have c8b0 : (t112 == t113) = true := c8
      (try (have c8b1 : decide (t112 = t113) = true := by simpa using c8))
      (try (have c8b2 : (t112 == t113) = true := by simpa using c8))
      clear c8
      replace H := Option.bind_eq_some_iff.mp H
      obtain ⟨t114, A90, H⟩ := H
      replace H : (some t114) = some r := H
      have A9 := Aside0.mk A90
      clear A90
      obtain rfl := Option.some.inj H
      go_enter Try.func5, Try.ntmps5
      go_wp2_with (first | ((with_reducible refine gate_callee (f := 22) rfl ?_); refine goesL_ (some 4) rfl rfl Try.func22 (by kernel_rfl) rfl #[.string a0] rfl (by (try simp only [List.map_toArray, List.map_cons, List.map_nil]); first | done | rfl | (simp only [List.length_drop, List.length_take]; rfl)) ?_; (with_reducible refine (sautoirlaw08_short.calls a0 t109 _ A2.out).mono ?_); rintro e w' ⟨rfl, ⟨nd, rfl⟩⟩; refine ⟨_, rfl, ?_⟩) | ((with_reducible refine gate_callee (f := 23) rfl ?_); refine goesL_ (some 6) rfl rfl Try.func23 (by kernel_rfl) rfl #[.string t109] rfl (by (try simp only [List.map_toArray, List.map_cons, List.map_nil]); first | done | rfl | (simp only [List.length_drop, List.length_take]; rfl)) ?_; (with_reducible refine (keys_Right.calls k t109 t110 _ A3.out).mono ?_); rintro e w' ⟨rfl, ⟨nd, rfl⟩⟩; refine ⟨_, rfl, ?_⟩) | ((with_reducible refine gate_callee (f := 24) rfl ?_); refine goesL_ (some 8) rfl rfl Try.func24 (by kernel_rfl) rfl #[.string t109] rfl (by (try simp only [List.map_toArray, List.map_cons, List.map_nil]); first | done | rfl | (simp only [List.length_drop, List.length_take]; rfl)) ?_; (with_reducible refine (sautoirref08_Right.calls k t109 t111 _ A4.out).mono ?_); rintro e w' ⟨rfl, ⟨nd, rfl⟩⟩; refine ⟨_, rfl, ?_⟩) | (go_at_call 25; (with_reducible refine (keys_RightVal.calls k t109 t112 _ A6.out).mono ?_); rintro e w' ⟨rfl, ⟨nd, rfl⟩⟩) | (go_at_call 26; (with_reducible refine (sautoirref08_RightVal.calls k t109 t113 _ A7.out).mono ?_); rintro e w' ⟨rfl, ⟨nd, rfl⟩⟩) | (go_at_call 27; (with_reducible refine (sautoirlaw08_awake.calls k  t114 _ A9.out).mono ?_); rintro e w' ⟨rfl, ⟨nd, rfl⟩⟩))
      go_ret
      exact ⟨by first | rfl | (simp; done) | (simp [*]; done), by repeat (first | exact Drawn0.refl _ | apply Drawn0.step)⟩
    · rw [if_neg c8] at H
      have c8b0 : (t112 == t113) = false := by simpa using c8
      (try (have c8b1 : decide (t112 = t113) = false := by simpa using c8))
      (try (have c8b2 : (t112 == t113) = false := by simpa using c8))
      (try (have c8b3 : ¬ (t112 = t113) := by simpa using c8))
      clear c8
      obtain rfl := Option.some.inj H
      go_enter Try.func5, Try.ntmps5
      go_wp2_with (first | ((with_reducible refine gate_callee (f := 22) rfl ?_); refine goesL_ (some 4) rfl rfl Try.func22 (by kernel_rfl) rfl #[.string a0] rfl (by (try simp only [List.map_toArray, List.map_cons, List.map_nil]); first | done | rfl | (simp only [List.length_drop, List.length_take]; rfl)) ?_; (with_reducible refine (sautoirlaw08_short.calls a0 t109 _ A2.out).mono ?_); rintro e w' ⟨rfl, ⟨nd, rfl⟩⟩; refine ⟨_, rfl, ?_⟩) | ((with_reducible refine gate_callee (f := 23) rfl ?_); refine goesL_ (some 6) rfl rfl Try.func23 (by kernel_rfl) rfl #[.string t109] rfl (by (try simp only [List.map_toArray, List.map_cons, List.map_nil]); first | done | rfl | (simp only [List.length_drop, List.length_take]; rfl)) ?_; (with_reducible refine (keys_Right.calls k t109 t110 _ A3.out).mono ?_); rintro e w' ⟨rfl, ⟨nd, rfl⟩⟩; refine ⟨_, rfl, ?_⟩) | ((with_reducible refine gate_callee (f := 24) rfl ?_); refine goesL_ (some 8) rfl rfl Try.func24 (by kernel_rfl) rfl #[.string t109] rfl (by (try simp only [List.map_toArray, List.map_cons, List.map_nil]); first | done | rfl | (simp only [List.length_drop, List.length_take]; rfl)) ?_; (with_reducible refine (sautoirref08_Right.calls k t109 t111 _ A4.out).mono ?_); rintro e w' ⟨rfl, ⟨nd, rfl⟩⟩; refine ⟨_, rfl, ?_⟩) | (go_at_call 25; (with_reducible refine (keys_RightVal.calls k t109 t112 _ A6.out).mono ?_); rintro e w' ⟨rfl, ⟨nd, rfl⟩⟩) | (go_at_call 26; (with_reducible refine (sautoirref08_RightVal.calls k t109 t113 _ A7.out).mono ?_); rintro e w' ⟨rfl, ⟨nd, rfl⟩⟩))
      go_ret
      exact ⟨by first | rfl | (simp; done) | (simp [*]; done), by repeat (first | exact Drawn0.refl _ | apply Drawn0.step)⟩
  · rw [if_neg c5] at H
    have c5b0 : (t110 == t111) = false := by simpa using c5
    (try (have c5b1 : decide (t110 = t111) = false := by simpa using c5))
    (try (have c5b2 : (t110 == t111) = false := by simpa using c5))
    (try (have c5b3 : ¬ (t110 = t111) := by simpa using c5))
    clear c5
    obtain rfl := Option.some.inj H
    go_enter Try.func5, Try.ntmps5
    go_wp2_with (first | ((with_reducible refine gate_callee (f := 22) rfl ?_); refine goesL_ (some 4) rfl rfl Try.func22 (by kernel_rfl) rfl #[.string a0] rfl (by (try simp only [List.map_toArray, List.map_cons, List.map_nil]); first | done | rfl | (simp only [List.length_drop, List.length_take]; rfl)) ?_; (with_reducible refine (sautoirlaw08_short.calls a0 t109 _ A2.out).mono ?_); rintro e w' ⟨rfl, ⟨nd, rfl⟩⟩; refine ⟨_, rfl, ?_⟩) | ((with_reducible refine gate_callee (f := 23) rfl ?_); refine goesL_ (some 6) rfl rfl Try.func23 (by kernel_rfl) rfl #[.string t109] rfl (by (try simp only [List.map_toArray, List.map_cons, List.map_nil]); first | done | rfl | (simp only [List.length_drop, List.length_take]; rfl)) ?_; (with_reducible refine (keys_Right.calls k t109 t110 _ A3.out).mono ?_); rintro e w' ⟨rfl, ⟨nd, rfl⟩⟩; refine ⟨_, rfl, ?_⟩) | ((with_reducible refine gate_callee (f := 24) rfl ?_); refine goesL_ (some 8) rfl rfl Try.func24 (by kernel_rfl) rfl #[.string t109] rfl (by (try simp only [List.map_toArray, List.map_cons, List.map_nil]); first | done | rfl | (simp only [List.length_drop, List.length_take]; rfl)) ?_; (with_reducible refine (sautoirref08_Right.calls k t109 t111 _ A4.out).mono ?_); rintro e w' ⟨rfl, ⟨nd, rfl⟩⟩; refine ⟨_, rfl, ?_⟩))
    go_ret
    exact ⟨by first | rfl | (simp; done) | (simp [*]; done), by repeat (first | exact Drawn0.refl _ | apply Drawn0.step)⟩

/-- THE ONE PURE STATEMENT of sautoirlaw08_KeysRight: yours. -/
def sautoirlaw08_KeysRight.Pure : Prop := ∀ (a0 : ByteArray), a0.size ≤ 140737488351232 → ∃ k, sautoirlaw08_KeysRight.f k a0 = some true
theorem sautoirlaw08_KeysRight.walk (P : sautoirlaw08_KeysRight.Pure) (a0 : ByteArray) (w : World) (w0 : a0.size ≤ 140737488351232) :
    Calls Try.prog 5 #[.string a0] w fun e w' => e = .returned (.bool true) ∧ Below w.heap.size w w' := by
  obtain ⟨k, h⟩ := P a0 w0
  refine (sautoirlaw08_KeysRight.calls k a0 true w h).mono ?_
  rintro e w' ⟨rfl, hd⟩
  exact ⟨rfl, hd.below⟩

end Go.Proofs.Ytflifeelgamaaaa.PKeysRight
