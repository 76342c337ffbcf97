/- Who holds what, the document's table (3): somebody holds keys. -/
import Derived.Test.YtobfolkcpfaplaaLockR2
namespace Go.Proofs.Ytobfolkcpfaplaa
open Go.RowKit Kit
set_option linter.unusedVariables false

set_option maxHeartbeats 1000000 in
theorem refkey_any (s : ByteArray) (w : World) (hs : s.size ≤ maxLen) :
    Calls Try.prog 55 #[.string s] w fun e w' => e = .returned (.bool (keyB s)) ∧ w = w' := by
  have hS := Lib.hid (fun w => refsigns_any s w hs)
  have hs' : s.size ≤ 9223372036854775807 := hs
  unfold keyB
  generalize sgp s s.size = B at *
  by_cases h0 : 0 < s.size
  · have e1 : decide (0 < s.size) = true := decide_eq_true h0
    have n1 : decide ((1 : Int) ≤ (s.size : Int)) = true := decide_eq_true (by omega)
    rw [e1, Bool.true_and]
    clear h0 e1
    by_cases h : s.size ≤ 32
    · have h1 : decide (s.size ≤ 32) = true := decide_eq_true h
      have h2 : decide ((s.size : Int) ≤ 32) = true := decide_eq_true (by omega)
      rw [h1, Bool.and_true]
      clear h h1
      go_enter Try.func55, Try.ntmps55
      go_wp2_with fail
      refine (hS.out _).mono ?_
      rintro e w' ⟨rfl, rfl⟩
      go_wp2_with fail
      go_ret
      exact ⟨rfl, rfl⟩
    · have h1 : decide (s.size ≤ 32) = false := decide_eq_false h
      have h2 : decide ((s.size : Int) ≤ 32) = false := decide_eq_false (by omega)
      rw [h1, Bool.and_false]
      clear h h1
      go_enter Try.func55, Try.ntmps55
      go_wp2_with fail
      go_ret
      exact ⟨rfl, rfl⟩
  · have e1 : decide (0 < s.size) = false := decide_eq_false h0
    have n1 : decide ((1 : Int) ≤ (s.size : Int)) = false := decide_eq_false (by omega)
    rw [e1, Bool.false_and]
    clear h0 e1
    go_enter Try.func55, Try.ntmps55
    go_wp2_with fail
    go_ret
    exact ⟨rfl, rfl⟩

def rowR (cl sq a : Int) (k : ByteArray) : Rwl := ⟨cl, sq, k, false, a, 0⟩
def rowW (cl sq a : Int) (k : ByteArray) : Rwl := ⟨cl, sq, k, true, a, 0⟩
def rowsOf (cl sq a : Int) (rd wr : List ByteArray) : List Rwl := (⟨cl, sq, ⟨#[]⟩, false, a, 0⟩ :: rd.map (rowR cl sq a)) ++ wr.map (rowW cl sq a)
def rbusyB (l : List Rwl) (key : ByteArray) (b : Bool) : Bool := l.any fun r => r.busy key b
/-- What the document's Take answers; the rows behind it, the last number. -/
def rtake (l : List Rwl) (last cl sq a : Int) (rd wr : List ByteArray) : Int × List Rwl × Int :=
  if a ≤ last then (1, l, last)
  else if rd.all keyB = false then (1, l, last)
  else if wr.all keyB = false then (1, l, last)
  else if (l.any fun r => r.held cl sq) = true then (7, l, last)
  else if (rd.any fun k => rbusyB l k false) = true then (11, l, last)
  else if (wr.any fun k => rbusyB l k true) = true then (11, l, last)
  else (0, l ++ rowsOf cl sq a rd wr, a)
theorem all_of_none {l : List ByteArray} (h : NoneOf (fun s => !keyB s) l l.length) : l.all keyB = true := by
  have := none_any h
  rw [List.all_eq_not_any_not, this]
  rfl
theorem all_not {l : List ByteArray} {k : Nat} {x : ByteArray} (hk : l[k]? = some x) (hx : keyB x = false) : l.all keyB = false := by
  rw [List.all_eq_not_any_not, some_any (P := fun s => !keyB s) hk (by simp [hx])]
  rfl
def rr (cl sq a : Int) (rl : List ByteArray) (k : Nat) : List Rwl := ⟨cl, sq, ⟨#[]⟩, false, a, 0⟩ :: (rl.take k).map (rowR cl sq a)
def rr2 (cl sq a : Int) (rl wl : List ByteArray) (k : Nat) : List Rwl := rr cl sq a rl rl.length ++ (wl.take k).map (rowW cl sq a)
theorem rr_succ (cl sq a : Int) (rl : List ByteArray) (k : Nat) (x : ByteArray) (h : rl[k]? = some x) : rr cl sq a rl (k + 1) = rr cl sq a rl k ++ [rowR cl sq a x] := by
  unfold rr
  rw [List.take_add_one, h]
  simp
theorem rr2_succ (cl sq a : Int) (rl wl : List ByteArray) (k : Nat) (x : ByteArray) (h : wl[k]? = some x) : rr2 cl sq a rl wl (k + 1) = rr2 cl sq a rl wl k ++ [rowW cl sq a x] := by
  unfold rr2
  rw [List.take_add_one, h]
  simp
theorem rr_len (cl sq a : Int) (rl : List ByteArray) (k : Nat) : (rr cl sq a rl k).length ≤ rl.length + 1 := by
  unfold rr
  simp
  omega
theorem rr2_len (cl sq a : Int) (rl wl : List ByteArray) (k : Nat) : (rr2 cl sq a rl wl k).length ≤ rl.length + wl.length + 1 := by
  have := rr_len cl sq a rl rl.length
  unfold rr2
  simp
  omega
theorem rr_rows (cl sq a : Int) (rl wl : List ByteArray) : rr2 cl sq a rl wl wl.length = rowsOf cl sq a rl wl := by
  unfold rr2 rr rowsOf
  rw [List.take_length, List.take_length]
set_option maxHeartbeats 8000000 in
set_option maxRecDepth 100000 in
theorem rtake_any {S T : Nat → Prop} (w0 : World) (xs : List Nat) (q : Nat) (l : List Rwl) (last cl sq a : Int) (vr vw : Value) (rl wl : List ByteArray) (w : World) (h : RTb w0 w xs q l last) (hr : RSl Rep.str w S vr rl) (hw : RSl Rep.str w T vw wl)
    (hq : q ∈ xs) (hxs : ∀ x ∈ xs, x < w.heap.size) (h0 : w0.heap.size ≤ w.heap.size) (hl : l.length ≤ 10000) (hrl : rl.length ≤ 1000) (hwl : wl.length ≤ 1000) :
    Calls Try.prog 19 #[.pointer (some ⟨q, 0, none⟩), .agg #[.int .i64 cl, .int .u64 sq], .int .i64 a, vr, vw] w fun e w' => e = .returned (.int .i64 (rtake l last cl sq a rl wl).1) ∧ RTb w0 w' xs q (rtake l last cl sq a rl wl).2.1 (rtake l last cl sq a rl wl).2.2 ∧ Upd (fun b => b = q ∨ New w0 w xs b) w w' := by
  have HK := Lib.hid (fun x (hx : Upd NoB w x) => h.keep hx (fun h => h) (fun _ h => h.elim))
  obtain ⟨v, h1, h2⟩ := id h
  have hqlt := lt_of_heap h1
  have H1 := Lib.hid h1
  have HO := Lib.hid (fun x (hx : Upd NoB w x) => h2.new_keep hx (fun _ h => h.elim))
  have hown := Lib.hid (fun k (hk : v.ownBlock = some k) => h2.new_own k hk)
  have HX0 := Lib.hid hr
  have HX1 := Lib.hid hw
  obtain ⟨A, c, _, rfl, _⟩ := h2.read
  obtain ⟨Ar, cr, _, rfl, _, dr, _⟩ := hr
  obtain ⟨Aw, cw, _, rfl, _, dw, _⟩ := hw
  have dr' : cr ≤ 9223372036854775807 := dr
  have dw' : cw ≤ 9223372036854775807 := dw
  have HR00 := Lib.hid (fun (h : a ≤ last) => show rtake l last cl sq a rl wl = (1, l, last) by unfold rtake; rw [if_pos h])
  have HR0 := Lib.hid (fun (h : ¬ a ≤ last) (h1 : rl.all keyB = false) => show rtake l last cl sq a rl wl = (1, l, last) by unfold rtake; rw [if_neg h, if_pos h1])
  have HR1 := Lib.hid (fun (h : (¬ a ≤ last) ∧ rl.all keyB = true) (h1 : wl.all keyB = false) => show rtake l last cl sq a rl wl = (1, l, last) by unfold rtake; rw [if_neg h.1, if_neg (by rw [h.2]; simp), if_pos h1])
  have HR2 := Lib.hid (fun (h : ¬ a ≤ last) (h1 : rl.all keyB = true) (h2 : wl.all keyB = true) => show rtake l last cl sq a rl wl = if (l.any fun r => r.held cl sq) = true then (7, l, last)
      else if (rl.any fun k => rbusyB l k false) = true then (11, l, last)
      else if (wl.any fun k => rbusyB l k true) = true then (11, l, last)
      else (0, l ++ rowsOf cl sq a rl wl, a) by unfold rtake; rw [if_neg h, if_neg (by rw [h1]; simp), if_neg (by rw [h2]; simp)])
  generalize rtake l last cl sq a rl wl = R at *
  obtain ⟨wa, hwa⟩ : ∃ wa, w.alloc (.cells #[.int .i64 cl, .int .u64 sq] 31) = wa := ⟨_, rfl⟩
  have hua : Upd NoB w wa := by rw [← hwa]; exact (Upd.refl _ _).alloc _
  have hB : wa.heap[w.heap.size]? = some (.cells #[.int .i64 cl, .int .u64 sq] 31 (0, 0)) := by rw [← hwa]; exact heap_alloc_new _ _
  have hcl := Lib.hid (fun x (hx : Upd NoB wa x) => two_cells (hx.heap hB (fun h => h)))
  have hct := Lib.hid (fun x (hx : Upd NoB w x) => two_cells (hx.heap H1.out (fun h => h)))
  have hsz : w.heap.size < wa.heap.size := lt_of_heap hB
  obtain ⟨p0, p1⟩ := hct.out wa hua
  have HUa := Lib.hid hua
  clear hB h h1 h2 hua
  by_cases ha : a ≤ last
  · have had : decide (a ≤ last) = true := decide_eq_true ha
    have hR := HR00.out ha
    have HR := Lib.hid hR
    clear ha hR
    go_enter Try.func19, Try.ntmps19
    go_wp2_with fail
    go_ret
    exact ⟨by rw [HR.out]; rfl, by rw [HR.out]; exact HK.out _ HUa.out, HUa.out.mono (fun _ _ h => h.elim)⟩
  have had : decide (a ≤ last) = false := decide_eq_false ha
  have HA := Lib.hid ha
  obtain ⟨wb, hwb⟩ : ∃ wb, wa.alloc (.cells #[.slice Ar rl.length cr, .slice Aw wl.length cw] 32) = wb := ⟨_, rfl⟩
  have hub : Upd NoB wa wb := by rw [← hwb]; exact (Upd.refl _ _).alloc _
  have hB : wb.heap[wa.heap.size]? = some (.cells #[.slice Ar rl.length cr, .slice Aw wl.length cw] 32 (0, 0)) := by rw [← hwb]; exact heap_alloc_new _ _
  have hcs := Lib.hid (fun x (hx : Upd NoB wb x) => two_cells (hx.heap hB (fun h => h)))
  have HUab := Lib.hid hub
  have HUb := Lib.hid (HUa.out.trans hub)
  have HVb := Lib.hid (Upd.refl NoB wb)
  clear ha hub hB
  go_enter Try.func19, Try.ntmps19
  go_wp2_with fail
  go_loopw [12, 30] (fun x12 i wr' => ∃ k : Nat, k ≤ 2 ∧ i = .int .i64 k ∧ Hid ((1 ≤ k → rl.all keyB = true) ∧ (2 ≤ k → wl.all keyB = true)) ∧ Hid (Upd NoB wb wr')) (fun _ i _ => 2 - (intOf i).toNat)
  case atStart => exact ⟨0, by omega, rfl, Lib.hid ⟨by omega, by omega⟩, HVb⟩
  case round =>
    obtain ⟨kk, hkk, rfl, hRG, hV⟩ := hrel
    obtain ⟨s0, s1⟩ := hcs.out _ hV.out
    rcases (show kk = 0 ∨ kk = 1 ∨ kk = 2 by omega) with rfl | rfl | rfl
    · skip
      have hx1 := HX0.out
      go_wp2_with fail
      go_loopw [14, 36] (fun x14 i wr => ∃ k : Nat, k ≤ rl.length ∧ i = .int .i64 k ∧ Hid (NoneOf (fun s => !keyB s) rl k) ∧ Hid (Upd NoB wb wr)) (fun _ i _ => rl.length - (intOf i).toNat)
      case atStart => exact ⟨0, by omega, rfl, Lib.hid (NoneOf.zero _ _), hV⟩
      case round =>
        obtain ⟨k, hk, rfl, hN, hV⟩ := hrel
        by_cases hlt : k < rl.length
        · obtain ⟨g, o, u, rfl, hu, hcell, hg⟩ := HX0.out.cell1 rfl k hlt
          obtain ⟨hu1, hu2⟩ := hu
          cases hu1
          have c0 := (HUb.out.trans hV.out).cell hcell (fun h => h)
          have hx := Lib.hid (show rl[k]? = some rl[k] from List.getElem?_eq_getElem hlt)
          have hcall := Lib.hid (refkey_any rl[k] wr hu2)
          generalize rl[k] = x at *
          clear hcell hx1
          cases hb : keyB x
          · rw [hb] at hcall
            have hres := Lib.hid (all_not hx.out hb)
            clear hb
            go_wp2_with fail
            refine hcall.out.mono ?_
            rintro e w2 ⟨rfl, rfl⟩
            go_wp2_with fail
            go_ret
            have hR := HR0.out HA.out hres.out
            exact ⟨by rw [hR]; rfl, by rw [hR]; exact HK.out _ (HUb.out.trans hV.out), (HUb.out.trans hV.out).mono (fun _ _ h => h.elim)⟩
          · rw [hb] at hcall
            have hN2 := Lib.hid (hN.out.next hx.out (by simp [hb]))
            clear hb
            go_wp2_with fail
            refine hcall.out.mono ?_
            rintro e w2 ⟨rfl, rfl⟩
            go_wp2_with fail
            go_roundw
            case measure => simp [intOf]; omega
            case rel =>
              (repeat apply Exists.intro)
              refine ⟨⟨k + 1, by omega, ?_, hN2, hV⟩, rfl⟩
              go_num
        · obtain rfl : k = rl.length := by omega
          have hall := Lib.hid (all_of_none hN.out)
          clear hN
          go_wp2_with fail
          go_roundw
          case measure => simp [intOf]
          case rel => exact ⟨0 + 1, by omega, rfl, Lib.hid ⟨fun _ => hall.out, by omega⟩, hV⟩
    · skip
      have hx1 := HX1.out
      go_wp2_with fail
      go_loopw [14, 36] (fun x14 i wr => ∃ k : Nat, k ≤ wl.length ∧ i = .int .i64 k ∧ Hid (NoneOf (fun s => !keyB s) wl k) ∧ Hid (Upd NoB wb wr)) (fun _ i _ => wl.length - (intOf i).toNat)
      case atStart => exact ⟨0, by omega, rfl, Lib.hid (NoneOf.zero _ _), hV⟩
      case round =>
        obtain ⟨k, hk, rfl, hN, hV⟩ := hrel
        by_cases hlt : k < wl.length
        · obtain ⟨g, o, u, rfl, hu, hcell, hg⟩ := HX1.out.cell1 rfl k hlt
          obtain ⟨hu1, hu2⟩ := hu
          cases hu1
          have c0 := (HUb.out.trans hV.out).cell hcell (fun h => h)
          have hx := Lib.hid (show wl[k]? = some wl[k] from List.getElem?_eq_getElem hlt)
          have hcall := Lib.hid (refkey_any wl[k] wr hu2)
          generalize wl[k] = x at *
          clear hcell hx1
          cases hb : keyB x
          · rw [hb] at hcall
            have hres := Lib.hid (all_not hx.out hb)
            clear hb
            go_wp2_with fail
            refine hcall.out.mono ?_
            rintro e w2 ⟨rfl, rfl⟩
            go_wp2_with fail
            go_ret
            have hR := HR1.out ⟨HA.out, hRG.out.1 (by omega)⟩ hres.out
            exact ⟨by rw [hR]; rfl, by rw [hR]; exact HK.out _ (HUb.out.trans hV.out), (HUb.out.trans hV.out).mono (fun _ _ h => h.elim)⟩
          · rw [hb] at hcall
            have hN2 := Lib.hid (hN.out.next hx.out (by simp [hb]))
            clear hb
            go_wp2_with fail
            refine hcall.out.mono ?_
            rintro e w2 ⟨rfl, rfl⟩
            go_wp2_with fail
            go_roundw
            case measure => simp [intOf]; omega
            case rel =>
              (repeat apply Exists.intro)
              refine ⟨⟨k + 1, by omega, ?_, hN2, hV⟩, rfl⟩
              go_num
        · obtain rfl : k = wl.length := by omega
          have hall := Lib.hid (all_of_none hN.out)
          clear hN
          go_wp2_with fail
          go_roundw
          case measure => simp [intOf]
          case rel => exact ⟨1 + 1, by omega, rfl, Lib.hid ⟨fun _ => hRG.out.1 (by omega), fun _ => hall.out⟩, hV⟩
    · have hR := HR2.out HA.out (hRG.out.1 (by omega)) (hRG.out.2 (by omega))
      have HR := Lib.hid hR
      obtain ⟨i0, i1⟩ := hcl.out wr (HUab.out.trans hV.out)
      have HHo := Lib.hid (rholds_any w0 xs q l last cl sq wr (HK.out _ (HUb.out.trans hV.out)))
      have HUw := Lib.hid (HUb.out.trans hV.out)
      have HUaw := Lib.hid (HUab.out.trans hV.out)
      clear hR HR2 HR1 HR0 HR00 hRG s0 s1 hcs
      generalize hHb : (l.any fun r => r.held cl sq) = Hb at *
      clear hHb
      go_wp2_with fail
      refine HHo.out.mono ?_
      rintro e wc ⟨rfl, hu⟩
      have HUc := Lib.hid (HUw.out.trans hu)
      have HUac := Lib.hid (HUaw.out.trans hu)
      obtain ⟨i0, i1⟩ := hcl.out wc HUac.out
      have hHsz : w.heap.size ≤ wc.heap.size := HUc.out.size
      clear hu
      cases Hb
      case true =>
        go_wp2_with fail
        go_ret
        exact ⟨by rw [HR.out]; rfl, by rw [HR.out]; exact HK.out _ HUc.out, HUc.out.mono (fun _ _ h => h.elim)⟩
      case false =>
        have HR0 := Lib.hid (fun (h : (rl.any fun k => rbusyB l k false) = true) => show R = (11, l, last) by rw [HR.out, if_neg (by simp), if_pos h])
        have HR1 := Lib.hid (fun (h0 : (rl.any fun k => rbusyB l k false) = false) (h : (wl.any fun k => rbusyB l k true) = true) => show R = (11, l, last) by rw [HR.out, if_neg (by simp), if_neg (by rw [h0]; simp), if_pos h])
        have HR2 := Lib.hid (fun (h0 : (rl.any fun k => rbusyB l k false) = false) (h : (wl.any fun k => rbusyB l k true) = false) => show R = (0, l ++ rowsOf cl sq a rl wl, a) by rw [HR.out, if_neg (by simp), if_neg (by rw [h0]; simp), if_neg (by rw [h]; simp)])
        have HM0 := Lib.hid (show Mine Rep.rwl 39 wc (wc.alloc (.cells #[.int .i64 cl, .int .u64 sq, .string ⟨#[]⟩, .bool false, .int .i64 a, .int .i64 0] 39)) (.slice (some ⟨wc.heap.size, 0, none⟩) 1 1) (rr cl sq a rl 0) from
          ⟨OSl.lit (r := Rep.rwl) (T := NoB) (l := rr cl sq a rl 0) #[.int .i64 cl, .int .u64 sq, .string ⟨#[]⟩, .bool false, .int .i64 a, .int .i64 0] 1 rfl (by decide) ⟨_, [], rfl, ⟨rfl, Nat.zero_le _⟩, rfl⟩ (fun _ h => h.elim) (fun _ h => h.elim) ⟨.inr (Nat.le_refl _), by simp⟩, (Upd.refl _ _).alloc _⟩)
        clear HR
        go_wp2_with fail
        go_loopw [15, 17, 54] (fun x15 xk i wr => ∃ k : Nat, k ≤ rl.length ∧ i = .int .i64 k ∧ Hid (NoneOf (fun s => rbusyB l s false) rl k) ∧ Hid (Mine Rep.rwl 39 wc wr x15 (rr cl sq a rl k))) (fun _ _ i _ => rl.length - (intOf i).toNat)
        case atStart => exact ⟨0, by omega, rfl, Lib.hid (NoneOf.zero _ _), HM0⟩
        case round =>
          obtain ⟨k, hk, rfl, hN, hM⟩ := hrel
          have hUw := Lib.hid (HUc.out.trans hM.out.2)
          by_cases hlt : k < rl.length
          · obtain ⟨g, o, u, rfl, hu, hcell, hg⟩ := HX0.out.cell1 rfl k hlt
            obtain ⟨hu1, hu2⟩ := hu
            cases hu1
            have c0 := hUw.out.cell hcell (fun h => h)
            have hx := Lib.hid (show rl[k]? = some rl[k] from List.getElem?_eq_getElem hlt)
            have hcall := Lib.hid (show Calls Try.prog 22 #[.pointer (some ⟨q, 0, none⟩), .string rl[k], .bool false] wr fun e w' => e = .returned (.bool (rbusyB l rl[k] false)) ∧ Upd NoB wr w' from rbusy_any w0 xs q l last rl[k] false wr (HK.out _ hUw.out))
            generalize rl[k] = x at *
            clear hcell
            cases hb : rbusyB l x false
            · rw [hb] at hcall
              have hN2 := Lib.hid (hN.out.next hx.out hb)
              clear hb
              go_wp2_with fail
              refine hcall.out.mono ?_
              rintro e w2 ⟨rfl, hu⟩
              have hM2 := Lib.hid (hM.out.upd hu)
              obtain ⟨i0, i1⟩ := hcl.out w2 (HUac.out.trans hM2.out.2)
              have HO2 := Lib.hid hM2.out.1
              have HB2 := Lib.hid hM2.out.bd
              have hy := Lib.hid (show Rep.rwl.rep w2 NoB (rowR cl sq a x) #[.int .i64 cl, .int .u64 sq, .string x, .bool false, .int .i64 a, .int .i64 0].toList from ⟨rfl, hu2⟩)
              have hall : ((rr cl sq a rl k).length + 1) * 56 ≤ 140737488355328 := by have := rr_len cl sq a rl k; omega
              have hsuc := Lib.hid (rr_succ cl sq a rl k x hx.out)
              clear hu
              go_wp2_with (at_builtin; go_must (refine app_one (r := Rep.rwl) (y := rowR cl sq a x) rfl _ _ 26 39 (.agg #[.int .i64 0, .int .u64 0, .string ⟨#[]⟩, .bool false, .int .i64 0, .int .i64 0]) 56 rfl Try.underlying26 iRwl rfl (by decide) rfl rfl HO2.out HB2.out hy.out (fun b hb => hb.elim) hall ?_))
              intro v1 w3 ho3 hu3
              have fin := Lib.hid (show Mine Rep.rwl 39 wc w3 v1 (rr cl sq a rl (k + 1)) by rw [hsuc.out]; exact hM2.out.app ho3 hu3)
              clear ho3 hu3
              go_wp2_with fail
              go_roundw
              case measure => simp [intOf]; omega
              case rel =>
                first
                | exact ⟨k + 1, by omega, by go_num, hN2, fin⟩
                | ((repeat apply Exists.intro)
                   refine ⟨⟨k + 1, by omega, ?_, hN2, fin⟩, rfl⟩
                   go_num)
            · rw [hb] at hcall
              have hR := HR0.out (some_any (P := fun s => rbusyB l s false) hx.out hb)
              have HRx := Lib.hid hR
              clear hb hR
              go_wp2_with fail
              refine hcall.out.mono ?_
              rintro e w2 ⟨rfl, hu⟩
              have HU2 := Lib.hid (hUw.out.trans hu)
              clear hu
              go_wp2_with fail
              go_ret
              exact ⟨by rw [HRx.out]; rfl, by rw [HRx.out]; exact HK.out _ HU2.out, HU2.out.mono (fun _ _ h => h.elim)⟩
          · obtain rfl : k = rl.length := by omega
            have hno0 := Lib.hid (none_any hN.out)
            clear hN
            have HR1 := Lib.hid (HR1.out hno0.out)
            have HR2 := Lib.hid (HR2.out hno0.out)
            have HM1 := Lib.hid (show Mine Rep.rwl 39 wc wr u15 (rr2 cl sq a rl wl 0) by unfold rr2; simpa using hM.out)
            go_wp2_with fail
            go_loopw [15, 19, 71] (fun x15 xk i wr => ∃ k : Nat, k ≤ wl.length ∧ i = .int .i64 k ∧ Hid (NoneOf (fun s => rbusyB l s true) wl k) ∧ Hid (Mine Rep.rwl 39 wc wr x15 (rr2 cl sq a rl wl k))) (fun _ _ i _ => wl.length - (intOf i).toNat)
            case atStart => exact ⟨0, by omega, rfl, Lib.hid (NoneOf.zero _ _), HM1⟩
            case round =>
              obtain ⟨k, hk, rfl, hN, hM⟩ := hrel
              have hUw := Lib.hid (HUc.out.trans hM.out.2)
              by_cases hlt : k < wl.length
              · obtain ⟨g, o, u, rfl, hu, hcell, hg⟩ := HX1.out.cell1 rfl k hlt
                obtain ⟨hu1, hu2⟩ := hu
                cases hu1
                have c0 := hUw.out.cell hcell (fun h => h)
                have hx := Lib.hid (show wl[k]? = some wl[k] from List.getElem?_eq_getElem hlt)
                have hcall := Lib.hid (show Calls Try.prog 22 #[.pointer (some ⟨q, 0, none⟩), .string wl[k], .bool true] wr fun e w' => e = .returned (.bool (rbusyB l wl[k] true)) ∧ Upd NoB wr w' from rbusy_any w0 xs q l last wl[k] true wr (HK.out _ hUw.out))
                generalize wl[k] = x at *
                clear hcell
                cases hb : rbusyB l x true
                · rw [hb] at hcall
                  have hN2 := Lib.hid (hN.out.next hx.out hb)
                  clear hb
                  go_wp2_with fail
                  refine hcall.out.mono ?_
                  rintro e w2 ⟨rfl, hu⟩
                  have hM2 := Lib.hid (hM.out.upd hu)
                  obtain ⟨i0, i1⟩ := hcl.out w2 (HUac.out.trans hM2.out.2)
                  have HO2 := Lib.hid hM2.out.1
                  have HB2 := Lib.hid hM2.out.bd
                  have hy := Lib.hid (show Rep.rwl.rep w2 NoB (rowW cl sq a x) #[.int .i64 cl, .int .u64 sq, .string x, .bool true, .int .i64 a, .int .i64 0].toList from ⟨rfl, hu2⟩)
                  have hall : ((rr2 cl sq a rl wl k).length + 1) * 56 ≤ 140737488355328 := by have := rr2_len cl sq a rl wl k; omega
                  have hsuc := Lib.hid (rr2_succ cl sq a rl wl k x hx.out)
                  clear hu
                  go_wp2_with (at_builtin; go_must (refine app_one (r := Rep.rwl) (y := rowW cl sq a x) rfl _ _ 26 39 (.agg #[.int .i64 0, .int .u64 0, .string ⟨#[]⟩, .bool false, .int .i64 0, .int .i64 0]) 56 rfl Try.underlying26 iRwl rfl (by decide) rfl rfl HO2.out HB2.out hy.out (fun b hb => hb.elim) hall ?_))
                  intro v1 w3 ho3 hu3
                  have fin := Lib.hid (show Mine Rep.rwl 39 wc w3 v1 (rr2 cl sq a rl wl (k + 1)) by rw [hsuc.out]; exact hM2.out.app ho3 hu3)
                  clear ho3 hu3
                  go_wp2_with fail
                  go_roundw
                  case measure => simp [intOf]; omega
                  case rel =>
                    first
                    | exact ⟨k + 1, by omega, by go_num, hN2, fin⟩
                    | ((repeat apply Exists.intro)
                       refine ⟨⟨k + 1, by omega, ?_, hN2, fin⟩, rfl⟩
                       go_num)
                · rw [hb] at hcall
                  have hR := HR1.out (some_any (P := fun s => rbusyB l s true) hx.out hb)
                  have HRx := Lib.hid hR
                  clear hb hR
                  go_wp2_with fail
                  refine hcall.out.mono ?_
                  rintro e w2 ⟨rfl, hu⟩
                  have HU2 := Lib.hid (hUw.out.trans hu)
                  clear hu
                  go_wp2_with fail
                  go_ret
                  exact ⟨by rw [HRx.out]; rfl, by rw [HRx.out]; exact HK.out _ HU2.out, HU2.out.mono (fun _ _ h => h.elim)⟩
              · obtain rfl : k = wl.length := by omega
                have hno1 := Lib.hid (none_any hN.out)
                clear hN
                have hR := HR2.out hno1.out
                have HRx := Lib.hid hR
                have hMf := hM.out
                rw [rr_rows] at hMf
                have hlr : (rowsOf cl sq a rl wl).length ≤ 2001 := by rw [← rr_rows]; have := rr2_len cl sq a rl wl wl.length; omega
                generalize rowsOf cl sq a rl wl = RO at *
                have HMf := Lib.hid hMf
                have HOw := Lib.hid (HO.out wr hUw.out)
                have HBw := Lib.hid (New.bd w0 wr xs)
                have HRd := Lib.hid hMf.1.read
                obtain ⟨q0, q1⟩ := hct.out wr hUw.out
                have hg1 := hUw.out.heap H1.out (fun h => h)
                have G1 := Lib.hid hg1
                have hnq : ¬ (Value.slice A l.length c).ownBlock = some q := fun e => (hown.out q e).2.2 hq
                have hall : (l.length + RO.length) * 56 ≤ 140737488355328 := by omega
                obtain ⟨Ax, cx, _, hux, _⟩ := hMf.1.read
                subst hux
                clear hMf hR hg1
                go_wp2_with (at_builtin; go_must (refine app_all (r := Rep.rwl) (v := .slice A l.length c) rfl _ _ 26 39 (.agg #[.int .i64 0, .int .u64 0, .string ⟨#[]⟩, .bool false, .int .i64 0, .int .i64 0]) 56 rfl Try.underlying26 iRwl rfl (by decide) rfl rfl HOw.out HBw.out HRd.out (fun cs hc => Rows.flat flat_rwl hc _ _) hall ?_))
                intro v1 w4 ho4 hu4
                have HN := Lib.hid (ho4.new_app (Nat.le_trans h0 hUw.out.size) (fun x hx => Nat.lt_of_lt_of_le (hxs x hx) hUw.out.size))
                have HU4 := Lib.hid hu4
                have g1 := hu4.heap G1.out hnq
                have G4 := Lib.hid g1
                have f0 : w4.frozen? ⟨q, 0, none⟩ = false := by simp [World.frozen?, g1]
                have k0 : w4.cell? ⟨q, 0, none⟩ = some (.slice A l.length c) := (two_cells g1).1
                obtain ⟨A1, c1, _, e1, _⟩ := HN.out.read
                rw [List.length_append] at e1
                subst e1
                have G5 := heap_put G4.out 0 (.slice A1 (l.length + RO.length) c1)
                have U5 : Upd (fun b => b = q) w4 (w4.setCell ⟨q, 0, none⟩ (.slice A1 (l.length + RO.length) c1)) := (Upd.refl (fun b => b = q) w4).setCell (p := ⟨q, 0, none⟩) (fun _ => rfl) _
                obtain ⟨w5, hw5⟩ : ∃ w5, w4.setCell ⟨q, 0, none⟩ (.slice A1 (l.length + RO.length) c1) = w5 := ⟨_, rfl⟩
                rw [hw5] at G5 U5
                have G5' : w5.heap[q]? = some (.cells #[.slice A1 (l.length + RO.length) c1, .int .i64 last] 28 (0, 0)) := by simpa using G5
                have m1 := (two_cells G5').2
                have m2 : w5.frozen? ⟨q, 1, none⟩ = false := by simp [World.frozen?, G5']
                have G6 := Lib.hid (heap_put G5' 1 (.int .i64 a))
                have U6 := Lib.hid (U5.setCell (p := ⟨q, 1, none⟩) (fun _ => rfl) (.int .i64 a))
                clear ho4 hu4 g1 G5 G5' U5
                go_wp2_with fail
                go_ret
                refine ⟨by rw [HRx.out]; rfl, ?_, ?_⟩
                · rw [HRx.out]
                  exact ⟨_, by simpa using G6.out, HN.out.new_keep U6.out (fun b hb => .inl (by rw [show b = q from hb]; exact hq))⟩
                · refine ((hUw.out.mono (fun _ _ h => h.elim)).then HU4.out (fun i hi e => ?_)).then U6.out (fun i hi e => .inl e)
                  obtain ⟨a1, a2, a3⟩ := hown.out i e
                  exact .inr ⟨a1, hi, a3⟩
end Go.Proofs.Ytobfolkcpfaplaa
