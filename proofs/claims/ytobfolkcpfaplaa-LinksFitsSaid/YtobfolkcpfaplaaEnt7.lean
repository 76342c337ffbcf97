/- Entries of a log, any: is each key there once; may all values be; may a transaction be? -/
import Derived.Test.YtobfolkcpfaplaaEnt6
import Derived.Deep.Cut
namespace Go.Proofs.Ytobfolkcpfaplaa
open Go.RowKit Kit
set_option linter.unusedVariables false
theorem any_take_succ (l : List ByteArray) (k : Nat) (hk : k < l.length) (s : ByteArray) : (l.take (k + 1)).any (fun y => decide (y = s)) = ((l.take k).any (fun y => decide (y = s)) || decide (l[k] = s)) := by
  rw [List.take_succ_eq_append_getElem hk, List.any_append]
  simp
/-- What has been seen of the first k keys. -/
def seenF (l : List ByteArray) (k : Nat) : ByteArray → Int := fun s => if (l.take k).any (fun y => decide (y = s)) = true then 1 else 0
theorem okK_at {l : List ByteArray} {k : Nat} (hk : k < l.length) : okK l k = (keyO l[k] && !((l.take k).any fun y => decide (y = l[k]))) := by
  unfold okK
  rw [List.getD_eq_getElem?_getD, List.getElem?_eq_getElem hk]
  rfl
theorem seenF_next {l : List ByteArray} {k : Nat} (hk : k < l.length) (h : (l.take k).any (fun y => decide (y = l[k])) = false) : (fun x => if x = l[k] then 1 else seenF l k x) = seenF l (k + 1) := by
  funext s
  unfold seenF
  rw [any_take_succ l k hk s]
  by_cases e : s = l[k]
  · rw [if_pos e, if_pos (by simp [e])]
  · rw [if_neg e]
    have : decide (l[k] = s) = false := decide_eq_false (fun h => e h.symm)
    rw [this, Bool.or_false]
set_option maxHeartbeats 4000000 in
set_option maxRecDepth 100000 in
theorem once_any {S : Nat → Prop} (v : Value) (l : List ByteArray) (w : World) (h : RSl Rep.str w S v l) (hl : l.length ≤ 100000) :
    Calls Try.prog 88 #[v] w fun e w' => e = .returned (.bool (allB (okK l) l.length)) ∧ Upd NoB w w' := by
  have HX := Lib.hid h
  obtain ⟨A, c, _, rfl, d1, d2, _⟩ := h
  have d2' : c ≤ 9223372036854775807 := d2
  have hmk := fun w => run_makeMap (P := Try.prog) 147 w
  have HS0 := Lib.hid (Seen.new w)
  have HU0 := Lib.hid ((Upd.refl NoB w).alloc (.map #[] 0))
  have HN := Lib.hid (fun k (hk : k < l.length) (h : okK l k = false) => allB_no (n := l.length) h hk)
  go_enter Try.func88, Try.ntmps88
  go_wp2_with fail
  go_loopw [9] (fun x9 wr => ∃ k : Nat, k ≤ l.length ∧ x9 = .int .i64 k ∧ Hid (allB (okK l) k = true) ∧ Hid (Seen wr w.heap.size k (seenF l k)) ∧ Hid (Upd NoB w wr)) (fun x9 _ => l.length - (intOf x9).toNat)
  case atStart => exact ⟨0, by omega, rfl, Lib.hid rfl, Lib.hid (by rw [show seenF l 0 = fun _ => 0 from by funext s; simp [seenF]]; exact HS0.out), HU0⟩
  case round =>
    clear HS0 HU0
    obtain ⟨k, hk, rfl, hA, hS, hU⟩ := hrel
    by_cases hlt : k < l.length
    · obtain ⟨g, o, u, rfl, hrep, hcell, _⟩ := HX.out.cell1 rfl k hlt
      obtain ⟨hr1, hr2⟩ := hrep
      cases hr1
      have c0 : wr.cell? ⟨g, o + k, none⟩ = some (.string l[k]) := hU.out.cell hcell (fun h => h)
      have hok := okK_at hlt
      have hok' := Lib.hid hok
      have hl1 := hS.out.look hr2
      have hky := Lib.hid (fun w => okeyo_any l[k] w hr2)
      have hk6 : k < 1000000 := by omega
      by_cases hin : (l.take k).any (fun y => decide (y = l[k])) = true
      · have hf : seenF l k l[k] = 1 := by unfold seenF; rw [if_pos hin]
        rw [hf] at hl1
        have hwp : IntKind.i64.wrap (1 + 1) = 2 := by decide
        obtain ⟨w2, hput, hS2, hU2⟩ := hS.out.put hr2 hk6 (v := 2) (by decide)
        have hl2 := hS2.look hr2
        simp only [if_true] at hl2
        have hfin := Lib.hid (show allB (okK l) l.length = false from HN.out k hlt (by rw [hok, hin]; simp))
        have HU3 := Lib.hid (hU.out.then hU2 (fun i hi e => by have e' : i = w.heap.size := e; omega))
        clear hin hf hok HX hS2 hU2
        generalize l[k] = x at *
        cases hkb : keyO x
        · rw [hkb] at hky
          clear hkb
          skip
          go_wp2_with fail
          refine (hky.out _).mono ?_
          rintro e w3 ⟨rfl, rfl⟩
          go_wp2_with fail
          go_ret
          exact ⟨by rw [hfin.out]; rfl, HU3.out⟩
        · rw [hkb] at hky
          clear hkb
          skip
          go_wp2_with fail
          refine (hky.out _).mono ?_
          rintro e w3 ⟨rfl, rfl⟩
          go_wp2_with fail
          go_ret
          exact ⟨by rw [hfin.out]; rfl, HU3.out⟩
      · have hin' : (l.take k).any (fun y => decide (y = l[k])) = false := Bool.eq_false_iff.2 hin
        have hf : seenF l k l[k] = 0 := by unfold seenF; rw [if_neg hin]
        rw [hf] at hl1
        have hwp : IntKind.i64.wrap (0 + 1) = 1 := by decide
        obtain ⟨w2, hput, hS2, hU2⟩ := hS.out.put hr2 hk6 (v := 1) (by decide)
        have hl2 := hS2.look hr2
        simp only [if_true] at hl2
        rw [seenF_next hlt hin'] at hS2
        have HS2 := Lib.hid hS2
        have HU3 := Lib.hid (hU.out.then hU2 (fun i hi e => by have e' : i = w.heap.size := e; omega))
        rw [hin'] at hok hok'
        have hfin := Lib.hid (fun (h : keyO l[k] = false) => show allB (okK l) l.length = false from HN.out k hlt (by rw [hok, h]; rfl))
        have hnx := Lib.hid (fun (h : keyO l[k] = true) => show allB (okK l) (k + 1) = true from allB_succ hA.out (by rw [hok, h]; rfl))
        clear hin hin' hf hok hok' hS2 hU2
        generalize l[k] = x at *
        cases hkb : keyO x
        · rw [hkb] at hky
          replace hfin := Lib.hid (hfin.out hkb)
          clear hkb hnx
          skip
          go_wp2_with fail
          refine (hky.out _).mono ?_
          rintro e w3 ⟨rfl, rfl⟩
          go_wp2_with fail
          go_ret
          exact ⟨by rw [hfin.out]; rfl, HU3.out⟩
        · rw [hkb] at hky
          replace hnx := Lib.hid (hnx.out hkb)
          clear hkb hfin
          skip
          go_wp2_with fail
          refine (hky.out _).mono ?_
          rintro e w3 ⟨rfl, rfl⟩
          go_wp2_with fail
          go_roundw
          case measure => simp [intOf]; omega
          case rel => exact ⟨k + 1, by omega, by go_num, hnx, HS2, HU3⟩
    · obtain rfl : k = l.length := by omega
      go_wp2_with fail
      go_ret
      exact ⟨by rw [hA.out]; rfl, hU.out⟩
theorem okV_at {l : List Wt} {k : Nat} (hk : k < l.length) : okV l k = (valO l[k].val && !(l[k].gone && !decide (l[k].val.size = 0))) := by
  unfold okV
  rw [List.getD_eq_getElem?_getD, List.getElem?_eq_getElem hk]
  rfl
set_option maxHeartbeats 4000000 in
set_option maxRecDepth 100000 in
theorem values_any {S : Nat → Prop} (tc tq : Int) (pl : Bool) (rd : List Rd) (wt : List Wt) (A B : Option Addr) (c d : Nat) (w : World) (h1 : RSl Rep.rd w S (.slice A rd.length c) rd) (h2 : RSl Rep.wt w S (.slice B wt.length d) wt) (hn : wt.length ≤ 100000) :
    Calls Try.prog 91 #[.agg #[.int .i64 tc, .int .u64 tq, .bool pl, .slice A rd.length c, .slice B wt.length d]] w fun e w' => e = .returned (.bool (allB (okV wt) wt.length)) ∧ Upd NoB w w' := by
  have HX := Lib.hid h2
  clear h1 h2
  have H0 := Lib.hid (fun o => (Upd.refl NoB w).alloc o)
  have HN := Lib.hid (fun k (hk : k < wt.length) (h : okV wt k = false) => allB_no (n := wt.length) h hk)
  go_enter Try.func91, Try.ntmps91
  go_wp2_with fail
  go_loopw [8] (fun x8 wr => ∃ k : Nat, k ≤ wt.length ∧ x8 = .int .i64 k ∧ Hid (allB (okV wt) k = true) ∧ Hid (Upd NoB w wr)) (fun x8 _ => wt.length - (intOf x8).toNat)
  case atStart => exact ⟨0, by omega, rfl, Lib.hid rfl, Lib.hid (H0.out _)⟩
  case round =>
    clear H0
    obtain ⟨k, hk, rfl, hA, hU⟩ := hrel
    by_cases hlt : k < wt.length
    · obtain ⟨g, o, rcs, rfl, hrep, hcs, _⟩ := HX.out.cellN k hlt
      obtain ⟨hr1, hr2, hr3⟩ := hrep
      subst hr1
      have hu := hU.out
      have c0 : wr.cell? ⟨g, o + k * 3, none⟩ = some (.string wt[k].key) := hu.cell (hcs 0 _ rfl) (fun h => h)
      have c1 : wr.cell? ⟨g, o + k * 3 + 1, none⟩ = some (.string wt[k].val) := hu.cell (hcs 1 _ rfl) (fun h => h)
      have c2 : wr.cell? ⟨g, o + k * 3 + 2, none⟩ = some (.bool wt[k].gone) := hu.cell (hcs 2 _ rfl) (fun h => h)
      have hok := Lib.hid (okV_at hlt)
      have hv := Lib.hid (fun z => rightval_any wt[k].val z hr3)
      generalize wt[k] = x at *
      obtain ⟨ky, vl, gn⟩ := x
      simp only at c0 c1 c2
      dsimp only at hok hv
      obtain ⟨wa, hwa⟩ : ∃ wa, wr.alloc (.cells #[.string ky, .string vl, .bool gn] 131) = wa := ⟨_, rfl⟩
      have hua : Upd NoB wr wa := by rw [← hwa]; exact (Upd.refl _ _).alloc _
      have hBa : wa.heap[wr.heap.size]? = some (.cells #[.string ky, .string vl, .bool gn] 131 (0, 0)) := by rw [← hwa]; exact heap_alloc_new _ _
      have e0 : wa.cell? ⟨wr.heap.size, 0, none⟩ = some (.string ky) := by simp [World.cell?, hBa]
      have e1 : wa.cell? ⟨wr.heap.size, 1, none⟩ = some (.string vl) := by simp [World.cell?, hBa]
      have e2 : wa.cell? ⟨wr.heap.size, 2, none⟩ = some (.bool gn) := by simp [World.cell?, hBa]
      have HUa := Lib.hid (hU.out.trans hua)
      obtain ⟨n1, n2⟩ := str_nil vl
      clear hu hua hBa hr2 hr3 hcs
      go_upto_region 4 with fail
      clear c0 c1 c2 hwa
      cases hz : valO vl
      · rw [hz] at hv hok
        have hfin := Lib.hid (show allB (okV wt) wt.length = false from HN.out k hlt (by rw [hok.out]; rfl))
        skip
        go_wp2_with fail
        refine (hv.out _).mono ?_
        rintro e w3 ⟨rfl, rfl⟩
        go_wp2_with fail
        go_ret
        exact ⟨by rw [hfin.out]; rfl, HUa.out⟩
      · rw [hz] at hv hok
        cases gn
        · have hnx := Lib.hid (show allB (okV wt) (k + 1) = true from allB_succ hA.out (by rw [hok.out]; rfl))
          skip
          go_wp2_with fail
          refine (hv.out _).mono ?_
          rintro e w3 ⟨rfl, rfl⟩
          go_wp2_with fail
          go_roundw
          case measure => simp [intOf]; omega
          case rel => exact ⟨k + 1, by omega, by go_num, hnx, HUa⟩
        · by_cases hgone : vl.size = 0
          · have hgd : decide (vl.size = 0) = true := decide_eq_true hgone
            rw [hgd] at n1 n2
            have hnx := Lib.hid (show allB (okV wt) (k + 1) = true from allB_succ hA.out (by rw [hok.out]; simp [hgone]))
            skip
            go_wp2_with fail
            refine (hv.out _).mono ?_
            rintro e w3 ⟨rfl, rfl⟩
            go_wp2_with fail
            go_roundw
            case measure => simp [intOf]; omega
            case rel => exact ⟨k + 1, by omega, by go_num, hnx, HUa⟩
          · have hgd : decide (vl.size = 0) = false := decide_eq_false hgone
            rw [hgd] at n1 n2
            have hfin := Lib.hid (show allB (okV wt) wt.length = false from HN.out k hlt (by rw [hok.out]; simp [hgone]))
            skip
            go_wp2_with fail
            refine (hv.out _).mono ?_
            rintro e w3 ⟨rfl, rfl⟩
            go_wp2_with fail
            go_ret
            exact ⟨by rw [hfin.out]; rfl, HUa.out⟩
    · obtain rfl : k = wt.length := by omega
      go_wp2_with fail
      go_ret
      exact ⟨by rw [hA.out]; rfl, hU.out⟩
end Go.Proofs.Ytobfolkcpfaplaa
