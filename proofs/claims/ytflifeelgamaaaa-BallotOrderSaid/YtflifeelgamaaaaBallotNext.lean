/- The next ballot of a node is as the chapter says (BallotNext): the printed walk's function answers true. -/
import Derived.Test.YtflifeelgamaaaaPBallotNextx3
import Derived.Test.YtflifeelgamaaaaKit
namespace Go.Proofs.Ytflifeelgamaaaa
open Go.RowKit Go.Proofs.Ytflifeelgamaaaa.PBallotNext Go.Proofs.YtflifeelgamaaaaW.PrintWords Go.Proofs.YtflifeelgamaaaaW.PrintLast Go.Proofs.YtflifeelgamaaaaW.PrintMore

theorem next_awake (k : Nat) : PBallotNext.sautoirlaw07_awake.f (k + 8) = some true := by
  have e1 : ballot_Votes_With.f 0 0 = some 1 := by decide +kernel
  have e2 : ballot_Votes_With.f 1 2 = some 5 := by decide +kernel
  have h0 : ballot_Votes_Has.f 5 0 = some true := by decide +kernel
  have h1 : ballot_Votes_Has.f 5 1 = some false := by decide +kernel
  have h2 : ballot_Votes_Has.f 5 2 = some true := by decide +kernel
  have h3 : ballot_Votes_Has.f 5 3 = some false := by decide +kernel
  have h4 : ballot_Votes_Has.f 5 4 = some false := by decide +kernel
  simp [PBallotNext.sautoirlaw07_awake.f, e1, e2, ballot_Votes_Wins.f, ballot_Votes_Len.f, ballot_Votes_among.f, ballot_Votes_among.l0, mx, mn, wrap64, h0, h1, h2, h3, h4]

theorem ballotNext_pure (r n node : Int) (hr : (Lit.int .u64 r).wf = true) : sautoirlaw07_BallotNext.f 9 r n node = some true := by
  have hb : 0 ≤ r ∧ r ≤ 18446744073709551615 := by
    simp [Lit.wf, IntKind.min, IntKind.max, IntKind.signed, IntKind.bits] at hr
    omega
  have w8 := next_awake 0
  simp only [Nat.zero_add] at w8
  have ew : r ≠ 18446744073709551615 → IntKind.u64.wrap (r + 1) = r + 1 := by
    intro h
    simp only [IntKind.wrap, IntKind.bits, IntKind.signed]
    simp
    omega
  unfold sautoirlaw07_BallotNext.f sautoirlaw07_Ours.f ballot_Next.f ballot_master.f
  by_cases c1 : node < 0
  · simp [c1, sautoirlaw07_BallotNext.j0, w8, show ¬ 0 ≤ node by omega]
  · by_cases c2 : node < 5
    · by_cases c3 : r = 18446744073709551615
      · simp [c1, c2, c3, sautoirlaw07_BallotNext.j0, w8, show 0 ≤ node by omega, show ¬ 4 < node by omega]
      · simp [c1, c2, c3, sautoirlaw07_BallotNext.j0, w8, show 0 ≤ node by omega, show ¬ 4 < node by omega, ew c3, sautoirlaw07_Ours.f, ballot_Less.f, show r < r + 1 by omega]
    · simp [c1, c2, sautoirlaw07_BallotNext.j0, w8, show 0 ≤ node by omega, show 4 < node by omega]

theorem ballotNext_walk (r n node : Int) (w : World) (hr : (Lit.int .u64 r).wf = true) :
    Calls Try.prog 8 #[.agg #[.int .u64 r, .int .i64 n], .int .i64 node] w fun e w' => e = .returned (.bool true) ∧ Kit.Upd Kit.NoB w w' :=
  (sautoirlaw07_BallotNext.calls 9 r n node true w (ballotNext_pure r n node hr)).mono fun _ _ ⟨h, b⟩ => ⟨h, Kit.Upd.of_below b _⟩
end Go.Proofs.Ytflifeelgamaaaa
