/-
  No cell of these rows narrows 'for every input' (looked for: loops, veiled, ifaces, maps, wideKeys, modest, calm, conditions, laid).
  DERIVED. THE GIVEN ROWS OF THIS SEAT. 12 by the template 'for every input the law returns true; each argument reads behind the call as it read before'; 0 by the template 'total and deterministic' (their statements: YtflifeelgamaaaaTotals.lean).
  GIVEN WITH THE SEED: the statements are not yours to turn. If you find one false, say at which input.
  Laid BY PROGRAM, IN A SANDBOX (cutbox-rows.mjs): the forced cells as the released guide's own fill.sh prints them over the translation 297765fb51f25b98… (all of the seat's roots in one cut). By AI agents, Wed Nov 11 2026. No macro, syntax, notation, axiom, sorry.
-/
import Derived.Test.YtflifeelgamaaaaChecked
import GoSem.Claim
import GoSem.ClaimJoined
import GoSem.ClaimMapViews
import Derived.JoinedTies
import Derived.KernelRfl
namespace Go.Proofs.Ytflifeelgamaaaa
/- THE CELL 'sum', in the pinned program and in every row, IS THE sha256 OF THE DUMP (.gsa) THAT YtflifeelgamaaaaProg.lean LOADS. Nothing in Lean hashes anything: it is a label: what it is worth is what the hold of that sum in a sandbox is worth. -/
noncomputable def Try.pinned : Pinned := { name := "ytflifeelgamaaaa", sum := "297765fb51f25b981596ea3cbd5d8fddb65e6f948fdd7b1be47900457aad0f7b", checked := Try.checked }
namespace Rows
def none {H : Type} : Left H := { results := [], args := [] }

/-- 'sautoirlaw07.BallotVotes': WHATEVER THE INPUT: true; the input reads as it did. -/
def ballotVotesSpec : ChangeSpec := { name := "ballotVotes", fn := fun _ => fun
  | [d1, d2, d3] => { results := [.lit (.bool true)], args := [d1, d2, d3] }
  | _ => none }
def ballotVotesRow : OpenClaim := { program := "ytflifeelgamaaaa", sum := "297765fb51f25b981596ea3cbd5d8fddb65e6f948fdd7b1be47900457aad0f7b", func := "sautoir/sautoirlaw07.BallotVotes", spec := "ballotVotes", apart := false }
def BallotVotesSaid : Prop := ballotVotesRow.holds Try.pinned (OpenSpec.ofChange ballotVotesSpec)

/-- ITS FALSE NEIGHBOUR: 'it returns false'. Refute it at one input. -/
def ballotVotesWrong : ChangeSpec := { name := "ballotVotes", fn := fun _ => fun
  | [d1, d2, d3] => { results := [.lit (.bool false)], args := [d1, d2, d3] }
  | _ => none }
def BallotVotesWrongFalsely : Prop := ballotVotesRow.holds Try.pinned (OpenSpec.ofChange ballotVotesWrong)

/-- 'sautoirlaw07.BallotMeet': WHATEVER THE INPUT: true; the input reads as it did. -/
def ballotMeetSpec : ChangeSpec := { name := "ballotMeet", fn := fun _ => fun
  | [d1, d2, d3] => { results := [.lit (.bool true)], args := [d1, d2, d3] }
  | _ => none }
def ballotMeetRow : OpenClaim := { program := "ytflifeelgamaaaa", sum := "297765fb51f25b981596ea3cbd5d8fddb65e6f948fdd7b1be47900457aad0f7b", func := "sautoir/sautoirlaw07.BallotMeet", spec := "ballotMeet", apart := false }
def BallotMeetSaid : Prop := ballotMeetRow.holds Try.pinned (OpenSpec.ofChange ballotMeetSpec)

/-- ITS FALSE NEIGHBOUR: 'it returns false'. Refute it at one input. -/
def ballotMeetWrong : ChangeSpec := { name := "ballotMeet", fn := fun _ => fun
  | [d1, d2, d3] => { results := [.lit (.bool false)], args := [d1, d2, d3] }
  | _ => none }
def BallotMeetWrongFalsely : Prop := ballotMeetRow.holds Try.pinned (OpenSpec.ofChange ballotMeetWrong)

/-- 'sautoirlaw08.KeysRight': WHATEVER THE INPUT: true; the input reads as it did. -/
def keysRightSpec : ChangeSpec := { name := "keysRight", fn := fun _ => fun
  | [d] => { results := [.lit (.bool true)], args := [d] }
  | _ => none }
def keysRightRow : OpenClaim := { program := "ytflifeelgamaaaa", sum := "297765fb51f25b981596ea3cbd5d8fddb65e6f948fdd7b1be47900457aad0f7b", func := "sautoir/sautoirlaw08.KeysRight", spec := "keysRight", apart := false }
def KeysRightSaid : Prop := keysRightRow.holds Try.pinned (OpenSpec.ofChange keysRightSpec)

/-- ITS FALSE NEIGHBOUR: 'it returns false'. Refute it at one input. -/
def keysRightWrong : ChangeSpec := { name := "keysRight", fn := fun _ => fun
  | [d] => { results := [.lit (.bool false)], args := [d] }
  | _ => none }
def KeysRightWrongFalsely : Prop := keysRightRow.holds Try.pinned (OpenSpec.ofChange keysRightWrong)

/-- 'sautoirlaw08.KeysNumber': WHATEVER THE INPUT: true; the input reads as it did. -/
def keysNumberSpec : ChangeSpec := { name := "keysNumber", fn := fun _ => fun
  | [d1, d2] => { results := [.lit (.bool true)], args := [d1, d2] }
  | _ => none }
def keysNumberRow : OpenClaim := { program := "ytflifeelgamaaaa", sum := "297765fb51f25b981596ea3cbd5d8fddb65e6f948fdd7b1be47900457aad0f7b", func := "sautoir/sautoirlaw08.KeysNumber", spec := "keysNumber", apart := false }
def KeysNumberSaid : Prop := keysNumberRow.holds Try.pinned (OpenSpec.ofChange keysNumberSpec)

/-- ITS FALSE NEIGHBOUR: 'it returns false'. Refute it at one input. -/
def keysNumberWrong : ChangeSpec := { name := "keysNumber", fn := fun _ => fun
  | [d1, d2] => { results := [.lit (.bool false)], args := [d1, d2] }
  | _ => none }
def KeysNumberWrongFalsely : Prop := keysNumberRow.holds Try.pinned (OpenSpec.ofChange keysNumberWrong)

/-- 'sautoirlaw07.BallotOrder': WHATEVER THE INPUT: true; the input reads as it did. -/
def ballotOrderSpec : ChangeSpec := { name := "ballotOrder", fn := fun _ => fun
  | [d1, d2, d3] => { results := [.lit (.bool true)], args := [d1, d2, d3] }
  | _ => none }
def ballotOrderRow : OpenClaim := { program := "ytflifeelgamaaaa", sum := "297765fb51f25b981596ea3cbd5d8fddb65e6f948fdd7b1be47900457aad0f7b", func := "sautoir/sautoirlaw07.BallotOrder", spec := "ballotOrder", apart := false }
def BallotOrderSaid : Prop := ballotOrderRow.holds Try.pinned (OpenSpec.ofChange ballotOrderSpec)

/-- ITS FALSE NEIGHBOUR: 'it returns false'. Refute it at one input. -/
def ballotOrderWrong : ChangeSpec := { name := "ballotOrder", fn := fun _ => fun
  | [d1, d2, d3] => { results := [.lit (.bool false)], args := [d1, d2, d3] }
  | _ => none }
def BallotOrderWrongFalsely : Prop := ballotOrderRow.holds Try.pinned (OpenSpec.ofChange ballotOrderWrong)

/-- 'sautoirlaw07.BallotNext': WHATEVER THE INPUT: true; the input reads as it did. -/
def ballotNextSpec : ChangeSpec := { name := "ballotNext", fn := fun _ => fun
  | [d1, d2] => { results := [.lit (.bool true)], args := [d1, d2] }
  | _ => none }
def ballotNextRow : OpenClaim := { program := "ytflifeelgamaaaa", sum := "297765fb51f25b981596ea3cbd5d8fddb65e6f948fdd7b1be47900457aad0f7b", func := "sautoir/sautoirlaw07.BallotNext", spec := "ballotNext", apart := false }
def BallotNextSaid : Prop := ballotNextRow.holds Try.pinned (OpenSpec.ofChange ballotNextSpec)

/-- ITS FALSE NEIGHBOUR: 'it returns false'. Refute it at one input. -/
def ballotNextWrong : ChangeSpec := { name := "ballotNext", fn := fun _ => fun
  | [d1, d2] => { results := [.lit (.bool false)], args := [d1, d2] }
  | _ => none }
def BallotNextWrongFalsely : Prop := ballotNextRow.holds Try.pinned (OpenSpec.ofChange ballotNextWrong)

/-- 'sautoirlaw01.OctetOne': WHATEVER THE INPUT: true; the input reads as it did. -/
def octetOneSpec : ChangeSpec := { name := "octetOne", fn := fun _ => fun
  | [d] => { results := [.lit (.bool true)], args := [d] }
  | _ => none }
def octetOneRow : OpenClaim := { program := "ytflifeelgamaaaa", sum := "297765fb51f25b981596ea3cbd5d8fddb65e6f948fdd7b1be47900457aad0f7b", func := "sautoir/sautoirlaw01.OctetOne", spec := "octetOne", apart := false }
def OctetOneSaid : Prop := octetOneRow.holds Try.pinned (OpenSpec.ofChange octetOneSpec)

/-- ITS FALSE NEIGHBOUR: 'it returns false'. Refute it at one input. -/
def octetOneWrong : ChangeSpec := { name := "octetOne", fn := fun _ => fun
  | [d] => { results := [.lit (.bool false)], args := [d] }
  | _ => none }
def OctetOneWrongFalsely : Prop := octetOneRow.holds Try.pinned (OpenSpec.ofChange octetOneWrong)

/-- 'sautoirlaw01.OctetApart': WHATEVER THE INPUT: true; the input reads as it did. -/
def octetApartSpec : ChangeSpec := { name := "octetApart", fn := fun _ => fun
  | [d1, d2, d3] => { results := [.lit (.bool true)], args := [d1, d2, d3] }
  | _ => none }
def octetApartRow : OpenClaim := { program := "ytflifeelgamaaaa", sum := "297765fb51f25b981596ea3cbd5d8fddb65e6f948fdd7b1be47900457aad0f7b", func := "sautoir/sautoirlaw01.OctetApart", spec := "octetApart", apart := false }
def OctetApartSaid : Prop := octetApartRow.holds Try.pinned (OpenSpec.ofChange octetApartSpec)

/-- ITS FALSE NEIGHBOUR: 'it returns false'. Refute it at one input. -/
def octetApartWrong : ChangeSpec := { name := "octetApart", fn := fun _ => fun
  | [d1, d2, d3] => { results := [.lit (.bool false)], args := [d1, d2, d3] }
  | _ => none }
def OctetApartWrongFalsely : Prop := octetApartRow.holds Try.pinned (OpenSpec.ofChange octetApartWrong)

/-- 'sautoirlaw01.OctetPuts': WHATEVER THE INPUT: true; the input reads as it did. -/
def octetPutsSpec : ChangeSpec := { name := "octetPuts", fn := fun _ => fun
  | [d1, d2, d3] => { results := [.lit (.bool true)], args := [d1, d2, d3] }
  | _ => none }
def octetPutsRow : OpenClaim := { program := "ytflifeelgamaaaa", sum := "297765fb51f25b981596ea3cbd5d8fddb65e6f948fdd7b1be47900457aad0f7b", func := "sautoir/sautoirlaw01.OctetPuts", spec := "octetPuts", recurses := true, apart := false }
def OctetPutsSaid : Prop := octetPutsRow.holds Try.pinned (OpenSpec.ofChange octetPutsSpec)

/-- ITS FALSE NEIGHBOUR: 'it returns false'. Refute it at one input. -/
def octetPutsWrong : ChangeSpec := { name := "octetPuts", fn := fun _ => fun
  | [d1, d2, d3] => { results := [.lit (.bool false)], args := [d1, d2, d3] }
  | _ => none }
def OctetPutsWrongFalsely : Prop := octetPutsRow.holds Try.pinned (OpenSpec.ofChange octetPutsWrong)

/-- 'sautoirlaw01.OctetNil': WHATEVER THE INPUT: true; the input reads as it did. -/
def octetNilSpec : ChangeSpec := { name := "octetNil", fn := fun _ => fun
  | [d] => { results := [.lit (.bool true)], args := [d] }
  | _ => none }
def octetNilRow : OpenClaim := { program := "ytflifeelgamaaaa", sum := "297765fb51f25b981596ea3cbd5d8fddb65e6f948fdd7b1be47900457aad0f7b", func := "sautoir/sautoirlaw01.OctetNil", spec := "octetNil", apart := false }
def OctetNilSaid : Prop := octetNilRow.holds Try.pinned (OpenSpec.ofChange octetNilSpec)

/-- ITS FALSE NEIGHBOUR: 'it returns false'. Refute it at one input. -/
def octetNilWrong : ChangeSpec := { name := "octetNil", fn := fun _ => fun
  | [d] => { results := [.lit (.bool false)], args := [d] }
  | _ => none }
def OctetNilWrongFalsely : Prop := octetNilRow.holds Try.pinned (OpenSpec.ofChange octetNilWrong)

/-- 'sautoirlaw01.OctetReads': WHATEVER THE INPUT: true; the input reads as it did. -/
def octetReadsSpec : ChangeSpec := { name := "octetReads", fn := fun _ => fun
  | [d1, d2] => { results := [.lit (.bool true)], args := [d1, d2] }
  | _ => none }
def octetReadsRow : OpenClaim := { program := "ytflifeelgamaaaa", sum := "297765fb51f25b981596ea3cbd5d8fddb65e6f948fdd7b1be47900457aad0f7b", func := "sautoir/sautoirlaw01.OctetReads", spec := "octetReads", recurses := true, apart := false }
def OctetReadsSaid : Prop := octetReadsRow.holds Try.pinned (OpenSpec.ofChange octetReadsSpec)

/-- ITS FALSE NEIGHBOUR: 'it returns false'. Refute it at one input. -/
def octetReadsWrong : ChangeSpec := { name := "octetReads", fn := fun _ => fun
  | [d1, d2] => { results := [.lit (.bool false)], args := [d1, d2] }
  | _ => none }
def OctetReadsWrongFalsely : Prop := octetReadsRow.holds Try.pinned (OpenSpec.ofChange octetReadsWrong)

/-- 'sautoirlaw07.BallotBytes': WHATEVER THE INPUT: true; the input reads as it did. -/
def ballotBytesSpec : ChangeSpec := { name := "ballotBytes", fn := fun _ => fun
  | [d1, d2] => { results := [.lit (.bool true)], args := [d1, d2] }
  | _ => none }
def ballotBytesRow : OpenClaim := { program := "ytflifeelgamaaaa", sum := "297765fb51f25b981596ea3cbd5d8fddb65e6f948fdd7b1be47900457aad0f7b", func := "sautoir/sautoirlaw07.BallotBytes", spec := "ballotBytes", recurses := true, apart := false }
def BallotBytesSaid : Prop := ballotBytesRow.holds Try.pinned (OpenSpec.ofChange ballotBytesSpec)

/-- ITS FALSE NEIGHBOUR: 'it returns false'. Refute it at one input. -/
def ballotBytesWrong : ChangeSpec := { name := "ballotBytes", fn := fun _ => fun
  | [d1, d2] => { results := [.lit (.bool false)], args := [d1, d2] }
  | _ => none }
def BallotBytesWrongFalsely : Prop := ballotBytesRow.holds Try.pinned (OpenSpec.ofChange ballotBytesWrong)

/- THE SECOND FORM. 'bulk': how many values and letters a reading holds, each counted each time it is reached (what is shared counts as often as it is met; a slice's spare places count too). A statement '..UptoSaid' is the law's where the arguments, and the package variables that the reading takes, are together of bulk at most 1048576: NARROWER than '..Said'. Prove '..Said' where nothing that the law and all that it calls make is longer than what came in: it says more and counts as full. Else prove '..UptoSaid'. A law counts once. -/
mutual
def uptoBulk {H : Type} : DataW H → Nat
  | .lit (.string bytes) => bytes.length + 1
  | .lit _ => 1
  | .nil => 1
  | .ptr d => uptoBulk d + 1
  | .slice elems spare => uptoBulkAll elems + uptoBulkAll spare + 1
  | .agg parts => uptoBulkAll parts + 1
  | .iface _ d => uptoBulk d + 1
  | .map entries => uptoBulkEntries entries + 1
  | .held _ => 1
def uptoBulkAll {H : Type} : List (DataW H) → Nat
  | [] => 0
  | d :: r => uptoBulk d + uptoBulkAll r
def uptoBulkEntries {H : Type} : List (Lit × DataW H) → Nat
  | [] => 0
  | x :: r => uptoBulkEntry x + uptoBulkEntries r
def uptoBulkEntry {H : Type} : Lit × DataW H → Nat
  | (.string bytes, d) => bytes.length + uptoBulk d + 1
  | (_, d) => uptoBulk d + 1
 end
def uptoSmall : (H : Type) → List (DataW H) → Bool := fun _ ds => decide (uptoBulkAll ds ≤ 1048576)
def OpenSpec.upto (s : _root_.Go.ChangeSpec) : _root_.Go.OpenSpec := { _root_.Go.OpenSpec.ofChange s with cond := some uptoSmall }

/-- 'sautoirlaw07.BallotVotes', WHERE WHAT IT READS IS OF BULK AT MOST 1048576: true; the input reads as it did. -/
def ballotVotesUptoRow : OpenClaim := { program := "ytflifeelgamaaaa", sum := "297765fb51f25b981596ea3cbd5d8fddb65e6f948fdd7b1be47900457aad0f7b", func := "sautoir/sautoirlaw07.BallotVotes", spec := "ballotVotes", apart := false, narrowed := true }
def BallotVotesUptoSaid : Prop := ballotVotesUptoRow.holds Try.pinned (OpenSpec.upto ballotVotesSpec)

/-- 'sautoirlaw07.BallotMeet', WHERE WHAT IT READS IS OF BULK AT MOST 1048576: true; the input reads as it did. -/
def ballotMeetUptoRow : OpenClaim := { program := "ytflifeelgamaaaa", sum := "297765fb51f25b981596ea3cbd5d8fddb65e6f948fdd7b1be47900457aad0f7b", func := "sautoir/sautoirlaw07.BallotMeet", spec := "ballotMeet", apart := false, narrowed := true }
def BallotMeetUptoSaid : Prop := ballotMeetUptoRow.holds Try.pinned (OpenSpec.upto ballotMeetSpec)

/-- 'sautoirlaw08.KeysRight', WHERE WHAT IT READS IS OF BULK AT MOST 1048576: true; the input reads as it did. -/
def keysRightUptoRow : OpenClaim := { program := "ytflifeelgamaaaa", sum := "297765fb51f25b981596ea3cbd5d8fddb65e6f948fdd7b1be47900457aad0f7b", func := "sautoir/sautoirlaw08.KeysRight", spec := "keysRight", apart := false, narrowed := true }
def KeysRightUptoSaid : Prop := keysRightUptoRow.holds Try.pinned (OpenSpec.upto keysRightSpec)

/-- 'sautoirlaw08.KeysNumber', WHERE WHAT IT READS IS OF BULK AT MOST 1048576: true; the input reads as it did. -/
def keysNumberUptoRow : OpenClaim := { program := "ytflifeelgamaaaa", sum := "297765fb51f25b981596ea3cbd5d8fddb65e6f948fdd7b1be47900457aad0f7b", func := "sautoir/sautoirlaw08.KeysNumber", spec := "keysNumber", apart := false, narrowed := true }
def KeysNumberUptoSaid : Prop := keysNumberUptoRow.holds Try.pinned (OpenSpec.upto keysNumberSpec)

/-- 'sautoirlaw07.BallotOrder', WHERE WHAT IT READS IS OF BULK AT MOST 1048576: true; the input reads as it did. -/
def ballotOrderUptoRow : OpenClaim := { program := "ytflifeelgamaaaa", sum := "297765fb51f25b981596ea3cbd5d8fddb65e6f948fdd7b1be47900457aad0f7b", func := "sautoir/sautoirlaw07.BallotOrder", spec := "ballotOrder", apart := false, narrowed := true }
def BallotOrderUptoSaid : Prop := ballotOrderUptoRow.holds Try.pinned (OpenSpec.upto ballotOrderSpec)

/-- 'sautoirlaw07.BallotNext', WHERE WHAT IT READS IS OF BULK AT MOST 1048576: true; the input reads as it did. -/
def ballotNextUptoRow : OpenClaim := { program := "ytflifeelgamaaaa", sum := "297765fb51f25b981596ea3cbd5d8fddb65e6f948fdd7b1be47900457aad0f7b", func := "sautoir/sautoirlaw07.BallotNext", spec := "ballotNext", apart := false, narrowed := true }
def BallotNextUptoSaid : Prop := ballotNextUptoRow.holds Try.pinned (OpenSpec.upto ballotNextSpec)

/-- 'sautoirlaw01.OctetOne', WHERE WHAT IT READS IS OF BULK AT MOST 1048576: true; the input reads as it did. -/
def octetOneUptoRow : OpenClaim := { program := "ytflifeelgamaaaa", sum := "297765fb51f25b981596ea3cbd5d8fddb65e6f948fdd7b1be47900457aad0f7b", func := "sautoir/sautoirlaw01.OctetOne", spec := "octetOne", apart := false, narrowed := true }
def OctetOneUptoSaid : Prop := octetOneUptoRow.holds Try.pinned (OpenSpec.upto octetOneSpec)

/-- 'sautoirlaw01.OctetApart', WHERE WHAT IT READS IS OF BULK AT MOST 1048576: true; the input reads as it did. -/
def octetApartUptoRow : OpenClaim := { program := "ytflifeelgamaaaa", sum := "297765fb51f25b981596ea3cbd5d8fddb65e6f948fdd7b1be47900457aad0f7b", func := "sautoir/sautoirlaw01.OctetApart", spec := "octetApart", apart := false, narrowed := true }
def OctetApartUptoSaid : Prop := octetApartUptoRow.holds Try.pinned (OpenSpec.upto octetApartSpec)

/-- 'sautoirlaw01.OctetPuts', WHERE WHAT IT READS IS OF BULK AT MOST 1048576: true; the input reads as it did. -/
def octetPutsUptoRow : OpenClaim := { program := "ytflifeelgamaaaa", sum := "297765fb51f25b981596ea3cbd5d8fddb65e6f948fdd7b1be47900457aad0f7b", func := "sautoir/sautoirlaw01.OctetPuts", spec := "octetPuts", recurses := true, apart := false, narrowed := true }
def OctetPutsUptoSaid : Prop := octetPutsUptoRow.holds Try.pinned (OpenSpec.upto octetPutsSpec)

/-- 'sautoirlaw01.OctetNil', WHERE WHAT IT READS IS OF BULK AT MOST 1048576: true; the input reads as it did. -/
def octetNilUptoRow : OpenClaim := { program := "ytflifeelgamaaaa", sum := "297765fb51f25b981596ea3cbd5d8fddb65e6f948fdd7b1be47900457aad0f7b", func := "sautoir/sautoirlaw01.OctetNil", spec := "octetNil", apart := false, narrowed := true }
def OctetNilUptoSaid : Prop := octetNilUptoRow.holds Try.pinned (OpenSpec.upto octetNilSpec)

/-- 'sautoirlaw01.OctetReads', WHERE WHAT IT READS IS OF BULK AT MOST 1048576: true; the input reads as it did. -/
def octetReadsUptoRow : OpenClaim := { program := "ytflifeelgamaaaa", sum := "297765fb51f25b981596ea3cbd5d8fddb65e6f948fdd7b1be47900457aad0f7b", func := "sautoir/sautoirlaw01.OctetReads", spec := "octetReads", recurses := true, apart := false, narrowed := true }
def OctetReadsUptoSaid : Prop := octetReadsUptoRow.holds Try.pinned (OpenSpec.upto octetReadsSpec)

/-- 'sautoirlaw07.BallotBytes', WHERE WHAT IT READS IS OF BULK AT MOST 1048576: true; the input reads as it did. -/
def ballotBytesUptoRow : OpenClaim := { program := "ytflifeelgamaaaa", sum := "297765fb51f25b981596ea3cbd5d8fddb65e6f948fdd7b1be47900457aad0f7b", func := "sautoir/sautoirlaw07.BallotBytes", spec := "ballotBytes", recurses := true, apart := false, narrowed := true }
def BallotBytesUptoSaid : Prop := ballotBytesUptoRow.holds Try.pinned (OpenSpec.upto ballotBytesSpec)

end Rows
end Go.Proofs.Ytflifeelgamaaaa
