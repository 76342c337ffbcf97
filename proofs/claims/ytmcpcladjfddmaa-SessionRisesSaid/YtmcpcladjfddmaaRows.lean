/-
  No cell of these rows narrows 'for every input' (looked for: loops, veiled, ifaces, maps, wideKeys, modest, calm, conditions, laid).
  DERIVED. THE GIVEN ROWS OF THIS SEAT. 8 by the template 'for every input the law returns true; each argument reads behind the call as it read before'; 0 by the template 'total and deterministic' (their statements: YtmcpcladjfddmaaTotals.lean).
  GIVEN WITH THE SEED: the statements are not yours to turn. If you find one false, say at which input.
  Laid BY PROGRAM, IN A SANDBOX (cutbox-rows.mjs): the forced cells as the released guide's own fill.sh prints them over the translation 20f553b0a57a969a… (all of the seat's roots in one cut). By AI agents, Wed Nov 11 2026. No macro, syntax, notation, axiom, sorry.
-/
import Derived.Test.YtmcpcladjfddmaaChecked
import GoSem.Claim
import GoSem.ClaimJoined
import GoSem.ClaimMapViews
import Derived.JoinedTies
import Derived.KernelRfl
namespace Go.Proofs.Ytmcpcladjfddmaa
/- THE CELL 'sum', in the pinned program and in every row, IS THE sha256 OF THE DUMP (.gsa) THAT YtmcpcladjfddmaaProg.lean LOADS. Nothing in Lean hashes anything: it is a label: what it is worth is what the hold of that sum in a sandbox is worth. -/
noncomputable def Try.pinned : Pinned := { name := "ytmcpcladjfddmaa", sum := "20f553b0a57a969a06fe548af2975f05b80a721797702f4adfab96c5352539c4", checked := Try.checked }
namespace Rows
def none {H : Type} : Left H := { results := [], args := [] }

/-- 'sautoirlaw19.LearnMeet': WHATEVER THE INPUT: true; the input reads as it did. -/
def learnMeetSpec : ChangeSpec := { name := "learnMeet", fn := fun _ => fun
  | [d1, d2, d3] => { results := [.lit (.bool true)], args := [d1, d2, d3] }
  | _ => none }
def learnMeetRow : OpenClaim := { program := "ytmcpcladjfddmaa", sum := "20f553b0a57a969a06fe548af2975f05b80a721797702f4adfab96c5352539c4", func := "sautoir/sautoirlaw19.LearnMeet", spec := "learnMeet", apart := false }
def LearnMeetSaid : Prop := learnMeetRow.holds Try.pinned (OpenSpec.ofChange learnMeetSpec)

/-- ITS FALSE NEIGHBOUR: 'it returns false'. Refute it at one input. -/
def learnMeetWrong : ChangeSpec := { name := "learnMeet", fn := fun _ => fun
  | [d1, d2, d3] => { results := [.lit (.bool false)], args := [d1, d2, d3] }
  | _ => none }
def LearnMeetWrongFalsely : Prop := learnMeetRow.holds Try.pinned (OpenSpec.ofChange learnMeetWrong)

/-- 'sautoirlaw19.LearnPlays': WHATEVER THE INPUT: true; the input reads as it did. -/
def learnPlaysSpec : ChangeSpec := { name := "learnPlays", fn := fun _ => fun
  | [d1, d2, d3] => { results := [.lit (.bool true)], args := [d1, d2, d3] }
  | _ => none }
def learnPlaysRow : OpenClaim := { program := "ytmcpcladjfddmaa", sum := "20f553b0a57a969a06fe548af2975f05b80a721797702f4adfab96c5352539c4", func := "sautoir/sautoirlaw19.LearnPlays", spec := "learnPlays", apart := false }
def LearnPlaysSaid : Prop := learnPlaysRow.holds Try.pinned (OpenSpec.ofChange learnPlaysSpec)

/-- ITS FALSE NEIGHBOUR: 'it returns false'. Refute it at one input. -/
def learnPlaysWrong : ChangeSpec := { name := "learnPlays", fn := fun _ => fun
  | [d1, d2, d3] => { results := [.lit (.bool false)], args := [d1, d2, d3] }
  | _ => none }
def LearnPlaysWrongFalsely : Prop := learnPlaysRow.holds Try.pinned (OpenSpec.ofChange learnPlaysWrong)

/-- 'sautoirlaw19.LearnStays': WHATEVER THE INPUT: true; the input reads as it did. -/
def learnStaysSpec : ChangeSpec := { name := "learnStays", fn := fun _ => fun
  | [d1, d2, d3] => { results := [.lit (.bool true)], args := [d1, d2, d3] }
  | _ => none }
def learnStaysRow : OpenClaim := { program := "ytmcpcladjfddmaa", sum := "20f553b0a57a969a06fe548af2975f05b80a721797702f4adfab96c5352539c4", func := "sautoir/sautoirlaw19.LearnStays", spec := "learnStays", apart := false }
def LearnStaysSaid : Prop := learnStaysRow.holds Try.pinned (OpenSpec.ofChange learnStaysSpec)

/-- ITS FALSE NEIGHBOUR: 'it returns false'. Refute it at one input. -/
def learnStaysWrong : ChangeSpec := { name := "learnStays", fn := fun _ => fun
  | [d1, d2, d3] => { results := [.lit (.bool false)], args := [d1, d2, d3] }
  | _ => none }
def LearnStaysWrongFalsely : Prop := learnStaysRow.holds Try.pinned (OpenSpec.ofChange learnStaysWrong)

/-- 'sautoirlaw19.LearnNil': WHATEVER THE INPUT: true; the input reads as it did. -/
def learnNilSpec : ChangeSpec := { name := "learnNil", fn := fun _ => fun
  | [d1, d2] => { results := [.lit (.bool true)], args := [d1, d2] }
  | _ => none }
def learnNilRow : OpenClaim := { program := "ytmcpcladjfddmaa", sum := "20f553b0a57a969a06fe548af2975f05b80a721797702f4adfab96c5352539c4", func := "sautoir/sautoirlaw19.LearnNil", spec := "learnNil", apart := false }
def LearnNilSaid : Prop := learnNilRow.holds Try.pinned (OpenSpec.ofChange learnNilSpec)

/-- ITS FALSE NEIGHBOUR: 'it returns false'. Refute it at one input. -/
def learnNilWrong : ChangeSpec := { name := "learnNil", fn := fun _ => fun
  | [d1, d2] => { results := [.lit (.bool false)], args := [d1, d2] }
  | _ => none }
def LearnNilWrongFalsely : Prop := learnNilRow.holds Try.pinned (OpenSpec.ofChange learnNilWrong)

/-- 'sautoirlaw13.SessionPlays': WHATEVER THE INPUT: true; the input reads as it did. -/
def sessionPlaysSpec : ChangeSpec := { name := "sessionPlays", fn := fun _ => fun
  | [d1, d2] => { results := [.lit (.bool true)], args := [d1, d2] }
  | _ => none }
def sessionPlaysRow : OpenClaim := { program := "ytmcpcladjfddmaa", sum := "20f553b0a57a969a06fe548af2975f05b80a721797702f4adfab96c5352539c4", func := "sautoir/sautoirlaw13.SessionPlays", spec := "sessionPlays", apart := false }
def SessionPlaysSaid : Prop := sessionPlaysRow.holds Try.pinned (OpenSpec.ofChange sessionPlaysSpec)

/-- ITS FALSE NEIGHBOUR: 'it returns false'. Refute it at one input. -/
def sessionPlaysWrong : ChangeSpec := { name := "sessionPlays", fn := fun _ => fun
  | [d1, d2] => { results := [.lit (.bool false)], args := [d1, d2] }
  | _ => none }
def SessionPlaysWrongFalsely : Prop := sessionPlaysRow.holds Try.pinned (OpenSpec.ofChange sessionPlaysWrong)

/-- 'sautoirlaw13.SessionRises': WHATEVER THE INPUT: true; the input reads as it did. -/
def sessionRisesSpec : ChangeSpec := { name := "sessionRises", fn := fun _ => fun
  | [d1, d2] => { results := [.lit (.bool true)], args := [d1, d2] }
  | _ => none }
def sessionRisesRow : OpenClaim := { program := "ytmcpcladjfddmaa", sum := "20f553b0a57a969a06fe548af2975f05b80a721797702f4adfab96c5352539c4", func := "sautoir/sautoirlaw13.SessionRises", spec := "sessionRises", apart := false }
def SessionRisesSaid : Prop := sessionRisesRow.holds Try.pinned (OpenSpec.ofChange sessionRisesSpec)

/-- ITS FALSE NEIGHBOUR: 'it returns false'. Refute it at one input. -/
def sessionRisesWrong : ChangeSpec := { name := "sessionRises", fn := fun _ => fun
  | [d1, d2] => { results := [.lit (.bool false)], args := [d1, d2] }
  | _ => none }
def SessionRisesWrongFalsely : Prop := sessionRisesRow.holds Try.pinned (OpenSpec.ofChange sessionRisesWrong)

/-- 'sautoirlaw13.SessionOnce': WHATEVER THE INPUT: true; the input reads as it did. -/
def sessionOnceSpec : ChangeSpec := { name := "sessionOnce", fn := fun _ => fun
  | [d1, d2, d3, d4] => { results := [.lit (.bool true)], args := [d1, d2, d3, d4] }
  | _ => none }
def sessionOnceRow : OpenClaim := { program := "ytmcpcladjfddmaa", sum := "20f553b0a57a969a06fe548af2975f05b80a721797702f4adfab96c5352539c4", func := "sautoir/sautoirlaw13.SessionOnce", spec := "sessionOnce", apart := false }
def SessionOnceSaid : Prop := sessionOnceRow.holds Try.pinned (OpenSpec.ofChange sessionOnceSpec)

/-- ITS FALSE NEIGHBOUR: 'it returns false'. Refute it at one input. -/
def sessionOnceWrong : ChangeSpec := { name := "sessionOnce", fn := fun _ => fun
  | [d1, d2, d3, d4] => { results := [.lit (.bool false)], args := [d1, d2, d3, d4] }
  | _ => none }
def SessionOnceWrongFalsely : Prop := sessionOnceRow.holds Try.pinned (OpenSpec.ofChange sessionOnceWrong)

/-- 'sautoirlaw13.SessionNil': WHATEVER THE INPUT: true; the input reads as it did. -/
def sessionNilSpec : ChangeSpec := { name := "sessionNil", fn := fun _ => fun
  | [d1, d2] => { results := [.lit (.bool true)], args := [d1, d2] }
  | _ => none }
def sessionNilRow : OpenClaim := { program := "ytmcpcladjfddmaa", sum := "20f553b0a57a969a06fe548af2975f05b80a721797702f4adfab96c5352539c4", func := "sautoir/sautoirlaw13.SessionNil", spec := "sessionNil", apart := false }
def SessionNilSaid : Prop := sessionNilRow.holds Try.pinned (OpenSpec.ofChange sessionNilSpec)

/-- ITS FALSE NEIGHBOUR: 'it returns false'. Refute it at one input. -/
def sessionNilWrong : ChangeSpec := { name := "sessionNil", fn := fun _ => fun
  | [d1, d2] => { results := [.lit (.bool false)], args := [d1, d2] }
  | _ => none }
def SessionNilWrongFalsely : Prop := sessionNilRow.holds Try.pinned (OpenSpec.ofChange sessionNilWrong)

/- THE SECOND FORM. 'bulk': how many values and letters a reading holds, each counted each time it is reached (what is shared counts as often as it is met; a slice's spare places count too). A statement '..UptoSaid' is the law's where the arguments, and the package variables that the reading takes, are together of bulk at most 1048576: NARROWER than '..Said'. Prove '..Said' where nothing that the law and all that it calls make is longer than what came in: it says more and counts as full. Else prove '..UptoSaid'. A law counts once. -/
mutual
def uptoBulk {H : Type} : DataW H → Nat
  | .lit (.string bytes) => bytes.length + 1
  | .lit _ => 1
  | .nil => 1
  | .ptr d => uptoBulk d + 1
  | .slice elems spare => uptoBulkAll elems + uptoBulkAll spare + 1
  | .agg parts => uptoBulkAll parts + 1
  | .iface _ d => uptoBulk d + 1
  | .map entries => uptoBulkEntries entries + 1
  | .held _ => 1
def uptoBulkAll {H : Type} : List (DataW H) → Nat
  | [] => 0
  | d :: r => uptoBulk d + uptoBulkAll r
def uptoBulkEntries {H : Type} : List (Lit × DataW H) → Nat
  | [] => 0
  | x :: r => uptoBulkEntry x + uptoBulkEntries r
def uptoBulkEntry {H : Type} : Lit × DataW H → Nat
  | (.string bytes, d) => bytes.length + uptoBulk d + 1
  | (_, d) => uptoBulk d + 1
 end
def uptoSmall : (H : Type) → List (DataW H) → Bool := fun _ ds => decide (uptoBulkAll ds ≤ 1048576)
def OpenSpec.upto (s : _root_.Go.ChangeSpec) : _root_.Go.OpenSpec := { _root_.Go.OpenSpec.ofChange s with cond := some uptoSmall }

/-- 'sautoirlaw19.LearnMeet', WHERE WHAT IT READS IS OF BULK AT MOST 1048576: true; the input reads as it did. -/
def learnMeetUptoRow : OpenClaim := { program := "ytmcpcladjfddmaa", sum := "20f553b0a57a969a06fe548af2975f05b80a721797702f4adfab96c5352539c4", func := "sautoir/sautoirlaw19.LearnMeet", spec := "learnMeet", apart := false, narrowed := true }
def LearnMeetUptoSaid : Prop := learnMeetUptoRow.holds Try.pinned (OpenSpec.upto learnMeetSpec)

/-- 'sautoirlaw19.LearnPlays', WHERE WHAT IT READS IS OF BULK AT MOST 1048576: true; the input reads as it did. -/
def learnPlaysUptoRow : OpenClaim := { program := "ytmcpcladjfddmaa", sum := "20f553b0a57a969a06fe548af2975f05b80a721797702f4adfab96c5352539c4", func := "sautoir/sautoirlaw19.LearnPlays", spec := "learnPlays", apart := false, narrowed := true }
def LearnPlaysUptoSaid : Prop := learnPlaysUptoRow.holds Try.pinned (OpenSpec.upto learnPlaysSpec)

/-- 'sautoirlaw19.LearnStays', WHERE WHAT IT READS IS OF BULK AT MOST 1048576: true; the input reads as it did. -/
def learnStaysUptoRow : OpenClaim := { program := "ytmcpcladjfddmaa", sum := "20f553b0a57a969a06fe548af2975f05b80a721797702f4adfab96c5352539c4", func := "sautoir/sautoirlaw19.LearnStays", spec := "learnStays", apart := false, narrowed := true }
def LearnStaysUptoSaid : Prop := learnStaysUptoRow.holds Try.pinned (OpenSpec.upto learnStaysSpec)

/-- 'sautoirlaw19.LearnNil', WHERE WHAT IT READS IS OF BULK AT MOST 1048576: true; the input reads as it did. -/
def learnNilUptoRow : OpenClaim := { program := "ytmcpcladjfddmaa", sum := "20f553b0a57a969a06fe548af2975f05b80a721797702f4adfab96c5352539c4", func := "sautoir/sautoirlaw19.LearnNil", spec := "learnNil", apart := false, narrowed := true }
def LearnNilUptoSaid : Prop := learnNilUptoRow.holds Try.pinned (OpenSpec.upto learnNilSpec)

/-- 'sautoirlaw13.SessionPlays', WHERE WHAT IT READS IS OF BULK AT MOST 1048576: true; the input reads as it did. -/
def sessionPlaysUptoRow : OpenClaim := { program := "ytmcpcladjfddmaa", sum := "20f553b0a57a969a06fe548af2975f05b80a721797702f4adfab96c5352539c4", func := "sautoir/sautoirlaw13.SessionPlays", spec := "sessionPlays", apart := false, narrowed := true }
def SessionPlaysUptoSaid : Prop := sessionPlaysUptoRow.holds Try.pinned (OpenSpec.upto sessionPlaysSpec)

/-- 'sautoirlaw13.SessionRises', WHERE WHAT IT READS IS OF BULK AT MOST 1048576: true; the input reads as it did. -/
def sessionRisesUptoRow : OpenClaim := { program := "ytmcpcladjfddmaa", sum := "20f553b0a57a969a06fe548af2975f05b80a721797702f4adfab96c5352539c4", func := "sautoir/sautoirlaw13.SessionRises", spec := "sessionRises", apart := false, narrowed := true }
def SessionRisesUptoSaid : Prop := sessionRisesUptoRow.holds Try.pinned (OpenSpec.upto sessionRisesSpec)

/-- 'sautoirlaw13.SessionOnce', WHERE WHAT IT READS IS OF BULK AT MOST 1048576: true; the input reads as it did. -/
def sessionOnceUptoRow : OpenClaim := { program := "ytmcpcladjfddmaa", sum := "20f553b0a57a969a06fe548af2975f05b80a721797702f4adfab96c5352539c4", func := "sautoir/sautoirlaw13.SessionOnce", spec := "sessionOnce", apart := false, narrowed := true }
def SessionOnceUptoSaid : Prop := sessionOnceUptoRow.holds Try.pinned (OpenSpec.upto sessionOnceSpec)

/-- 'sautoirlaw13.SessionNil', WHERE WHAT IT READS IS OF BULK AT MOST 1048576: true; the input reads as it did. -/
def sessionNilUptoRow : OpenClaim := { program := "ytmcpcladjfddmaa", sum := "20f553b0a57a969a06fe548af2975f05b80a721797702f4adfab96c5352539c4", func := "sautoir/sautoirlaw13.SessionNil", spec := "sessionNil", apart := false, narrowed := true }
def SessionNilUptoSaid : Prop := sessionNilUptoRow.holds Try.pinned (OpenSpec.upto sessionNilSpec)

end Rows
end Go.Proofs.Ytmcpcladjfddmaa
