/-
  No cell of these rows narrows 'for every input' (looked for: loops, veiled, ifaces, maps, wideKeys, modest, calm, conditions, laid).
  DERIVED. THE GIVEN ROWS OF THIS SEAT. 8 by the template 'for every input the law returns true; each argument reads behind the call as it read before'; 0 by the template 'total and deterministic' (their statements: YtobfolkcpfaplaaTotals.lean).
  GIVEN WITH THE SEED: the statements are not yours to turn. If you find one false, say at which input.
  Laid BY PROGRAM, IN A SANDBOX (cutbox-rows.mjs): the forced cells as the released guide's own fill.sh prints them over the translation 643a5fa9b4d34dc8… (all of the seat's roots in one cut). By AI agents, Wed Nov 11 2026. No macro, syntax, notation, axiom, sorry.
-/
import Derived.Test.YtobfolkcpfaplaaChecked
import GoSem.Claim
import GoSem.ClaimJoined
import GoSem.ClaimMapViews
import Derived.JoinedTies
import Derived.KernelRfl
namespace Go.Proofs.Ytobfolkcpfaplaa
/- THE CELL 'sum', in the pinned program and in every row, IS THE sha256 OF THE DUMP (.gsa) THAT YtobfolkcpfaplaaProg.lean LOADS. Nothing in Lean hashes anything: it is a label: what it is worth is what the hold of that sum in a sandbox is worth. -/
noncomputable def Try.pinned : Pinned := { name := "ytobfolkcpfaplaa", sum := "643a5fa9b4d34dc80ef9560e1764be026350eec56071f282a99a74a0acfe220b", checked := Try.checked }
namespace Rows
def none {H : Type} : Left H := { results := [], args := [] }

/-- 'sautoirlaw11.LockAlone': WHATEVER THE INPUT: true; the input reads as it did. -/
def lockAloneSpec : ChangeSpec := { name := "lockAlone", fn := fun _ => fun
  | [d] => { results := [.lit (.bool true)], args := [d] }
  | _ => none }
def lockAloneRow : OpenClaim := { program := "ytobfolkcpfaplaa", sum := "643a5fa9b4d34dc80ef9560e1764be026350eec56071f282a99a74a0acfe220b", func := "sautoir/sautoirlaw11.LockAlone", spec := "lockAlone", unfollowed := true, recurses := true, apart := false }
def LockAloneSaid : Prop := lockAloneRow.holds Try.pinned (OpenSpec.ofChange lockAloneSpec)

/-- ITS FALSE NEIGHBOUR: 'it returns false'. Refute it at one input. -/
def lockAloneWrong : ChangeSpec := { name := "lockAlone", fn := fun _ => fun
  | [d] => { results := [.lit (.bool false)], args := [d] }
  | _ => none }
def LockAloneWrongFalsely : Prop := lockAloneRow.holds Try.pinned (OpenSpec.ofChange lockAloneWrong)

/-- 'sautoirlaw11.LockBack': WHATEVER THE INPUT: true; the input reads as it did. -/
def lockBackSpec : ChangeSpec := { name := "lockBack", fn := fun _ => fun
  | [d1, d2, d3] => { results := [.lit (.bool true)], args := [d1, d2, d3] }
  | _ => none }
def lockBackRow : OpenClaim := { program := "ytobfolkcpfaplaa", sum := "643a5fa9b4d34dc80ef9560e1764be026350eec56071f282a99a74a0acfe220b", func := "sautoir/sautoirlaw11.LockBack", spec := "lockBack", unfollowed := true, recurses := true, apart := false }
def LockBackSaid : Prop := lockBackRow.holds Try.pinned (OpenSpec.ofChange lockBackSpec)

/-- ITS FALSE NEIGHBOUR: 'it returns false'. Refute it at one input. -/
def lockBackWrong : ChangeSpec := { name := "lockBack", fn := fun _ => fun
  | [d1, d2, d3] => { results := [.lit (.bool false)], args := [d1, d2, d3] }
  | _ => none }
def LockBackWrongFalsely : Prop := lockBackRow.holds Try.pinned (OpenSpec.ofChange lockBackWrong)

/-- 'sautoirlaw11.LockPlays': WHATEVER THE INPUT: true; the input reads as it did. -/
def lockPlaysSpec : ChangeSpec := { name := "lockPlays", fn := fun _ => fun
  | [d1, d2, d3] => { results := [.lit (.bool true)], args := [d1, d2, d3] }
  | _ => none }
def lockPlaysRow : OpenClaim := { program := "ytobfolkcpfaplaa", sum := "643a5fa9b4d34dc80ef9560e1764be026350eec56071f282a99a74a0acfe220b", func := "sautoir/sautoirlaw11.LockPlays", spec := "lockPlays", unfollowed := true, recurses := true, apart := false }
def LockPlaysSaid : Prop := lockPlaysRow.holds Try.pinned (OpenSpec.ofChange lockPlaysSpec)

/-- ITS FALSE NEIGHBOUR: 'it returns false'. Refute it at one input. -/
def lockPlaysWrong : ChangeSpec := { name := "lockPlays", fn := fun _ => fun
  | [d1, d2, d3] => { results := [.lit (.bool false)], args := [d1, d2, d3] }
  | _ => none }
def LockPlaysWrongFalsely : Prop := lockPlaysRow.holds Try.pinned (OpenSpec.ofChange lockPlaysWrong)

/-- 'sautoirlaw11.LockNil': WHATEVER THE INPUT: true; the input reads as it did. -/
def lockNilSpec : ChangeSpec := { name := "lockNil", fn := fun _ => fun
  | [d1, d2] => { results := [.lit (.bool true)], args := [d1, d2] }
  | _ => none }
def lockNilRow : OpenClaim := { program := "ytobfolkcpfaplaa", sum := "643a5fa9b4d34dc80ef9560e1764be026350eec56071f282a99a74a0acfe220b", func := "sautoir/sautoirlaw11.LockNil", spec := "lockNil", unfollowed := true, recurses := true, apart := false }
def LockNilSaid : Prop := lockNilRow.holds Try.pinned (OpenSpec.ofChange lockNilSpec)

/-- ITS FALSE NEIGHBOUR: 'it returns false'. Refute it at one input. -/
def lockNilWrong : ChangeSpec := { name := "lockNil", fn := fun _ => fun
  | [d1, d2] => { results := [.lit (.bool false)], args := [d1, d2] }
  | _ => none }
def LockNilWrongFalsely : Prop := lockNilRow.holds Try.pinned (OpenSpec.ofChange lockNilWrong)

/-- 'sautoirlaw15.LinksFits': WHATEVER THE INPUT: true; the input reads as it did. -/
def linksFitsSpec : ChangeSpec := { name := "linksFits", fn := fun _ => fun
  | [d1, d2, d3, d4] => { results := [.lit (.bool true)], args := [d1, d2, d3, d4] }
  | _ => none }
def linksFitsRow : OpenClaim := { program := "ytobfolkcpfaplaa", sum := "643a5fa9b4d34dc80ef9560e1764be026350eec56071f282a99a74a0acfe220b", func := "sautoir/sautoirlaw15.LinksFits", spec := "linksFits", apart := false }
def LinksFitsSaid : Prop := linksFitsRow.holds Try.pinned (OpenSpec.ofChange linksFitsSpec)

/-- ITS FALSE NEIGHBOUR: 'it returns false'. Refute it at one input. -/
def linksFitsWrong : ChangeSpec := { name := "linksFits", fn := fun _ => fun
  | [d1, d2, d3, d4] => { results := [.lit (.bool false)], args := [d1, d2, d3, d4] }
  | _ => none }
def LinksFitsWrongFalsely : Prop := linksFitsRow.holds Try.pinned (OpenSpec.ofChange linksFitsWrong)

/-- 'sautoirlaw15.LinksMatch': WHATEVER THE INPUT: true; the input reads as it did. -/
def linksMatchSpec : ChangeSpec := { name := "linksMatch", fn := fun _ => fun
  | [d] => { results := [.lit (.bool true)], args := [d] }
  | _ => none }
def linksMatchRow : OpenClaim := { program := "ytobfolkcpfaplaa", sum := "643a5fa9b4d34dc80ef9560e1764be026350eec56071f282a99a74a0acfe220b", func := "sautoir/sautoirlaw15.LinksMatch", spec := "linksMatch", apart := false }
def LinksMatchSaid : Prop := linksMatchRow.holds Try.pinned (OpenSpec.ofChange linksMatchSpec)

/-- ITS FALSE NEIGHBOUR: 'it returns false'. Refute it at one input. -/
def linksMatchWrong : ChangeSpec := { name := "linksMatch", fn := fun _ => fun
  | [d] => { results := [.lit (.bool false)], args := [d] }
  | _ => none }
def LinksMatchWrongFalsely : Prop := linksMatchRow.holds Try.pinned (OpenSpec.ofChange linksMatchWrong)

/-- 'sautoirlaw15.LinksNil': WHATEVER THE INPUT: true; the input reads as it did. -/
def linksNilSpec : ChangeSpec := { name := "linksNil", fn := fun _ => fun
  | [d1, d2] => { results := [.lit (.bool true)], args := [d1, d2] }
  | _ => none }
def linksNilRow : OpenClaim := { program := "ytobfolkcpfaplaa", sum := "643a5fa9b4d34dc80ef9560e1764be026350eec56071f282a99a74a0acfe220b", func := "sautoir/sautoirlaw15.LinksNil", spec := "linksNil", apart := false }
def LinksNilSaid : Prop := linksNilRow.holds Try.pinned (OpenSpec.ofChange linksNilSpec)

/-- ITS FALSE NEIGHBOUR: 'it returns false'. Refute it at one input. -/
def linksNilWrong : ChangeSpec := { name := "linksNil", fn := fun _ => fun
  | [d1, d2] => { results := [.lit (.bool false)], args := [d1, d2] }
  | _ => none }
def LinksNilWrongFalsely : Prop := linksNilRow.holds Try.pinned (OpenSpec.ofChange linksNilWrong)

/-- 'sautoirlaw15.LinksPlays': WHATEVER THE INPUT: true; the input reads as it did. -/
def linksPlaysSpec : ChangeSpec := { name := "linksPlays", fn := fun _ => fun
  | [d1, d2, d3] => { results := [.lit (.bool true)], args := [d1, d2, d3] }
  | _ => none }
def linksPlaysRow : OpenClaim := { program := "ytobfolkcpfaplaa", sum := "643a5fa9b4d34dc80ef9560e1764be026350eec56071f282a99a74a0acfe220b", func := "sautoir/sautoirlaw15.LinksPlays", spec := "linksPlays", apart := false }
def LinksPlaysSaid : Prop := linksPlaysRow.holds Try.pinned (OpenSpec.ofChange linksPlaysSpec)

/-- ITS FALSE NEIGHBOUR: 'it returns false'. Refute it at one input. -/
def linksPlaysWrong : ChangeSpec := { name := "linksPlays", fn := fun _ => fun
  | [d1, d2, d3] => { results := [.lit (.bool false)], args := [d1, d2, d3] }
  | _ => none }
def LinksPlaysWrongFalsely : Prop := linksPlaysRow.holds Try.pinned (OpenSpec.ofChange linksPlaysWrong)

/- THE SECOND FORM. 'bulk': how many values and letters a reading holds, each counted each time it is reached (what is shared counts as often as it is met; a slice's spare places count too). A statement '..UptoSaid' is the law's where the arguments, and the package variables that the reading takes, are together of bulk at most 1048576: NARROWER than '..Said'. Prove '..Said' where nothing that the law and all that it calls make is longer than what came in: it says more and counts as full. Else prove '..UptoSaid'. A law counts once. -/
mutual
def uptoBulk {H : Type} : DataW H → Nat
  | .lit (.string bytes) => bytes.length + 1
  | .lit _ => 1
  | .nil => 1
  | .ptr d => uptoBulk d + 1
  | .slice elems spare => uptoBulkAll elems + uptoBulkAll spare + 1
  | .agg parts => uptoBulkAll parts + 1
  | .iface _ d => uptoBulk d + 1
  | .map entries => uptoBulkEntries entries + 1
  | .held _ => 1
def uptoBulkAll {H : Type} : List (DataW H) → Nat
  | [] => 0
  | d :: r => uptoBulk d + uptoBulkAll r
def uptoBulkEntries {H : Type} : List (Lit × DataW H) → Nat
  | [] => 0
  | x :: r => uptoBulkEntry x + uptoBulkEntries r
def uptoBulkEntry {H : Type} : Lit × DataW H → Nat
  | (.string bytes, d) => bytes.length + uptoBulk d + 1
  | (_, d) => uptoBulk d + 1
 end
def uptoSmall : (H : Type) → List (DataW H) → Bool := fun _ ds => decide (uptoBulkAll ds ≤ 1048576)
def OpenSpec.upto (s : _root_.Go.ChangeSpec) : _root_.Go.OpenSpec := { _root_.Go.OpenSpec.ofChange s with cond := some uptoSmall }

/-- 'sautoirlaw11.LockAlone', WHERE WHAT IT READS IS OF BULK AT MOST 1048576: true; the input reads as it did. -/
def lockAloneUptoRow : OpenClaim := { program := "ytobfolkcpfaplaa", sum := "643a5fa9b4d34dc80ef9560e1764be026350eec56071f282a99a74a0acfe220b", func := "sautoir/sautoirlaw11.LockAlone", spec := "lockAlone", unfollowed := true, recurses := true, apart := false, narrowed := true }
def LockAloneUptoSaid : Prop := lockAloneUptoRow.holds Try.pinned (OpenSpec.upto lockAloneSpec)

/-- 'sautoirlaw11.LockBack', WHERE WHAT IT READS IS OF BULK AT MOST 1048576: true; the input reads as it did. -/
def lockBackUptoRow : OpenClaim := { program := "ytobfolkcpfaplaa", sum := "643a5fa9b4d34dc80ef9560e1764be026350eec56071f282a99a74a0acfe220b", func := "sautoir/sautoirlaw11.LockBack", spec := "lockBack", unfollowed := true, recurses := true, apart := false, narrowed := true }
def LockBackUptoSaid : Prop := lockBackUptoRow.holds Try.pinned (OpenSpec.upto lockBackSpec)

/-- 'sautoirlaw11.LockPlays', WHERE WHAT IT READS IS OF BULK AT MOST 1048576: true; the input reads as it did. -/
def lockPlaysUptoRow : OpenClaim := { program := "ytobfolkcpfaplaa", sum := "643a5fa9b4d34dc80ef9560e1764be026350eec56071f282a99a74a0acfe220b", func := "sautoir/sautoirlaw11.LockPlays", spec := "lockPlays", unfollowed := true, recurses := true, apart := false, narrowed := true }
def LockPlaysUptoSaid : Prop := lockPlaysUptoRow.holds Try.pinned (OpenSpec.upto lockPlaysSpec)

/-- 'sautoirlaw11.LockNil', WHERE WHAT IT READS IS OF BULK AT MOST 1048576: true; the input reads as it did. -/
def lockNilUptoRow : OpenClaim := { program := "ytobfolkcpfaplaa", sum := "643a5fa9b4d34dc80ef9560e1764be026350eec56071f282a99a74a0acfe220b", func := "sautoir/sautoirlaw11.LockNil", spec := "lockNil", unfollowed := true, recurses := true, apart := false, narrowed := true }
def LockNilUptoSaid : Prop := lockNilUptoRow.holds Try.pinned (OpenSpec.upto lockNilSpec)

/-- 'sautoirlaw15.LinksFits', WHERE WHAT IT READS IS OF BULK AT MOST 1048576: true; the input reads as it did. -/
def linksFitsUptoRow : OpenClaim := { program := "ytobfolkcpfaplaa", sum := "643a5fa9b4d34dc80ef9560e1764be026350eec56071f282a99a74a0acfe220b", func := "sautoir/sautoirlaw15.LinksFits", spec := "linksFits", apart := false, narrowed := true }
def LinksFitsUptoSaid : Prop := linksFitsUptoRow.holds Try.pinned (OpenSpec.upto linksFitsSpec)

/-- 'sautoirlaw15.LinksMatch', WHERE WHAT IT READS IS OF BULK AT MOST 1048576: true; the input reads as it did. -/
def linksMatchUptoRow : OpenClaim := { program := "ytobfolkcpfaplaa", sum := "643a5fa9b4d34dc80ef9560e1764be026350eec56071f282a99a74a0acfe220b", func := "sautoir/sautoirlaw15.LinksMatch", spec := "linksMatch", apart := false, narrowed := true }
def LinksMatchUptoSaid : Prop := linksMatchUptoRow.holds Try.pinned (OpenSpec.upto linksMatchSpec)

/-- 'sautoirlaw15.LinksNil', WHERE WHAT IT READS IS OF BULK AT MOST 1048576: true; the input reads as it did. -/
def linksNilUptoRow : OpenClaim := { program := "ytobfolkcpfaplaa", sum := "643a5fa9b4d34dc80ef9560e1764be026350eec56071f282a99a74a0acfe220b", func := "sautoir/sautoirlaw15.LinksNil", spec := "linksNil", apart := false, narrowed := true }
def LinksNilUptoSaid : Prop := linksNilUptoRow.holds Try.pinned (OpenSpec.upto linksNilSpec)

/-- 'sautoirlaw15.LinksPlays', WHERE WHAT IT READS IS OF BULK AT MOST 1048576: true; the input reads as it did. -/
def linksPlaysUptoRow : OpenClaim := { program := "ytobfolkcpfaplaa", sum := "643a5fa9b4d34dc80ef9560e1764be026350eec56071f282a99a74a0acfe220b", func := "sautoir/sautoirlaw15.LinksPlays", spec := "linksPlays", apart := false, narrowed := true }
def LinksPlaysUptoSaid : Prop := linksPlaysUptoRow.holds Try.pinned (OpenSpec.upto linksPlaysSpec)

end Rows
end Go.Proofs.Ytobfolkcpfaplaa
