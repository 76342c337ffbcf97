/-
  No cell of these rows narrows 'for every input' (looked for: loops, veiled, ifaces, maps, wideKeys, modest, calm, conditions, laid).
  DERIVED. THE GIVEN ROWS OF THIS SEAT. 10 by the template 'for every input the law returns true; each argument reads behind the call as it read before'; 0 by the template 'total and deterministic' (their statements: YtcckljomjpfdaaaTotals.lean).
  GIVEN WITH THE SEED: the statements are not yours to turn. If you find one false, say at which input.
  Laid BY PROGRAM, IN A SANDBOX (cutbox-rows.mjs): the forced cells as the released guide's own fill.sh prints them over the translation 94c031997072e2f6… (all of the seat's roots in one cut). By AI agents, Wed Nov 11 2026. No macro, syntax, notation, axiom, sorry.
-/
import Derived.Test.YtcckljomjpfdaaaChecked
import GoSem.Claim
import GoSem.ClaimJoined
import GoSem.ClaimMapViews
import Derived.JoinedTies
import Derived.KernelRfl
namespace Go.Proofs.Ytcckljomjpfdaaa
/- THE CELL 'sum', in the pinned program and in every row, IS THE sha256 OF THE DUMP (.gsa) THAT YtcckljomjpfdaaaProg.lean LOADS. Nothing in Lean hashes anything: it is a label: what it is worth is what the hold of that sum in a sandbox is worth. -/
noncomputable def Try.pinned : Pinned := { name := "ytcckljomjpfdaaa", sum := "94c031997072e2f6748210ee35187cf924970044814fad8e7043a515a59185c9", checked := Try.checked }
namespace Rows
def none {H : Type} : Left H := { results := [], args := [] }

/-- 'sautoirlaw08.KeysShards': WHATEVER THE INPUT: true; the input reads as it did. -/
def keysShardsSpec : ChangeSpec := { name := "keysShards", fn := fun _ => fun
  | [d1, d2] => { results := [.lit (.bool true)], args := [d1, d2] }
  | _ => none }
def keysShardsRow : OpenClaim := { program := "ytcckljomjpfdaaa", sum := "94c031997072e2f6748210ee35187cf924970044814fad8e7043a515a59185c9", func := "sautoir/sautoirlaw08.KeysShards", spec := "keysShards", apart := false }
def KeysShardsSaid : Prop := keysShardsRow.holds Try.pinned (OpenSpec.ofChange keysShardsSpec)

/-- ITS FALSE NEIGHBOUR: 'it returns false'. Refute it at one input. -/
def keysShardsWrong : ChangeSpec := { name := "keysShards", fn := fun _ => fun
  | [d1, d2] => { results := [.lit (.bool false)], args := [d1, d2] }
  | _ => none }
def KeysShardsWrongFalsely : Prop := keysShardsRow.holds Try.pinned (OpenSpec.ofChange keysShardsWrong)

/-- 'sautoirlaw02.CrcOf': WHATEVER THE INPUT: true; the input reads as it did. -/
def crcOfSpec : ChangeSpec := { name := "crcOf", fn := fun _ => fun
  | [d1, d2] => { results := [.lit (.bool true)], args := [d1, d2] }
  | _ => none }
def crcOfRow : OpenClaim := { program := "ytcckljomjpfdaaa", sum := "94c031997072e2f6748210ee35187cf924970044814fad8e7043a515a59185c9", func := "sautoir/sautoirlaw02.CrcOf", spec := "crcOf", apart := false }
def CrcOfSaid : Prop := crcOfRow.holds Try.pinned (OpenSpec.ofChange crcOfSpec)

/-- ITS FALSE NEIGHBOUR: 'it returns false'. Refute it at one input. -/
def crcOfWrong : ChangeSpec := { name := "crcOf", fn := fun _ => fun
  | [d1, d2] => { results := [.lit (.bool false)], args := [d1, d2] }
  | _ => none }
def CrcOfWrongFalsely : Prop := crcOfRow.holds Try.pinned (OpenSpec.ofChange crcOfWrong)

/-- 'sautoirlaw02.CrcParts': WHATEVER THE INPUT: true; the input reads as it did. -/
def crcPartsSpec : ChangeSpec := { name := "crcParts", fn := fun _ => fun
  | [d1, d2, d3] => { results := [.lit (.bool true)], args := [d1, d2, d3] }
  | _ => none }
def crcPartsRow : OpenClaim := { program := "ytcckljomjpfdaaa", sum := "94c031997072e2f6748210ee35187cf924970044814fad8e7043a515a59185c9", func := "sautoir/sautoirlaw02.CrcParts", spec := "crcParts", apart := false }
def CrcPartsSaid : Prop := crcPartsRow.holds Try.pinned (OpenSpec.ofChange crcPartsSpec)

/-- ITS FALSE NEIGHBOUR: 'it returns false'. Refute it at one input. -/
def crcPartsWrong : ChangeSpec := { name := "crcParts", fn := fun _ => fun
  | [d1, d2, d3] => { results := [.lit (.bool false)], args := [d1, d2, d3] }
  | _ => none }
def CrcPartsWrongFalsely : Prop := crcPartsRow.holds Try.pinned (OpenSpec.ofChange crcPartsWrong)

/-- 'sautoirlaw02.CrcLinear': WHATEVER THE INPUT: true; the input reads as it did. -/
def crcLinearSpec : ChangeSpec := { name := "crcLinear", fn := fun _ => fun
  | [d1, d2, d3, d4] => { results := [.lit (.bool true)], args := [d1, d2, d3, d4] }
  | _ => none }
def crcLinearRow : OpenClaim := { program := "ytcckljomjpfdaaa", sum := "94c031997072e2f6748210ee35187cf924970044814fad8e7043a515a59185c9", func := "sautoir/sautoirlaw02.CrcLinear", spec := "crcLinear", apart := false }
def CrcLinearSaid : Prop := crcLinearRow.holds Try.pinned (OpenSpec.ofChange crcLinearSpec)

/-- ITS FALSE NEIGHBOUR: 'it returns false'. Refute it at one input. -/
def crcLinearWrong : ChangeSpec := { name := "crcLinear", fn := fun _ => fun
  | [d1, d2, d3, d4] => { results := [.lit (.bool false)], args := [d1, d2, d3, d4] }
  | _ => none }
def CrcLinearWrongFalsely : Prop := crcLinearRow.holds Try.pinned (OpenSpec.ofChange crcLinearWrong)

/-- 'sautoirlaw02.CrcSeals': WHATEVER THE INPUT: true; the input reads as it did. -/
def crcSealsSpec : ChangeSpec := { name := "crcSeals", fn := fun _ => fun
  | [d] => { results := [.lit (.bool true)], args := [d] }
  | _ => none }
def crcSealsRow : OpenClaim := { program := "ytcckljomjpfdaaa", sum := "94c031997072e2f6748210ee35187cf924970044814fad8e7043a515a59185c9", func := "sautoir/sautoirlaw02.CrcSeals", spec := "crcSeals", apart := false }
def CrcSealsSaid : Prop := crcSealsRow.holds Try.pinned (OpenSpec.ofChange crcSealsSpec)

/-- ITS FALSE NEIGHBOUR: 'it returns false'. Refute it at one input. -/
def crcSealsWrong : ChangeSpec := { name := "crcSeals", fn := fun _ => fun
  | [d] => { results := [.lit (.bool false)], args := [d] }
  | _ => none }
def CrcSealsWrongFalsely : Prop := crcSealsRow.holds Try.pinned (OpenSpec.ofChange crcSealsWrong)

/-- 'sautoirlaw02.CrcBursts': WHATEVER THE INPUT: true; the input reads as it did. -/
def crcBurstsSpec : ChangeSpec := { name := "crcBursts", fn := fun _ => fun
  | [d1, d2, d3] => { results := [.lit (.bool true)], args := [d1, d2, d3] }
  | _ => none }
def crcBurstsRow : OpenClaim := { program := "ytcckljomjpfdaaa", sum := "94c031997072e2f6748210ee35187cf924970044814fad8e7043a515a59185c9", func := "sautoir/sautoirlaw02.CrcBursts", spec := "crcBursts", apart := false }
def CrcBurstsSaid : Prop := crcBurstsRow.holds Try.pinned (OpenSpec.ofChange crcBurstsSpec)

/-- ITS FALSE NEIGHBOUR: 'it returns false'. Refute it at one input. -/
def crcBurstsWrong : ChangeSpec := { name := "crcBursts", fn := fun _ => fun
  | [d1, d2, d3] => { results := [.lit (.bool false)], args := [d1, d2, d3] }
  | _ => none }
def CrcBurstsWrongFalsely : Prop := crcBurstsRow.holds Try.pinned (OpenSpec.ofChange crcBurstsWrong)

/-- 'sautoirlaw09.ObjectClean': WHATEVER THE INPUT: true; the input reads as it did. -/
def objectCleanSpec : ChangeSpec := { name := "objectClean", fn := fun _ => fun
  | [d1, d2, d3] => { results := [.lit (.bool true)], args := [d1, d2, d3] }
  | _ => none }
def objectCleanRow : OpenClaim := { program := "ytcckljomjpfdaaa", sum := "94c031997072e2f6748210ee35187cf924970044814fad8e7043a515a59185c9", func := "sautoir/sautoirlaw09.ObjectClean", spec := "objectClean", unfollowed := true, recurses := true, apart := false }
def ObjectCleanSaid : Prop := objectCleanRow.holds Try.pinned (OpenSpec.ofChange objectCleanSpec)

/-- ITS FALSE NEIGHBOUR: 'it returns false'. Refute it at one input. -/
def objectCleanWrong : ChangeSpec := { name := "objectClean", fn := fun _ => fun
  | [d1, d2, d3] => { results := [.lit (.bool false)], args := [d1, d2, d3] }
  | _ => none }
def ObjectCleanWrongFalsely : Prop := objectCleanRow.holds Try.pinned (OpenSpec.ofChange objectCleanWrong)

/-- 'sautoirlaw09.ObjectRight': WHATEVER THE INPUT: true; the input reads as it did. -/
def objectRightSpec : ChangeSpec := { name := "objectRight", fn := fun _ => fun
  | [d1, d2, d3, d4] => { results := [.lit (.bool true)], args := [d1, d2, d3, d4] }
  | _ => none }
def objectRightRow : OpenClaim := { program := "ytcckljomjpfdaaa", sum := "94c031997072e2f6748210ee35187cf924970044814fad8e7043a515a59185c9", func := "sautoir/sautoirlaw09.ObjectRight", spec := "objectRight", unfollowed := true, recurses := true, apart := false }
def ObjectRightSaid : Prop := objectRightRow.holds Try.pinned (OpenSpec.ofChange objectRightSpec)

/-- ITS FALSE NEIGHBOUR: 'it returns false'. Refute it at one input. -/
def objectRightWrong : ChangeSpec := { name := "objectRight", fn := fun _ => fun
  | [d1, d2, d3, d4] => { results := [.lit (.bool false)], args := [d1, d2, d3, d4] }
  | _ => none }
def ObjectRightWrongFalsely : Prop := objectRightRow.holds Try.pinned (OpenSpec.ofChange objectRightWrong)

/-- 'sautoirlaw09.ObjectReads': WHATEVER THE INPUT: true; the input reads as it did. -/
def objectReadsSpec : ChangeSpec := { name := "objectReads", fn := fun _ => fun
  | [d1, d2] => { results := [.lit (.bool true)], args := [d1, d2] }
  | _ => none }
def objectReadsRow : OpenClaim := { program := "ytcckljomjpfdaaa", sum := "94c031997072e2f6748210ee35187cf924970044814fad8e7043a515a59185c9", func := "sautoir/sautoirlaw09.ObjectReads", spec := "objectReads", unfollowed := true, recurses := true, apart := false }
def ObjectReadsSaid : Prop := objectReadsRow.holds Try.pinned (OpenSpec.ofChange objectReadsSpec)

/-- ITS FALSE NEIGHBOUR: 'it returns false'. Refute it at one input. -/
def objectReadsWrong : ChangeSpec := { name := "objectReads", fn := fun _ => fun
  | [d1, d2] => { results := [.lit (.bool false)], args := [d1, d2] }
  | _ => none }
def ObjectReadsWrongFalsely : Prop := objectReadsRow.holds Try.pinned (OpenSpec.ofChange objectReadsWrong)

/-- 'sautoirlaw09.ObjectPut': WHATEVER THE INPUT: true; the input reads as it did. -/
def objectPutSpec : ChangeSpec := { name := "objectPut", fn := fun _ => fun
  | [d1, d2, d3, d4] => { results := [.lit (.bool true)], args := [d1, d2, d3, d4] }
  | _ => none }
def objectPutRow : OpenClaim := { program := "ytcckljomjpfdaaa", sum := "94c031997072e2f6748210ee35187cf924970044814fad8e7043a515a59185c9", func := "sautoir/sautoirlaw09.ObjectPut", spec := "objectPut", unfollowed := true, recurses := true, apart := false }
def ObjectPutSaid : Prop := objectPutRow.holds Try.pinned (OpenSpec.ofChange objectPutSpec)

/-- ITS FALSE NEIGHBOUR: 'it returns false'. Refute it at one input. -/
def objectPutWrong : ChangeSpec := { name := "objectPut", fn := fun _ => fun
  | [d1, d2, d3, d4] => { results := [.lit (.bool false)], args := [d1, d2, d3, d4] }
  | _ => none }
def ObjectPutWrongFalsely : Prop := objectPutRow.holds Try.pinned (OpenSpec.ofChange objectPutWrong)

/- THE SECOND FORM. 'bulk': how many values and letters a reading holds, each counted each time it is reached (what is shared counts as often as it is met; a slice's spare places count too). A statement '..UptoSaid' is the law's where the arguments, and the package variables that the reading takes, are together of bulk at most 1048576: NARROWER than '..Said'. Prove '..Said' where nothing that the law and all that it calls make is longer than what came in: it says more and counts as full. Else prove '..UptoSaid'. A law counts once. -/
mutual
def uptoBulk {H : Type} : DataW H → Nat
  | .lit (.string bytes) => bytes.length + 1
  | .lit _ => 1
  | .nil => 1
  | .ptr d => uptoBulk d + 1
  | .slice elems spare => uptoBulkAll elems + uptoBulkAll spare + 1
  | .agg parts => uptoBulkAll parts + 1
  | .iface _ d => uptoBulk d + 1
  | .map entries => uptoBulkEntries entries + 1
  | .held _ => 1
def uptoBulkAll {H : Type} : List (DataW H) → Nat
  | [] => 0
  | d :: r => uptoBulk d + uptoBulkAll r
def uptoBulkEntries {H : Type} : List (Lit × DataW H) → Nat
  | [] => 0
  | x :: r => uptoBulkEntry x + uptoBulkEntries r
def uptoBulkEntry {H : Type} : Lit × DataW H → Nat
  | (.string bytes, d) => bytes.length + uptoBulk d + 1
  | (_, d) => uptoBulk d + 1
 end
def uptoSmall : (H : Type) → List (DataW H) → Bool := fun _ ds => decide (uptoBulkAll ds ≤ 1048576)
def OpenSpec.upto (s : _root_.Go.ChangeSpec) : _root_.Go.OpenSpec := { _root_.Go.OpenSpec.ofChange s with cond := some uptoSmall }

/-- 'sautoirlaw08.KeysShards', WHERE WHAT IT READS IS OF BULK AT MOST 1048576: true; the input reads as it did. -/
def keysShardsUptoRow : OpenClaim := { program := "ytcckljomjpfdaaa", sum := "94c031997072e2f6748210ee35187cf924970044814fad8e7043a515a59185c9", func := "sautoir/sautoirlaw08.KeysShards", spec := "keysShards", apart := false, narrowed := true }
def KeysShardsUptoSaid : Prop := keysShardsUptoRow.holds Try.pinned (OpenSpec.upto keysShardsSpec)

/-- 'sautoirlaw02.CrcOf', WHERE WHAT IT READS IS OF BULK AT MOST 1048576: true; the input reads as it did. -/
def crcOfUptoRow : OpenClaim := { program := "ytcckljomjpfdaaa", sum := "94c031997072e2f6748210ee35187cf924970044814fad8e7043a515a59185c9", func := "sautoir/sautoirlaw02.CrcOf", spec := "crcOf", apart := false, narrowed := true }
def CrcOfUptoSaid : Prop := crcOfUptoRow.holds Try.pinned (OpenSpec.upto crcOfSpec)

/-- 'sautoirlaw02.CrcParts', WHERE WHAT IT READS IS OF BULK AT MOST 1048576: true; the input reads as it did. -/
def crcPartsUptoRow : OpenClaim := { program := "ytcckljomjpfdaaa", sum := "94c031997072e2f6748210ee35187cf924970044814fad8e7043a515a59185c9", func := "sautoir/sautoirlaw02.CrcParts", spec := "crcParts", apart := false, narrowed := true }
def CrcPartsUptoSaid : Prop := crcPartsUptoRow.holds Try.pinned (OpenSpec.upto crcPartsSpec)

/-- 'sautoirlaw02.CrcLinear', WHERE WHAT IT READS IS OF BULK AT MOST 1048576: true; the input reads as it did. -/
def crcLinearUptoRow : OpenClaim := { program := "ytcckljomjpfdaaa", sum := "94c031997072e2f6748210ee35187cf924970044814fad8e7043a515a59185c9", func := "sautoir/sautoirlaw02.CrcLinear", spec := "crcLinear", apart := false, narrowed := true }
def CrcLinearUptoSaid : Prop := crcLinearUptoRow.holds Try.pinned (OpenSpec.upto crcLinearSpec)

/-- 'sautoirlaw02.CrcSeals', WHERE WHAT IT READS IS OF BULK AT MOST 1048576: true; the input reads as it did. -/
def crcSealsUptoRow : OpenClaim := { program := "ytcckljomjpfdaaa", sum := "94c031997072e2f6748210ee35187cf924970044814fad8e7043a515a59185c9", func := "sautoir/sautoirlaw02.CrcSeals", spec := "crcSeals", apart := false, narrowed := true }
def CrcSealsUptoSaid : Prop := crcSealsUptoRow.holds Try.pinned (OpenSpec.upto crcSealsSpec)

/-- 'sautoirlaw02.CrcBursts', WHERE WHAT IT READS IS OF BULK AT MOST 1048576: true; the input reads as it did. -/
def crcBurstsUptoRow : OpenClaim := { program := "ytcckljomjpfdaaa", sum := "94c031997072e2f6748210ee35187cf924970044814fad8e7043a515a59185c9", func := "sautoir/sautoirlaw02.CrcBursts", spec := "crcBursts", apart := false, narrowed := true }
def CrcBurstsUptoSaid : Prop := crcBurstsUptoRow.holds Try.pinned (OpenSpec.upto crcBurstsSpec)

/-- 'sautoirlaw09.ObjectClean', WHERE WHAT IT READS IS OF BULK AT MOST 1048576: true; the input reads as it did. -/
def objectCleanUptoRow : OpenClaim := { program := "ytcckljomjpfdaaa", sum := "94c031997072e2f6748210ee35187cf924970044814fad8e7043a515a59185c9", func := "sautoir/sautoirlaw09.ObjectClean", spec := "objectClean", unfollowed := true, recurses := true, apart := false, narrowed := true }
def ObjectCleanUptoSaid : Prop := objectCleanUptoRow.holds Try.pinned (OpenSpec.upto objectCleanSpec)

/-- 'sautoirlaw09.ObjectRight', WHERE WHAT IT READS IS OF BULK AT MOST 1048576: true; the input reads as it did. -/
def objectRightUptoRow : OpenClaim := { program := "ytcckljomjpfdaaa", sum := "94c031997072e2f6748210ee35187cf924970044814fad8e7043a515a59185c9", func := "sautoir/sautoirlaw09.ObjectRight", spec := "objectRight", unfollowed := true, recurses := true, apart := false, narrowed := true }
def ObjectRightUptoSaid : Prop := objectRightUptoRow.holds Try.pinned (OpenSpec.upto objectRightSpec)

/-- 'sautoirlaw09.ObjectReads', WHERE WHAT IT READS IS OF BULK AT MOST 1048576: true; the input reads as it did. -/
def objectReadsUptoRow : OpenClaim := { program := "ytcckljomjpfdaaa", sum := "94c031997072e2f6748210ee35187cf924970044814fad8e7043a515a59185c9", func := "sautoir/sautoirlaw09.ObjectReads", spec := "objectReads", unfollowed := true, recurses := true, apart := false, narrowed := true }
def ObjectReadsUptoSaid : Prop := objectReadsUptoRow.holds Try.pinned (OpenSpec.upto objectReadsSpec)

/-- 'sautoirlaw09.ObjectPut', WHERE WHAT IT READS IS OF BULK AT MOST 1048576: true; the input reads as it did. -/
def objectPutUptoRow : OpenClaim := { program := "ytcckljomjpfdaaa", sum := "94c031997072e2f6748210ee35187cf924970044814fad8e7043a515a59185c9", func := "sautoir/sautoirlaw09.ObjectPut", spec := "objectPut", unfollowed := true, recurses := true, apart := false, narrowed := true }
def ObjectPutUptoSaid : Prop := objectPutUptoRow.holds Try.pinned (OpenSpec.upto objectPutSpec)

end Rows
end Go.Proofs.Ytcckljomjpfdaaa
