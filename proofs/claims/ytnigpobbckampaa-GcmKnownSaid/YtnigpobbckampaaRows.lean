/-
  No cell of these rows narrows 'for every input' (looked for: loops, veiled, ifaces, maps, wideKeys, modest, calm, conditions, laid).
  DERIVED. THE GIVEN ROWS OF THIS SEAT. 15 by the template 'for every input the law returns true; each argument reads behind the call as it read before'; 0 by the template 'total and deterministic' (their statements: YtnigpobbckampaaTotals.lean).
  GIVEN WITH THE SEED: the statements are not yours to turn. If you find one false, say at which input.
  Laid BY PROGRAM, IN A SANDBOX (cutbox-rows.mjs): the forced cells as the released guide's own fill.sh prints them over the translation c43a5c572c4ccbcb… (all of the seat's roots in one cut). By AI agents, Wed Nov 11 2026. No macro, syntax, notation, axiom, sorry.
-/
import Derived.Test.YtnigpobbckampaaChecked
import GoSem.Claim
import GoSem.ClaimJoined
import GoSem.ClaimMapViews
import Derived.JoinedTies
import Derived.KernelRfl
namespace Go.Proofs.Ytnigpobbckampaa
/- THE CELL 'sum', in the pinned program and in every row, IS THE sha256 OF THE DUMP (.gsa) THAT YtnigpobbckampaaProg.lean LOADS. Nothing in Lean hashes anything: it is a label: what it is worth is what the hold of that sum in a sandbox is worth. -/
noncomputable def Try.pinned : Pinned := { name := "ytnigpobbckampaa", sum := "c43a5c572c4ccbcbafdf22458407b0d5b827f5aa55baa14b7400637ffc9608f1", checked := Try.checked }
namespace Rows
def none {H : Type} : Left H := { results := [], args := [] }

/-- 'sealchainlaw04.AesBlocks': WHATEVER THE INPUT: true; the input reads as it did. -/
def aesBlocksSpec : ChangeSpec := { name := "aesBlocks", fn := fun _ => fun
  | [d1, d2] => { results := [.lit (.bool true)], args := [d1, d2] }
  | _ => none }
def aesBlocksRow : OpenClaim := { program := "ytnigpobbckampaa", sum := "c43a5c572c4ccbcbafdf22458407b0d5b827f5aa55baa14b7400637ffc9608f1", func := "sealchain/sealchainlaw04.AesBlocks", spec := "aesBlocks", unfollowed := true, recurses := true, apart := false }
def AesBlocksSaid : Prop := aesBlocksRow.holds Try.pinned (OpenSpec.ofChange aesBlocksSpec)

/-- ITS FALSE NEIGHBOUR: 'it returns false'. Refute it at one input. -/
def aesBlocksWrong : ChangeSpec := { name := "aesBlocks", fn := fun _ => fun
  | [d1, d2] => { results := [.lit (.bool false)], args := [d1, d2] }
  | _ => none }
def AesBlocksWrongFalsely : Prop := aesBlocksRow.holds Try.pinned (OpenSpec.ofChange aesBlocksWrong)

/-- 'sealchainlaw04.AesBytes': WHATEVER THE INPUT: true; the input reads as it did. -/
def aesBytesSpec : ChangeSpec := { name := "aesBytes", fn := fun _ => fun
  | [d1, d2] => { results := [.lit (.bool true)], args := [d1, d2] }
  | _ => none }
def aesBytesRow : OpenClaim := { program := "ytnigpobbckampaa", sum := "c43a5c572c4ccbcbafdf22458407b0d5b827f5aa55baa14b7400637ffc9608f1", func := "sealchain/sealchainlaw04.AesBytes", spec := "aesBytes", unfollowed := true, recurses := true, apart := false }
def AesBytesSaid : Prop := aesBytesRow.holds Try.pinned (OpenSpec.ofChange aesBytesSpec)

/-- ITS FALSE NEIGHBOUR: 'it returns false'. Refute it at one input. -/
def aesBytesWrong : ChangeSpec := { name := "aesBytes", fn := fun _ => fun
  | [d1, d2] => { results := [.lit (.bool false)], args := [d1, d2] }
  | _ => none }
def AesBytesWrongFalsely : Prop := aesBytesRow.holds Try.pinned (OpenSpec.ofChange aesBytesWrong)

/-- 'sealchainlaw04.AesField': WHATEVER THE INPUT: true; the input reads as it did. -/
def aesFieldSpec : ChangeSpec := { name := "aesField", fn := fun _ => fun
  | [d1, d2, d3] => { results := [.lit (.bool true)], args := [d1, d2, d3] }
  | _ => none }
def aesFieldRow : OpenClaim := { program := "ytnigpobbckampaa", sum := "c43a5c572c4ccbcbafdf22458407b0d5b827f5aa55baa14b7400637ffc9608f1", func := "sealchain/sealchainlaw04.AesField", spec := "aesField", unfollowed := true, recurses := true, apart := false }
def AesFieldSaid : Prop := aesFieldRow.holds Try.pinned (OpenSpec.ofChange aesFieldSpec)

/-- ITS FALSE NEIGHBOUR: 'it returns false'. Refute it at one input. -/
def aesFieldWrong : ChangeSpec := { name := "aesField", fn := fun _ => fun
  | [d1, d2, d3] => { results := [.lit (.bool false)], args := [d1, d2, d3] }
  | _ => none }
def AesFieldWrongFalsely : Prop := aesFieldRow.holds Try.pinned (OpenSpec.ofChange aesFieldWrong)

/-- 'sealchainlaw05.GcmTimes': WHATEVER THE INPUT: true; the input reads as it did. -/
def gcmTimesSpec : ChangeSpec := { name := "gcmTimes", fn := fun _ => fun
  | [d1, d2] => { results := [.lit (.bool true)], args := [d1, d2] }
  | _ => none }
def gcmTimesRow : OpenClaim := { program := "ytnigpobbckampaa", sum := "c43a5c572c4ccbcbafdf22458407b0d5b827f5aa55baa14b7400637ffc9608f1", func := "sealchain/sealchainlaw05.GcmTimes", spec := "gcmTimes", unfollowed := true, recurses := true, apart := false }
def GcmTimesSaid : Prop := gcmTimesRow.holds Try.pinned (OpenSpec.ofChange gcmTimesSpec)

/-- ITS FALSE NEIGHBOUR: 'it returns false'. Refute it at one input. -/
def gcmTimesWrong : ChangeSpec := { name := "gcmTimes", fn := fun _ => fun
  | [d1, d2] => { results := [.lit (.bool false)], args := [d1, d2] }
  | _ => none }
def GcmTimesWrongFalsely : Prop := gcmTimesRow.holds Try.pinned (OpenSpec.ofChange gcmTimesWrong)

/-- 'sealchainlaw05.GcmField': WHATEVER THE INPUT: true; the input reads as it did. -/
def gcmFieldSpec : ChangeSpec := { name := "gcmField", fn := fun _ => fun
  | [d1, d2, d3] => { results := [.lit (.bool true)], args := [d1, d2, d3] }
  | _ => none }
def gcmFieldRow : OpenClaim := { program := "ytnigpobbckampaa", sum := "c43a5c572c4ccbcbafdf22458407b0d5b827f5aa55baa14b7400637ffc9608f1", func := "sealchain/sealchainlaw05.GcmField", spec := "gcmField", unfollowed := true, recurses := true, apart := false }
def GcmFieldSaid : Prop := gcmFieldRow.holds Try.pinned (OpenSpec.ofChange gcmFieldSpec)

/-- ITS FALSE NEIGHBOUR: 'it returns false'. Refute it at one input. -/
def gcmFieldWrong : ChangeSpec := { name := "gcmField", fn := fun _ => fun
  | [d1, d2, d3] => { results := [.lit (.bool false)], args := [d1, d2, d3] }
  | _ => none }
def GcmFieldWrongFalsely : Prop := gcmFieldRow.holds Try.pinned (OpenSpec.ofChange gcmFieldWrong)

/-- 'sealchainlaw04.AesApart': WHATEVER THE INPUT: true; the input reads as it did. -/
def aesApartSpec : ChangeSpec := { name := "aesApart", fn := fun _ => fun
  | [d1, d2, d3] => { results := [.lit (.bool true)], args := [d1, d2, d3] }
  | _ => none }
def aesApartRow : OpenClaim := { program := "ytnigpobbckampaa", sum := "c43a5c572c4ccbcbafdf22458407b0d5b827f5aa55baa14b7400637ffc9608f1", func := "sealchain/sealchainlaw04.AesApart", spec := "aesApart", unfollowed := true, recurses := true, apart := false }
def AesApartSaid : Prop := aesApartRow.holds Try.pinned (OpenSpec.ofChange aesApartSpec)

/-- ITS FALSE NEIGHBOUR: 'it returns false'. Refute it at one input. -/
def aesApartWrong : ChangeSpec := { name := "aesApart", fn := fun _ => fun
  | [d1, d2, d3] => { results := [.lit (.bool false)], args := [d1, d2, d3] }
  | _ => none }
def AesApartWrongFalsely : Prop := aesApartRow.holds Try.pinned (OpenSpec.ofChange aesApartWrong)

/-- 'sealchainlaw04.AesAlike': WHATEVER THE INPUT: true; the input reads as it did. -/
def aesAlikeSpec : ChangeSpec := { name := "aesAlike", fn := fun _ => fun
  | [d1, d2, d3] => { results := [.lit (.bool true)], args := [d1, d2, d3] }
  | _ => none }
def aesAlikeRow : OpenClaim := { program := "ytnigpobbckampaa", sum := "c43a5c572c4ccbcbafdf22458407b0d5b827f5aa55baa14b7400637ffc9608f1", func := "sealchain/sealchainlaw04.AesAlike", spec := "aesAlike", unfollowed := true, recurses := true, apart := false }
def AesAlikeSaid : Prop := aesAlikeRow.holds Try.pinned (OpenSpec.ofChange aesAlikeSpec)

/-- ITS FALSE NEIGHBOUR: 'it returns false'. Refute it at one input. -/
def aesAlikeWrong : ChangeSpec := { name := "aesAlike", fn := fun _ => fun
  | [d1, d2, d3] => { results := [.lit (.bool false)], args := [d1, d2, d3] }
  | _ => none }
def AesAlikeWrongFalsely : Prop := aesAlikeRow.holds Try.pinned (OpenSpec.ofChange aesAlikeWrong)

/-- 'sealchainlaw04.AesBox': WHATEVER THE INPUT: true; the input reads as it did. -/
def aesBoxSpec : ChangeSpec := { name := "aesBox", fn := fun _ => fun
  | [d1, d2, d3] => { results := [.lit (.bool true)], args := [d1, d2, d3] }
  | _ => none }
def aesBoxRow : OpenClaim := { program := "ytnigpobbckampaa", sum := "c43a5c572c4ccbcbafdf22458407b0d5b827f5aa55baa14b7400637ffc9608f1", func := "sealchain/sealchainlaw04.AesBox", spec := "aesBox", unfollowed := true, recurses := true, apart := false }
def AesBoxSaid : Prop := aesBoxRow.holds Try.pinned (OpenSpec.ofChange aesBoxSpec)

/-- ITS FALSE NEIGHBOUR: 'it returns false'. Refute it at one input. -/
def aesBoxWrong : ChangeSpec := { name := "aesBox", fn := fun _ => fun
  | [d1, d2, d3] => { results := [.lit (.bool false)], args := [d1, d2, d3] }
  | _ => none }
def AesBoxWrongFalsely : Prop := aesBoxRow.holds Try.pinned (OpenSpec.ofChange aesBoxWrong)

/-- 'sealchainlaw04.AesKnown': WHATEVER THE INPUT: true; the input reads as it did. -/
def aesKnownSpec : ChangeSpec := { name := "aesKnown", fn := fun _ => fun
  | [] => { results := [.lit (.bool true)], args := [] }
  | _ => none }
def aesKnownRow : OpenClaim := { program := "ytnigpobbckampaa", sum := "c43a5c572c4ccbcbafdf22458407b0d5b827f5aa55baa14b7400637ffc9608f1", func := "sealchain/sealchainlaw04.AesKnown", spec := "aesKnown", unfollowed := true, recurses := true, apart := false }
def AesKnownSaid : Prop := aesKnownRow.holds Try.pinned (OpenSpec.ofChange aesKnownSpec)

/-- ITS FALSE NEIGHBOUR: 'it returns false'. Refute it at one input. -/
def aesKnownWrong : ChangeSpec := { name := "aesKnown", fn := fun _ => fun
  | [] => { results := [.lit (.bool false)], args := [] }
  | _ => none }
def AesKnownWrongFalsely : Prop := aesKnownRow.holds Try.pinned (OpenSpec.ofChange aesKnownWrong)

/-- 'sealchainlaw05.GcmSeals': WHATEVER THE INPUT: true; the input reads as it did. -/
def gcmSealsSpec : ChangeSpec := { name := "gcmSeals", fn := fun _ => fun
  | [d1, d2, d3] => { results := [.lit (.bool true)], args := [d1, d2, d3] }
  | _ => none }
def gcmSealsRow : OpenClaim := { program := "ytnigpobbckampaa", sum := "c43a5c572c4ccbcbafdf22458407b0d5b827f5aa55baa14b7400637ffc9608f1", func := "sealchain/sealchainlaw05.GcmSeals", spec := "gcmSeals", unfollowed := true, recurses := true, apart := false }
def GcmSealsSaid : Prop := gcmSealsRow.holds Try.pinned (OpenSpec.ofChange gcmSealsSpec)

/-- ITS FALSE NEIGHBOUR: 'it returns false'. Refute it at one input. -/
def gcmSealsWrong : ChangeSpec := { name := "gcmSeals", fn := fun _ => fun
  | [d1, d2, d3] => { results := [.lit (.bool false)], args := [d1, d2, d3] }
  | _ => none }
def GcmSealsWrongFalsely : Prop := gcmSealsRow.holds Try.pinned (OpenSpec.ofChange gcmSealsWrong)

/-- 'sealchainlaw05.GcmOpens': WHATEVER THE INPUT: true; the input reads as it did. -/
def gcmOpensSpec : ChangeSpec := { name := "gcmOpens", fn := fun _ => fun
  | [d1, d2, d3] => { results := [.lit (.bool true)], args := [d1, d2, d3] }
  | _ => none }
def gcmOpensRow : OpenClaim := { program := "ytnigpobbckampaa", sum := "c43a5c572c4ccbcbafdf22458407b0d5b827f5aa55baa14b7400637ffc9608f1", func := "sealchain/sealchainlaw05.GcmOpens", spec := "gcmOpens", unfollowed := true, recurses := true, apart := false }
def GcmOpensSaid : Prop := gcmOpensRow.holds Try.pinned (OpenSpec.ofChange gcmOpensSpec)

/-- ITS FALSE NEIGHBOUR: 'it returns false'. Refute it at one input. -/
def gcmOpensWrong : ChangeSpec := { name := "gcmOpens", fn := fun _ => fun
  | [d1, d2, d3] => { results := [.lit (.bool false)], args := [d1, d2, d3] }
  | _ => none }
def GcmOpensWrongFalsely : Prop := gcmOpensRow.holds Try.pinned (OpenSpec.ofChange gcmOpensWrong)

/-- 'sealchainlaw05.GcmBack': WHATEVER THE INPUT: true; the input reads as it did. -/
def gcmBackSpec : ChangeSpec := { name := "gcmBack", fn := fun _ => fun
  | [d1, d2, d3] => { results := [.lit (.bool true)], args := [d1, d2, d3] }
  | _ => none }
def gcmBackRow : OpenClaim := { program := "ytnigpobbckampaa", sum := "c43a5c572c4ccbcbafdf22458407b0d5b827f5aa55baa14b7400637ffc9608f1", func := "sealchain/sealchainlaw05.GcmBack", spec := "gcmBack", unfollowed := true, recurses := true, apart := false }
def GcmBackSaid : Prop := gcmBackRow.holds Try.pinned (OpenSpec.ofChange gcmBackSpec)

/-- ITS FALSE NEIGHBOUR: 'it returns false'. Refute it at one input. -/
def gcmBackWrong : ChangeSpec := { name := "gcmBack", fn := fun _ => fun
  | [d1, d2, d3] => { results := [.lit (.bool false)], args := [d1, d2, d3] }
  | _ => none }
def GcmBackWrongFalsely : Prop := gcmBackRow.holds Try.pinned (OpenSpec.ofChange gcmBackWrong)

/-- 'sealchainlaw05.GcmTurned': WHATEVER THE INPUT: true; the input reads as it did. -/
def gcmTurnedSpec : ChangeSpec := { name := "gcmTurned", fn := fun _ => fun
  | [d1, d2, d3] => { results := [.lit (.bool true)], args := [d1, d2, d3] }
  | _ => none }
def gcmTurnedRow : OpenClaim := { program := "ytnigpobbckampaa", sum := "c43a5c572c4ccbcbafdf22458407b0d5b827f5aa55baa14b7400637ffc9608f1", func := "sealchain/sealchainlaw05.GcmTurned", spec := "gcmTurned", unfollowed := true, recurses := true, apart := false }
def GcmTurnedSaid : Prop := gcmTurnedRow.holds Try.pinned (OpenSpec.ofChange gcmTurnedSpec)

/-- ITS FALSE NEIGHBOUR: 'it returns false'. Refute it at one input. -/
def gcmTurnedWrong : ChangeSpec := { name := "gcmTurned", fn := fun _ => fun
  | [d1, d2, d3] => { results := [.lit (.bool false)], args := [d1, d2, d3] }
  | _ => none }
def GcmTurnedWrongFalsely : Prop := gcmTurnedRow.holds Try.pinned (OpenSpec.ofChange gcmTurnedWrong)

/-- 'sealchainlaw05.GcmHides': WHATEVER THE INPUT: true; the input reads as it did. -/
def gcmHidesSpec : ChangeSpec := { name := "gcmHides", fn := fun _ => fun
  | [d1, d2, d3] => { results := [.lit (.bool true)], args := [d1, d2, d3] }
  | _ => none }
def gcmHidesRow : OpenClaim := { program := "ytnigpobbckampaa", sum := "c43a5c572c4ccbcbafdf22458407b0d5b827f5aa55baa14b7400637ffc9608f1", func := "sealchain/sealchainlaw05.GcmHides", spec := "gcmHides", unfollowed := true, recurses := true, apart := false }
def GcmHidesSaid : Prop := gcmHidesRow.holds Try.pinned (OpenSpec.ofChange gcmHidesSpec)

/-- ITS FALSE NEIGHBOUR: 'it returns false'. Refute it at one input. -/
def gcmHidesWrong : ChangeSpec := { name := "gcmHides", fn := fun _ => fun
  | [d1, d2, d3] => { results := [.lit (.bool false)], args := [d1, d2, d3] }
  | _ => none }
def GcmHidesWrongFalsely : Prop := gcmHidesRow.holds Try.pinned (OpenSpec.ofChange gcmHidesWrong)

/-- 'sealchainlaw05.GcmKnown': WHATEVER THE INPUT: true; the input reads as it did. -/
def gcmKnownSpec : ChangeSpec := { name := "gcmKnown", fn := fun _ => fun
  | [] => { results := [.lit (.bool true)], args := [] }
  | _ => none }
def gcmKnownRow : OpenClaim := { program := "ytnigpobbckampaa", sum := "c43a5c572c4ccbcbafdf22458407b0d5b827f5aa55baa14b7400637ffc9608f1", func := "sealchain/sealchainlaw05.GcmKnown", spec := "gcmKnown", unfollowed := true, recurses := true, apart := false }
def GcmKnownSaid : Prop := gcmKnownRow.holds Try.pinned (OpenSpec.ofChange gcmKnownSpec)

/-- ITS FALSE NEIGHBOUR: 'it returns false'. Refute it at one input. -/
def gcmKnownWrong : ChangeSpec := { name := "gcmKnown", fn := fun _ => fun
  | [] => { results := [.lit (.bool false)], args := [] }
  | _ => none }
def GcmKnownWrongFalsely : Prop := gcmKnownRow.holds Try.pinned (OpenSpec.ofChange gcmKnownWrong)

/- THE SECOND FORM. 'bulk': how many values and letters a reading holds, each counted each time it is reached (what is shared counts as often as it is met; a slice's spare places count too). A statement '..UptoSaid' is the law's where the arguments, and the package variables that the reading takes, are together of bulk at most 1048576: NARROWER than '..Said'. Prove '..Said' where nothing that the law and all that it calls make is longer than what came in: it says more and counts as full. Else prove '..UptoSaid'. A law counts once. -/
mutual
def uptoBulk {H : Type} : DataW H → Nat
  | .lit (.string bytes) => bytes.length + 1
  | .lit _ => 1
  | .nil => 1
  | .ptr d => uptoBulk d + 1
  | .slice elems spare => uptoBulkAll elems + uptoBulkAll spare + 1
  | .agg parts => uptoBulkAll parts + 1
  | .iface _ d => uptoBulk d + 1
  | .map entries => uptoBulkEntries entries + 1
  | .held _ => 1
def uptoBulkAll {H : Type} : List (DataW H) → Nat
  | [] => 0
  | d :: r => uptoBulk d + uptoBulkAll r
def uptoBulkEntries {H : Type} : List (Lit × DataW H) → Nat
  | [] => 0
  | x :: r => uptoBulkEntry x + uptoBulkEntries r
def uptoBulkEntry {H : Type} : Lit × DataW H → Nat
  | (.string bytes, d) => bytes.length + uptoBulk d + 1
  | (_, d) => uptoBulk d + 1
 end
def uptoSmall : (H : Type) → List (DataW H) → Bool := fun _ ds => decide (uptoBulkAll ds ≤ 1048576)
def OpenSpec.upto (s : _root_.Go.ChangeSpec) : _root_.Go.OpenSpec := { _root_.Go.OpenSpec.ofChange s with cond := some uptoSmall }

/-- 'sealchainlaw04.AesBlocks', WHERE WHAT IT READS IS OF BULK AT MOST 1048576: true; the input reads as it did. -/
def aesBlocksUptoRow : OpenClaim := { program := "ytnigpobbckampaa", sum := "c43a5c572c4ccbcbafdf22458407b0d5b827f5aa55baa14b7400637ffc9608f1", func := "sealchain/sealchainlaw04.AesBlocks", spec := "aesBlocks", unfollowed := true, recurses := true, apart := false, narrowed := true }
def AesBlocksUptoSaid : Prop := aesBlocksUptoRow.holds Try.pinned (OpenSpec.upto aesBlocksSpec)

/-- 'sealchainlaw04.AesBytes', WHERE WHAT IT READS IS OF BULK AT MOST 1048576: true; the input reads as it did. -/
def aesBytesUptoRow : OpenClaim := { program := "ytnigpobbckampaa", sum := "c43a5c572c4ccbcbafdf22458407b0d5b827f5aa55baa14b7400637ffc9608f1", func := "sealchain/sealchainlaw04.AesBytes", spec := "aesBytes", unfollowed := true, recurses := true, apart := false, narrowed := true }
def AesBytesUptoSaid : Prop := aesBytesUptoRow.holds Try.pinned (OpenSpec.upto aesBytesSpec)

/-- 'sealchainlaw04.AesField', WHERE WHAT IT READS IS OF BULK AT MOST 1048576: true; the input reads as it did. -/
def aesFieldUptoRow : OpenClaim := { program := "ytnigpobbckampaa", sum := "c43a5c572c4ccbcbafdf22458407b0d5b827f5aa55baa14b7400637ffc9608f1", func := "sealchain/sealchainlaw04.AesField", spec := "aesField", unfollowed := true, recurses := true, apart := false, narrowed := true }
def AesFieldUptoSaid : Prop := aesFieldUptoRow.holds Try.pinned (OpenSpec.upto aesFieldSpec)

/-- 'sealchainlaw05.GcmTimes', WHERE WHAT IT READS IS OF BULK AT MOST 1048576: true; the input reads as it did. -/
def gcmTimesUptoRow : OpenClaim := { program := "ytnigpobbckampaa", sum := "c43a5c572c4ccbcbafdf22458407b0d5b827f5aa55baa14b7400637ffc9608f1", func := "sealchain/sealchainlaw05.GcmTimes", spec := "gcmTimes", unfollowed := true, recurses := true, apart := false, narrowed := true }
def GcmTimesUptoSaid : Prop := gcmTimesUptoRow.holds Try.pinned (OpenSpec.upto gcmTimesSpec)

/-- 'sealchainlaw05.GcmField', WHERE WHAT IT READS IS OF BULK AT MOST 1048576: true; the input reads as it did. -/
def gcmFieldUptoRow : OpenClaim := { program := "ytnigpobbckampaa", sum := "c43a5c572c4ccbcbafdf22458407b0d5b827f5aa55baa14b7400637ffc9608f1", func := "sealchain/sealchainlaw05.GcmField", spec := "gcmField", unfollowed := true, recurses := true, apart := false, narrowed := true }
def GcmFieldUptoSaid : Prop := gcmFieldUptoRow.holds Try.pinned (OpenSpec.upto gcmFieldSpec)

/-- 'sealchainlaw04.AesApart', WHERE WHAT IT READS IS OF BULK AT MOST 1048576: true; the input reads as it did. -/
def aesApartUptoRow : OpenClaim := { program := "ytnigpobbckampaa", sum := "c43a5c572c4ccbcbafdf22458407b0d5b827f5aa55baa14b7400637ffc9608f1", func := "sealchain/sealchainlaw04.AesApart", spec := "aesApart", unfollowed := true, recurses := true, apart := false, narrowed := true }
def AesApartUptoSaid : Prop := aesApartUptoRow.holds Try.pinned (OpenSpec.upto aesApartSpec)

/-- 'sealchainlaw04.AesAlike', WHERE WHAT IT READS IS OF BULK AT MOST 1048576: true; the input reads as it did. -/
def aesAlikeUptoRow : OpenClaim := { program := "ytnigpobbckampaa", sum := "c43a5c572c4ccbcbafdf22458407b0d5b827f5aa55baa14b7400637ffc9608f1", func := "sealchain/sealchainlaw04.AesAlike", spec := "aesAlike", unfollowed := true, recurses := true, apart := false, narrowed := true }
def AesAlikeUptoSaid : Prop := aesAlikeUptoRow.holds Try.pinned (OpenSpec.upto aesAlikeSpec)

/-- 'sealchainlaw04.AesBox', WHERE WHAT IT READS IS OF BULK AT MOST 1048576: true; the input reads as it did. -/
def aesBoxUptoRow : OpenClaim := { program := "ytnigpobbckampaa", sum := "c43a5c572c4ccbcbafdf22458407b0d5b827f5aa55baa14b7400637ffc9608f1", func := "sealchain/sealchainlaw04.AesBox", spec := "aesBox", unfollowed := true, recurses := true, apart := false, narrowed := true }
def AesBoxUptoSaid : Prop := aesBoxUptoRow.holds Try.pinned (OpenSpec.upto aesBoxSpec)

/-- 'sealchainlaw04.AesKnown', WHERE WHAT IT READS IS OF BULK AT MOST 1048576: true; the input reads as it did. -/
def aesKnownUptoRow : OpenClaim := { program := "ytnigpobbckampaa", sum := "c43a5c572c4ccbcbafdf22458407b0d5b827f5aa55baa14b7400637ffc9608f1", func := "sealchain/sealchainlaw04.AesKnown", spec := "aesKnown", unfollowed := true, recurses := true, apart := false, narrowed := true }
def AesKnownUptoSaid : Prop := aesKnownUptoRow.holds Try.pinned (OpenSpec.upto aesKnownSpec)

/-- 'sealchainlaw05.GcmSeals', WHERE WHAT IT READS IS OF BULK AT MOST 1048576: true; the input reads as it did. -/
def gcmSealsUptoRow : OpenClaim := { program := "ytnigpobbckampaa", sum := "c43a5c572c4ccbcbafdf22458407b0d5b827f5aa55baa14b7400637ffc9608f1", func := "sealchain/sealchainlaw05.GcmSeals", spec := "gcmSeals", unfollowed := true, recurses := true, apart := false, narrowed := true }
def GcmSealsUptoSaid : Prop := gcmSealsUptoRow.holds Try.pinned (OpenSpec.upto gcmSealsSpec)

/-- 'sealchainlaw05.GcmOpens', WHERE WHAT IT READS IS OF BULK AT MOST 1048576: true; the input reads as it did. -/
def gcmOpensUptoRow : OpenClaim := { program := "ytnigpobbckampaa", sum := "c43a5c572c4ccbcbafdf22458407b0d5b827f5aa55baa14b7400637ffc9608f1", func := "sealchain/sealchainlaw05.GcmOpens", spec := "gcmOpens", unfollowed := true, recurses := true, apart := false, narrowed := true }
def GcmOpensUptoSaid : Prop := gcmOpensUptoRow.holds Try.pinned (OpenSpec.upto gcmOpensSpec)

/-- 'sealchainlaw05.GcmBack', WHERE WHAT IT READS IS OF BULK AT MOST 1048576: true; the input reads as it did. -/
def gcmBackUptoRow : OpenClaim := { program := "ytnigpobbckampaa", sum := "c43a5c572c4ccbcbafdf22458407b0d5b827f5aa55baa14b7400637ffc9608f1", func := "sealchain/sealchainlaw05.GcmBack", spec := "gcmBack", unfollowed := true, recurses := true, apart := false, narrowed := true }
def GcmBackUptoSaid : Prop := gcmBackUptoRow.holds Try.pinned (OpenSpec.upto gcmBackSpec)

/-- 'sealchainlaw05.GcmTurned', WHERE WHAT IT READS IS OF BULK AT MOST 1048576: true; the input reads as it did. -/
def gcmTurnedUptoRow : OpenClaim := { program := "ytnigpobbckampaa", sum := "c43a5c572c4ccbcbafdf22458407b0d5b827f5aa55baa14b7400637ffc9608f1", func := "sealchain/sealchainlaw05.GcmTurned", spec := "gcmTurned", unfollowed := true, recurses := true, apart := false, narrowed := true }
def GcmTurnedUptoSaid : Prop := gcmTurnedUptoRow.holds Try.pinned (OpenSpec.upto gcmTurnedSpec)

/-- 'sealchainlaw05.GcmHides', WHERE WHAT IT READS IS OF BULK AT MOST 1048576: true; the input reads as it did. -/
def gcmHidesUptoRow : OpenClaim := { program := "ytnigpobbckampaa", sum := "c43a5c572c4ccbcbafdf22458407b0d5b827f5aa55baa14b7400637ffc9608f1", func := "sealchain/sealchainlaw05.GcmHides", spec := "gcmHides", unfollowed := true, recurses := true, apart := false, narrowed := true }
def GcmHidesUptoSaid : Prop := gcmHidesUptoRow.holds Try.pinned (OpenSpec.upto gcmHidesSpec)

/-- 'sealchainlaw05.GcmKnown', WHERE WHAT IT READS IS OF BULK AT MOST 1048576: true; the input reads as it did. -/
def gcmKnownUptoRow : OpenClaim := { program := "ytnigpobbckampaa", sum := "c43a5c572c4ccbcbafdf22458407b0d5b827f5aa55baa14b7400637ffc9608f1", func := "sealchain/sealchainlaw05.GcmKnown", spec := "gcmKnown", unfollowed := true, recurses := true, apart := false, narrowed := true }
def GcmKnownUptoSaid : Prop := gcmKnownUptoRow.holds Try.pinned (OpenSpec.upto gcmKnownSpec)

end Rows
end Go.Proofs.Ytnigpobbckampaa
