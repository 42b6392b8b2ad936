/-
  No cell of these rows narrows 'for every input' (looked for: loops, veiled, ifaces, maps, wideKeys, modest, calm, conditions, laid).
  DERIVED. THE GIVEN ROWS OF THIS SEAT. 9 by the template 'for every input the law returns true; each argument reads behind the call as it read before'; 0 by the template 'total and deterministic' (their statements: YtooipbjdpajmmaaTotals.lean).
  GIVEN WITH THE SEED: the statements are not yours to turn. If you find one false, say at which input.
  Laid BY PROGRAM, IN A SANDBOX (cutbox-rows.mjs): the forced cells as the released guide's own fill.sh prints them over the translation 9bc1996700b61018… (all of the seat's roots in one cut). By AI agents, Wed Nov 11 2026. No macro, syntax, notation, axiom, sorry.
-/
import Derived.Test.YtooipbjdpajmmaaChecked
import GoSem.Claim
import GoSem.ClaimJoined
import GoSem.ClaimMapViews
import Derived.JoinedTies
import Derived.KernelRfl
namespace Go.Proofs.Ytooipbjdpajmmaa
/- THE CELL 'sum', in the pinned program and in every row, IS THE sha256 OF THE DUMP (.gsa) THAT YtooipbjdpajmmaaProg.lean LOADS. Nothing in Lean hashes anything: it is a label: what it is worth is what the hold of that sum in a sandbox is worth. -/
noncomputable def Try.pinned : Pinned := { name := "ytooipbjdpajmmaa", sum := "9bc1996700b61018a44f18ced23baddab892e84ed28cdb5ecb4aed72c0ad29e2", checked := Try.checked }
namespace Rows
def none {H : Type} : Left H := { results := [], args := [] }

/-- 'shawmlaw09.BlockGroups': WHATEVER THE INPUT: true; the input reads as it did. -/
def blockGroupsSpec : ChangeSpec := { name := "blockGroups", fn := fun _ => fun
  | [d1, d2] => { results := [.lit (.bool true)], args := [d1, d2] }
  | _ => none }
def blockGroupsRow : OpenClaim := { program := "ytooipbjdpajmmaa", sum := "9bc1996700b61018a44f18ced23baddab892e84ed28cdb5ecb4aed72c0ad29e2", func := "shawm/shawmlaw09.BlockGroups", spec := "blockGroups", unfollowed := true, recurses := true, apart := false }
def BlockGroupsSaid : Prop := blockGroupsRow.holds Try.pinned (OpenSpec.ofChange blockGroupsSpec)

/-- ITS FALSE NEIGHBOUR: 'it returns false'. Refute it at one input. -/
def blockGroupsWrong : ChangeSpec := { name := "blockGroups", fn := fun _ => fun
  | [d1, d2] => { results := [.lit (.bool false)], args := [d1, d2] }
  | _ => none }
def BlockGroupsWrongFalsely : Prop := blockGroupsRow.holds Try.pinned (OpenSpec.ofChange blockGroupsWrong)

/-- 'shawmlaw09.BlockParts': WHATEVER THE INPUT: true; the input reads as it did. -/
def blockPartsSpec : ChangeSpec := { name := "blockParts", fn := fun _ => fun
  | [d] => { results := [.lit (.bool true)], args := [d] }
  | _ => none }
def blockPartsRow : OpenClaim := { program := "ytooipbjdpajmmaa", sum := "9bc1996700b61018a44f18ced23baddab892e84ed28cdb5ecb4aed72c0ad29e2", func := "shawm/shawmlaw09.BlockParts", spec := "blockParts", unfollowed := true, recurses := true, apart := false }
def BlockPartsSaid : Prop := blockPartsRow.holds Try.pinned (OpenSpec.ofChange blockPartsSpec)

/-- ITS FALSE NEIGHBOUR: 'it returns false'. Refute it at one input. -/
def blockPartsWrong : ChangeSpec := { name := "blockParts", fn := fun _ => fun
  | [d] => { results := [.lit (.bool false)], args := [d] }
  | _ => none }
def BlockPartsWrongFalsely : Prop := blockPartsRow.holds Try.pinned (OpenSpec.ofChange blockPartsWrong)

/-- 'shawmlaw09.BlockQuiet': WHATEVER THE INPUT: true; the input reads as it did. -/
def blockQuietSpec : ChangeSpec := { name := "blockQuiet", fn := fun _ => fun
  | [d1, d2, d3] => { results := [.lit (.bool true)], args := [d1, d2, d3] }
  | _ => none }
def blockQuietRow : OpenClaim := { program := "ytooipbjdpajmmaa", sum := "9bc1996700b61018a44f18ced23baddab892e84ed28cdb5ecb4aed72c0ad29e2", func := "shawm/shawmlaw09.BlockQuiet", spec := "blockQuiet", unfollowed := true, recurses := true, apart := false }
def BlockQuietSaid : Prop := blockQuietRow.holds Try.pinned (OpenSpec.ofChange blockQuietSpec)

/-- ITS FALSE NEIGHBOUR: 'it returns false'. Refute it at one input. -/
def blockQuietWrong : ChangeSpec := { name := "blockQuiet", fn := fun _ => fun
  | [d1, d2, d3] => { results := [.lit (.bool false)], args := [d1, d2, d3] }
  | _ => none }
def BlockQuietWrongFalsely : Prop := blockQuietRow.holds Try.pinned (OpenSpec.ofChange blockQuietWrong)

/-- 'shawmlaw09.BlockOf': WHATEVER THE INPUT: true; the input reads as it did. -/
def blockOfSpec : ChangeSpec := { name := "blockOf", fn := fun _ => fun
  | [d] => { results := [.lit (.bool true)], args := [d] }
  | _ => none }
def blockOfRow : OpenClaim := { program := "ytooipbjdpajmmaa", sum := "9bc1996700b61018a44f18ced23baddab892e84ed28cdb5ecb4aed72c0ad29e2", func := "shawm/shawmlaw09.BlockOf", spec := "blockOf", unfollowed := true, recurses := true, apart := false }
def BlockOfSaid : Prop := blockOfRow.holds Try.pinned (OpenSpec.ofChange blockOfSpec)

/-- ITS FALSE NEIGHBOUR: 'it returns false'. Refute it at one input. -/
def blockOfWrong : ChangeSpec := { name := "blockOf", fn := fun _ => fun
  | [d] => { results := [.lit (.bool false)], args := [d] }
  | _ => none }
def BlockOfWrongFalsely : Prop := blockOfRow.holds Try.pinned (OpenSpec.ofChange blockOfWrong)

/-- 'shawmlaw09.BlockFrames': WHATEVER THE INPUT: true; the input reads as it did. -/
def blockFramesSpec : ChangeSpec := { name := "blockFrames", fn := fun _ => fun
  | [d1, d2, d3] => { results := [.lit (.bool true)], args := [d1, d2, d3] }
  | _ => none }
def blockFramesRow : OpenClaim := { program := "ytooipbjdpajmmaa", sum := "9bc1996700b61018a44f18ced23baddab892e84ed28cdb5ecb4aed72c0ad29e2", func := "shawm/shawmlaw09.BlockFrames", spec := "blockFrames", unfollowed := true, recurses := true, apart := false }
def BlockFramesSaid : Prop := blockFramesRow.holds Try.pinned (OpenSpec.ofChange blockFramesSpec)

/-- ITS FALSE NEIGHBOUR: 'it returns false'. Refute it at one input. -/
def blockFramesWrong : ChangeSpec := { name := "blockFrames", fn := fun _ => fun
  | [d1, d2, d3] => { results := [.lit (.bool false)], args := [d1, d2, d3] }
  | _ => none }
def BlockFramesWrongFalsely : Prop := blockFramesRow.holds Try.pinned (OpenSpec.ofChange blockFramesWrong)

/-- 'shawmlaw09.BlockExact': WHATEVER THE INPUT: true; the input reads as it did. -/
def blockExactSpec : ChangeSpec := { name := "blockExact", fn := fun _ => fun
  | [d1, d2] => { results := [.lit (.bool true)], args := [d1, d2] }
  | _ => none }
def blockExactRow : OpenClaim := { program := "ytooipbjdpajmmaa", sum := "9bc1996700b61018a44f18ced23baddab892e84ed28cdb5ecb4aed72c0ad29e2", func := "shawm/shawmlaw09.BlockExact", spec := "blockExact", unfollowed := true, recurses := true, apart := false }
def BlockExactSaid : Prop := blockExactRow.holds Try.pinned (OpenSpec.ofChange blockExactSpec)

/-- ITS FALSE NEIGHBOUR: 'it returns false'. Refute it at one input. -/
def blockExactWrong : ChangeSpec := { name := "blockExact", fn := fun _ => fun
  | [d1, d2] => { results := [.lit (.bool false)], args := [d1, d2] }
  | _ => none }
def BlockExactWrongFalsely : Prop := blockExactRow.holds Try.pinned (OpenSpec.ofChange blockExactWrong)

/-- 'shawmlaw09.BlockLaps': WHATEVER THE INPUT: true; the input reads as it did. -/
def blockLapsSpec : ChangeSpec := { name := "blockLaps", fn := fun _ => fun
  | [d1, d2] => { results := [.lit (.bool true)], args := [d1, d2] }
  | _ => none }
def blockLapsRow : OpenClaim := { program := "ytooipbjdpajmmaa", sum := "9bc1996700b61018a44f18ced23baddab892e84ed28cdb5ecb4aed72c0ad29e2", func := "shawm/shawmlaw09.BlockLaps", spec := "blockLaps", unfollowed := true, recurses := true, apart := false }
def BlockLapsSaid : Prop := blockLapsRow.holds Try.pinned (OpenSpec.ofChange blockLapsSpec)

/-- ITS FALSE NEIGHBOUR: 'it returns false'. Refute it at one input. -/
def blockLapsWrong : ChangeSpec := { name := "blockLaps", fn := fun _ => fun
  | [d1, d2] => { results := [.lit (.bool false)], args := [d1, d2] }
  | _ => none }
def BlockLapsWrongFalsely : Prop := blockLapsRow.holds Try.pinned (OpenSpec.ofChange blockLapsWrong)

/-- 'shawmlaw09.BlockKinds': WHATEVER THE INPUT: true; the input reads as it did. -/
def blockKindsSpec : ChangeSpec := { name := "blockKinds", fn := fun _ => fun
  | [d1, d2] => { results := [.lit (.bool true)], args := [d1, d2] }
  | _ => none }
def blockKindsRow : OpenClaim := { program := "ytooipbjdpajmmaa", sum := "9bc1996700b61018a44f18ced23baddab892e84ed28cdb5ecb4aed72c0ad29e2", func := "shawm/shawmlaw09.BlockKinds", spec := "blockKinds", unfollowed := true, recurses := true, apart := false }
def BlockKindsSaid : Prop := blockKindsRow.holds Try.pinned (OpenSpec.ofChange blockKindsSpec)

/-- ITS FALSE NEIGHBOUR: 'it returns false'. Refute it at one input. -/
def blockKindsWrong : ChangeSpec := { name := "blockKinds", fn := fun _ => fun
  | [d1, d2] => { results := [.lit (.bool false)], args := [d1, d2] }
  | _ => none }
def BlockKindsWrongFalsely : Prop := blockKindsRow.holds Try.pinned (OpenSpec.ofChange blockKindsWrong)

/-- 'shawmlaw09.BlockBack': WHATEVER THE INPUT: true; the input reads as it did. -/
def blockBackSpec : ChangeSpec := { name := "blockBack", fn := fun _ => fun
  | [d] => { results := [.lit (.bool true)], args := [d] }
  | _ => none }
def blockBackRow : OpenClaim := { program := "ytooipbjdpajmmaa", sum := "9bc1996700b61018a44f18ced23baddab892e84ed28cdb5ecb4aed72c0ad29e2", func := "shawm/shawmlaw09.BlockBack", spec := "blockBack", unfollowed := true, recurses := true, apart := false }
def BlockBackSaid : Prop := blockBackRow.holds Try.pinned (OpenSpec.ofChange blockBackSpec)

/-- ITS FALSE NEIGHBOUR: 'it returns false'. Refute it at one input. -/
def blockBackWrong : ChangeSpec := { name := "blockBack", fn := fun _ => fun
  | [d] => { results := [.lit (.bool false)], args := [d] }
  | _ => none }
def BlockBackWrongFalsely : Prop := blockBackRow.holds Try.pinned (OpenSpec.ofChange blockBackWrong)

/- THE SECOND FORM. 'bulk': how many values and letters a reading holds, each counted each time it is reached (what is shared counts as often as it is met; a slice's spare places count too). A statement '..UptoSaid' is the law's where the arguments, and the package variables that the reading takes, are together of bulk at most 1048576: NARROWER than '..Said'. Prove '..Said' where nothing that the law and all that it calls make is longer than what came in: it says more and counts as full. Else prove '..UptoSaid'. A law counts once. -/
mutual
def uptoBulk {H : Type} : DataW H → Nat
  | .lit (.string bytes) => bytes.length + 1
  | .lit _ => 1
  | .nil => 1
  | .ptr d => uptoBulk d + 1
  | .slice elems spare => uptoBulkAll elems + uptoBulkAll spare + 1
  | .agg parts => uptoBulkAll parts + 1
  | .iface _ d => uptoBulk d + 1
  | .map entries => uptoBulkEntries entries + 1
  | .held _ => 1
def uptoBulkAll {H : Type} : List (DataW H) → Nat
  | [] => 0
  | d :: r => uptoBulk d + uptoBulkAll r
def uptoBulkEntries {H : Type} : List (Lit × DataW H) → Nat
  | [] => 0
  | x :: r => uptoBulkEntry x + uptoBulkEntries r
def uptoBulkEntry {H : Type} : Lit × DataW H → Nat
  | (.string bytes, d) => bytes.length + uptoBulk d + 1
  | (_, d) => uptoBulk d + 1
 end
def uptoSmall : (H : Type) → List (DataW H) → Bool := fun _ ds => decide (uptoBulkAll ds ≤ 1048576)
def OpenSpec.upto (s : _root_.Go.ChangeSpec) : _root_.Go.OpenSpec := { _root_.Go.OpenSpec.ofChange s with cond := some uptoSmall }

/-- 'shawmlaw09.BlockGroups', WHERE WHAT IT READS IS OF BULK AT MOST 1048576: true; the input reads as it did. -/
def blockGroupsUptoRow : OpenClaim := { program := "ytooipbjdpajmmaa", sum := "9bc1996700b61018a44f18ced23baddab892e84ed28cdb5ecb4aed72c0ad29e2", func := "shawm/shawmlaw09.BlockGroups", spec := "blockGroups", unfollowed := true, recurses := true, apart := false, narrowed := true }
def BlockGroupsUptoSaid : Prop := blockGroupsUptoRow.holds Try.pinned (OpenSpec.upto blockGroupsSpec)

/-- 'shawmlaw09.BlockParts', WHERE WHAT IT READS IS OF BULK AT MOST 1048576: true; the input reads as it did. -/
def blockPartsUptoRow : OpenClaim := { program := "ytooipbjdpajmmaa", sum := "9bc1996700b61018a44f18ced23baddab892e84ed28cdb5ecb4aed72c0ad29e2", func := "shawm/shawmlaw09.BlockParts", spec := "blockParts", unfollowed := true, recurses := true, apart := false, narrowed := true }
def BlockPartsUptoSaid : Prop := blockPartsUptoRow.holds Try.pinned (OpenSpec.upto blockPartsSpec)

/-- 'shawmlaw09.BlockQuiet', WHERE WHAT IT READS IS OF BULK AT MOST 1048576: true; the input reads as it did. -/
def blockQuietUptoRow : OpenClaim := { program := "ytooipbjdpajmmaa", sum := "9bc1996700b61018a44f18ced23baddab892e84ed28cdb5ecb4aed72c0ad29e2", func := "shawm/shawmlaw09.BlockQuiet", spec := "blockQuiet", unfollowed := true, recurses := true, apart := false, narrowed := true }
def BlockQuietUptoSaid : Prop := blockQuietUptoRow.holds Try.pinned (OpenSpec.upto blockQuietSpec)

/-- 'shawmlaw09.BlockOf', WHERE WHAT IT READS IS OF BULK AT MOST 1048576: true; the input reads as it did. -/
def blockOfUptoRow : OpenClaim := { program := "ytooipbjdpajmmaa", sum := "9bc1996700b61018a44f18ced23baddab892e84ed28cdb5ecb4aed72c0ad29e2", func := "shawm/shawmlaw09.BlockOf", spec := "blockOf", unfollowed := true, recurses := true, apart := false, narrowed := true }
def BlockOfUptoSaid : Prop := blockOfUptoRow.holds Try.pinned (OpenSpec.upto blockOfSpec)

/-- 'shawmlaw09.BlockFrames', WHERE WHAT IT READS IS OF BULK AT MOST 1048576: true; the input reads as it did. -/
def blockFramesUptoRow : OpenClaim := { program := "ytooipbjdpajmmaa", sum := "9bc1996700b61018a44f18ced23baddab892e84ed28cdb5ecb4aed72c0ad29e2", func := "shawm/shawmlaw09.BlockFrames", spec := "blockFrames", unfollowed := true, recurses := true, apart := false, narrowed := true }
def BlockFramesUptoSaid : Prop := blockFramesUptoRow.holds Try.pinned (OpenSpec.upto blockFramesSpec)

/-- 'shawmlaw09.BlockExact', WHERE WHAT IT READS IS OF BULK AT MOST 1048576: true; the input reads as it did. -/
def blockExactUptoRow : OpenClaim := { program := "ytooipbjdpajmmaa", sum := "9bc1996700b61018a44f18ced23baddab892e84ed28cdb5ecb4aed72c0ad29e2", func := "shawm/shawmlaw09.BlockExact", spec := "blockExact", unfollowed := true, recurses := true, apart := false, narrowed := true }
def BlockExactUptoSaid : Prop := blockExactUptoRow.holds Try.pinned (OpenSpec.upto blockExactSpec)

/-- 'shawmlaw09.BlockLaps', WHERE WHAT IT READS IS OF BULK AT MOST 1048576: true; the input reads as it did. -/
def blockLapsUptoRow : OpenClaim := { program := "ytooipbjdpajmmaa", sum := "9bc1996700b61018a44f18ced23baddab892e84ed28cdb5ecb4aed72c0ad29e2", func := "shawm/shawmlaw09.BlockLaps", spec := "blockLaps", unfollowed := true, recurses := true, apart := false, narrowed := true }
def BlockLapsUptoSaid : Prop := blockLapsUptoRow.holds Try.pinned (OpenSpec.upto blockLapsSpec)

/-- 'shawmlaw09.BlockKinds', WHERE WHAT IT READS IS OF BULK AT MOST 1048576: true; the input reads as it did. -/
def blockKindsUptoRow : OpenClaim := { program := "ytooipbjdpajmmaa", sum := "9bc1996700b61018a44f18ced23baddab892e84ed28cdb5ecb4aed72c0ad29e2", func := "shawm/shawmlaw09.BlockKinds", spec := "blockKinds", unfollowed := true, recurses := true, apart := false, narrowed := true }
def BlockKindsUptoSaid : Prop := blockKindsUptoRow.holds Try.pinned (OpenSpec.upto blockKindsSpec)

/-- 'shawmlaw09.BlockBack', WHERE WHAT IT READS IS OF BULK AT MOST 1048576: true; the input reads as it did. -/
def blockBackUptoRow : OpenClaim := { program := "ytooipbjdpajmmaa", sum := "9bc1996700b61018a44f18ced23baddab892e84ed28cdb5ecb4aed72c0ad29e2", func := "shawm/shawmlaw09.BlockBack", spec := "blockBack", unfollowed := true, recurses := true, apart := false, narrowed := true }
def BlockBackUptoSaid : Prop := blockBackUptoRow.holds Try.pinned (OpenSpec.upto blockBackSpec)

end Rows
end Go.Proofs.Ytooipbjdpajmmaa
