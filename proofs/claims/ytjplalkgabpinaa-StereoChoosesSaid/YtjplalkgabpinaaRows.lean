/-
  No cell of these rows narrows 'for every input' (looked for: loops, veiled, ifaces, maps, wideKeys, modest, calm, conditions, laid).
  DERIVED. THE GIVEN ROWS OF THIS SEAT. 6 by the template 'for every input the law returns true; each argument reads behind the call as it read before'; 0 by the template 'total and deterministic' (their statements: YtjplalkgabpinaaTotals.lean).
  GIVEN WITH THE SEED: the statements are not yours to turn. If you find one false, say at which input.
  Laid BY PROGRAM, IN A SANDBOX (cutbox-rows.mjs): the forced cells as the released guide's own fill.sh prints them over the translation b44c433011015bd9… (all of the seat's roots in one cut). By AI agents, Wed Nov 11 2026. No macro, syntax, notation, axiom, sorry.
-/
import Derived.Test.YtjplalkgabpinaaChecked
import GoSem.Claim
import GoSem.ClaimJoined
import GoSem.ClaimMapViews
import Derived.JoinedTies
import Derived.KernelRfl
namespace Go.Proofs.Ytjplalkgabpinaa
/- THE CELL 'sum', in the pinned program and in every row, IS THE sha256 OF THE DUMP (.gsa) THAT YtjplalkgabpinaaProg.lean LOADS. Nothing in Lean hashes anything: it is a label: what it is worth is what the hold of that sum in a sandbox is worth. -/
noncomputable def Try.pinned : Pinned := { name := "ytjplalkgabpinaa", sum := "b44c433011015bd9c42a4310cd1b2c25b0732b7989513ad72107cc86c6481a53", checked := Try.checked }
namespace Rows
def none {H : Type} : Left H := { results := [], args := [] }

/-- 'shawmlaw13.StereoBest': WHATEVER THE INPUT: true; the input reads as it did. -/
def stereoBestSpec : ChangeSpec := { name := "stereoBest", fn := fun _ => fun
  | [d1, d2] => { results := [.lit (.bool true)], args := [d1, d2] }
  | _ => none }
def stereoBestRow : OpenClaim := { program := "ytjplalkgabpinaa", sum := "b44c433011015bd9c42a4310cd1b2c25b0732b7989513ad72107cc86c6481a53", func := "shawm/shawmlaw13.StereoBest", spec := "stereoBest", unfollowed := true, recurses := true, apart := false }
def StereoBestSaid : Prop := stereoBestRow.holds Try.pinned (OpenSpec.ofChange stereoBestSpec)

/-- ITS FALSE NEIGHBOUR: 'it returns false'. Refute it at one input. -/
def stereoBestWrong : ChangeSpec := { name := "stereoBest", fn := fun _ => fun
  | [d1, d2] => { results := [.lit (.bool false)], args := [d1, d2] }
  | _ => none }
def StereoBestWrongFalsely : Prop := stereoBestRow.holds Try.pinned (OpenSpec.ofChange stereoBestWrong)

/-- 'shawmlaw13.StereoCross': WHATEVER THE INPUT: true; the input reads as it did. -/
def stereoCrossSpec : ChangeSpec := { name := "stereoCross", fn := fun _ => fun
  | [d1, d2] => { results := [.lit (.bool true)], args := [d1, d2] }
  | _ => none }
def stereoCrossRow : OpenClaim := { program := "ytjplalkgabpinaa", sum := "b44c433011015bd9c42a4310cd1b2c25b0732b7989513ad72107cc86c6481a53", func := "shawm/shawmlaw13.StereoCross", spec := "stereoCross", unfollowed := true, recurses := true, apart := false }
def StereoCrossSaid : Prop := stereoCrossRow.holds Try.pinned (OpenSpec.ofChange stereoCrossSpec)

/-- ITS FALSE NEIGHBOUR: 'it returns false'. Refute it at one input. -/
def stereoCrossWrong : ChangeSpec := { name := "stereoCross", fn := fun _ => fun
  | [d1, d2] => { results := [.lit (.bool false)], args := [d1, d2] }
  | _ => none }
def StereoCrossWrongFalsely : Prop := stereoCrossRow.holds Try.pinned (OpenSpec.ofChange stereoCrossWrong)

/-- 'shawmlaw13.StereoChooses': WHATEVER THE INPUT: true; the input reads as it did. -/
def stereoChoosesSpec : ChangeSpec := { name := "stereoChooses", fn := fun _ => fun
  | [d1, d2] => { results := [.lit (.bool true)], args := [d1, d2] }
  | _ => none }
def stereoChoosesRow : OpenClaim := { program := "ytjplalkgabpinaa", sum := "b44c433011015bd9c42a4310cd1b2c25b0732b7989513ad72107cc86c6481a53", func := "shawm/shawmlaw13.StereoChooses", spec := "stereoChooses", unfollowed := true, recurses := true, apart := false }
def StereoChoosesSaid : Prop := stereoChoosesRow.holds Try.pinned (OpenSpec.ofChange stereoChoosesSpec)

/-- ITS FALSE NEIGHBOUR: 'it returns false'. Refute it at one input. -/
def stereoChoosesWrong : ChangeSpec := { name := "stereoChooses", fn := fun _ => fun
  | [d1, d2] => { results := [.lit (.bool false)], args := [d1, d2] }
  | _ => none }
def StereoChoosesWrongFalsely : Prop := stereoChoosesRow.holds Try.pinned (OpenSpec.ofChange stereoChoosesWrong)

/-- 'shawmlaw13.StereoCouples': WHATEVER THE INPUT: true; the input reads as it did. -/
def stereoCouplesSpec : ChangeSpec := { name := "stereoCouples", fn := fun _ => fun
  | [d1, d2, d3] => { results := [.lit (.bool true)], args := [d1, d2, d3] }
  | _ => none }
def stereoCouplesRow : OpenClaim := { program := "ytjplalkgabpinaa", sum := "b44c433011015bd9c42a4310cd1b2c25b0732b7989513ad72107cc86c6481a53", func := "shawm/shawmlaw13.StereoCouples", spec := "stereoCouples", unfollowed := true, recurses := true, apart := false }
def StereoCouplesSaid : Prop := stereoCouplesRow.holds Try.pinned (OpenSpec.ofChange stereoCouplesSpec)

/-- ITS FALSE NEIGHBOUR: 'it returns false'. Refute it at one input. -/
def stereoCouplesWrong : ChangeSpec := { name := "stereoCouples", fn := fun _ => fun
  | [d1, d2, d3] => { results := [.lit (.bool false)], args := [d1, d2, d3] }
  | _ => none }
def StereoCouplesWrongFalsely : Prop := stereoCouplesRow.holds Try.pinned (OpenSpec.ofChange stereoCouplesWrong)

/-- 'shawmlaw13.StereoUndone': WHATEVER THE INPUT: true; the input reads as it did. -/
def stereoUndoneSpec : ChangeSpec := { name := "stereoUndone", fn := fun _ => fun
  | [d1, d2, d3] => { results := [.lit (.bool true)], args := [d1, d2, d3] }
  | _ => none }
def stereoUndoneRow : OpenClaim := { program := "ytjplalkgabpinaa", sum := "b44c433011015bd9c42a4310cd1b2c25b0732b7989513ad72107cc86c6481a53", func := "shawm/shawmlaw13.StereoUndone", spec := "stereoUndone", unfollowed := true, recurses := true, apart := false }
def StereoUndoneSaid : Prop := stereoUndoneRow.holds Try.pinned (OpenSpec.ofChange stereoUndoneSpec)

/-- ITS FALSE NEIGHBOUR: 'it returns false'. Refute it at one input. -/
def stereoUndoneWrong : ChangeSpec := { name := "stereoUndone", fn := fun _ => fun
  | [d1, d2, d3] => { results := [.lit (.bool false)], args := [d1, d2, d3] }
  | _ => none }
def StereoUndoneWrongFalsely : Prop := stereoUndoneRow.holds Try.pinned (OpenSpec.ofChange stereoUndoneWrong)

/-- 'shawmlaw13.StereoSame': WHATEVER THE INPUT: true; the input reads as it did. -/
def stereoSameSpec : ChangeSpec := { name := "stereoSame", fn := fun _ => fun
  | [d1, d2] => { results := [.lit (.bool true)], args := [d1, d2] }
  | _ => none }
def stereoSameRow : OpenClaim := { program := "ytjplalkgabpinaa", sum := "b44c433011015bd9c42a4310cd1b2c25b0732b7989513ad72107cc86c6481a53", func := "shawm/shawmlaw13.StereoSame", spec := "stereoSame", unfollowed := true, recurses := true, apart := false }
def StereoSameSaid : Prop := stereoSameRow.holds Try.pinned (OpenSpec.ofChange stereoSameSpec)

/-- ITS FALSE NEIGHBOUR: 'it returns false'. Refute it at one input. -/
def stereoSameWrong : ChangeSpec := { name := "stereoSame", fn := fun _ => fun
  | [d1, d2] => { results := [.lit (.bool false)], args := [d1, d2] }
  | _ => none }
def StereoSameWrongFalsely : Prop := stereoSameRow.holds Try.pinned (OpenSpec.ofChange stereoSameWrong)

/- THE SECOND FORM. 'bulk': how many values and letters a reading holds, each counted each time it is reached (what is shared counts as often as it is met; a slice's spare places count too). A statement '..UptoSaid' is the law's where the arguments, and the package variables that the reading takes, are together of bulk at most 1048576: NARROWER than '..Said'. Prove '..Said' where nothing that the law and all that it calls make is longer than what came in: it says more and counts as full. Else prove '..UptoSaid'. A law counts once. -/
mutual
def uptoBulk {H : Type} : DataW H → Nat
  | .lit (.string bytes) => bytes.length + 1
  | .lit _ => 1
  | .nil => 1
  | .ptr d => uptoBulk d + 1
  | .slice elems spare => uptoBulkAll elems + uptoBulkAll spare + 1
  | .agg parts => uptoBulkAll parts + 1
  | .iface _ d => uptoBulk d + 1
  | .map entries => uptoBulkEntries entries + 1
  | .held _ => 1
def uptoBulkAll {H : Type} : List (DataW H) → Nat
  | [] => 0
  | d :: r => uptoBulk d + uptoBulkAll r
def uptoBulkEntries {H : Type} : List (Lit × DataW H) → Nat
  | [] => 0
  | x :: r => uptoBulkEntry x + uptoBulkEntries r
def uptoBulkEntry {H : Type} : Lit × DataW H → Nat
  | (.string bytes, d) => bytes.length + uptoBulk d + 1
  | (_, d) => uptoBulk d + 1
 end
def uptoSmall : (H : Type) → List (DataW H) → Bool := fun _ ds => decide (uptoBulkAll ds ≤ 1048576)
def OpenSpec.upto (s : _root_.Go.ChangeSpec) : _root_.Go.OpenSpec := { _root_.Go.OpenSpec.ofChange s with cond := some uptoSmall }

/-- 'shawmlaw13.StereoBest', WHERE WHAT IT READS IS OF BULK AT MOST 1048576: true; the input reads as it did. -/
def stereoBestUptoRow : OpenClaim := { program := "ytjplalkgabpinaa", sum := "b44c433011015bd9c42a4310cd1b2c25b0732b7989513ad72107cc86c6481a53", func := "shawm/shawmlaw13.StereoBest", spec := "stereoBest", unfollowed := true, recurses := true, apart := false, narrowed := true }
def StereoBestUptoSaid : Prop := stereoBestUptoRow.holds Try.pinned (OpenSpec.upto stereoBestSpec)

/-- 'shawmlaw13.StereoCross', WHERE WHAT IT READS IS OF BULK AT MOST 1048576: true; the input reads as it did. -/
def stereoCrossUptoRow : OpenClaim := { program := "ytjplalkgabpinaa", sum := "b44c433011015bd9c42a4310cd1b2c25b0732b7989513ad72107cc86c6481a53", func := "shawm/shawmlaw13.StereoCross", spec := "stereoCross", unfollowed := true, recurses := true, apart := false, narrowed := true }
def StereoCrossUptoSaid : Prop := stereoCrossUptoRow.holds Try.pinned (OpenSpec.upto stereoCrossSpec)

/-- 'shawmlaw13.StereoChooses', WHERE WHAT IT READS IS OF BULK AT MOST 1048576: true; the input reads as it did. -/
def stereoChoosesUptoRow : OpenClaim := { program := "ytjplalkgabpinaa", sum := "b44c433011015bd9c42a4310cd1b2c25b0732b7989513ad72107cc86c6481a53", func := "shawm/shawmlaw13.StereoChooses", spec := "stereoChooses", unfollowed := true, recurses := true, apart := false, narrowed := true }
def StereoChoosesUptoSaid : Prop := stereoChoosesUptoRow.holds Try.pinned (OpenSpec.upto stereoChoosesSpec)

/-- 'shawmlaw13.StereoCouples', WHERE WHAT IT READS IS OF BULK AT MOST 1048576: true; the input reads as it did. -/
def stereoCouplesUptoRow : OpenClaim := { program := "ytjplalkgabpinaa", sum := "b44c433011015bd9c42a4310cd1b2c25b0732b7989513ad72107cc86c6481a53", func := "shawm/shawmlaw13.StereoCouples", spec := "stereoCouples", unfollowed := true, recurses := true, apart := false, narrowed := true }
def StereoCouplesUptoSaid : Prop := stereoCouplesUptoRow.holds Try.pinned (OpenSpec.upto stereoCouplesSpec)

/-- 'shawmlaw13.StereoUndone', WHERE WHAT IT READS IS OF BULK AT MOST 1048576: true; the input reads as it did. -/
def stereoUndoneUptoRow : OpenClaim := { program := "ytjplalkgabpinaa", sum := "b44c433011015bd9c42a4310cd1b2c25b0732b7989513ad72107cc86c6481a53", func := "shawm/shawmlaw13.StereoUndone", spec := "stereoUndone", unfollowed := true, recurses := true, apart := false, narrowed := true }
def StereoUndoneUptoSaid : Prop := stereoUndoneUptoRow.holds Try.pinned (OpenSpec.upto stereoUndoneSpec)

/-- 'shawmlaw13.StereoSame', WHERE WHAT IT READS IS OF BULK AT MOST 1048576: true; the input reads as it did. -/
def stereoSameUptoRow : OpenClaim := { program := "ytjplalkgabpinaa", sum := "b44c433011015bd9c42a4310cd1b2c25b0732b7989513ad72107cc86c6481a53", func := "shawm/shawmlaw13.StereoSame", spec := "stereoSame", unfollowed := true, recurses := true, apart := false, narrowed := true }
def StereoSameUptoSaid : Prop := stereoSameUptoRow.holds Try.pinned (OpenSpec.upto stereoSameSpec)

end Rows
end Go.Proofs.Ytjplalkgabpinaa
