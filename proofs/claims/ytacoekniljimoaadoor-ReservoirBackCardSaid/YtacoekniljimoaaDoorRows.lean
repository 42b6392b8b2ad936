/-
  NARROWER THAN 'FOR EVERY INPUT', by the rows' own cells (each row's printed sentence says how): ReservoirPlans: laid · ReservoirBounds: laid · ReservoirBack: laid · ReservoirLeast: laid · ReservoirTakes: laid · ReservoirPools: laid · ReservoirNil: laid.
  DERIVED. THE GIVEN ROWS OF THIS SEAT. 7 by the template 'for every input the law returns true; each argument reads behind the call as it read before'; 0 by the template 'total and deterministic' (their statements: YtacoekniljimoaaDoorTotals.lean).
  GIVEN WITH THE SEED: the statements are not yours to turn. If you find one false, say at which input.
  Laid BY PROGRAM, IN A SANDBOX (cutbox-rows.mjs): the forced cells as the released guide's own fill.sh prints them over the translation 526c8a4f30c6af6f… (all of the seat's roots in one cut). By AI agents, Wed Nov 11 2026. No macro, syntax, notation, axiom, sorry.
-/
import Derived.Test.YtacoekniljimoaaDoorChecked
import GoSem.Claim
import GoSem.ClaimJoined
import GoSem.ClaimMapViews
import Derived.JoinedTies
import Derived.KernelRfl
namespace Go.Proofs.YtacoekniljimoaaDoor
/- THE CELL 'sum', in the pinned program and in every row, IS THE sha256 OF THE DUMP (.gsa) THAT YtacoekniljimoaaDoorProg.lean LOADS. Nothing in Lean hashes anything: it is a label: what it is worth is what the hold of that sum in a sandbox is worth. -/
noncomputable def Tryd.pinned : Pinned := { name := "ytacoekniljimoaadoor", sum := "526c8a4f30c6af6fd7381ebd0072838edec4bb666eac673a24e01a8594a21819", checked := Tryd.checked }
namespace Rows
def none {H : Type} : Left H := { results := [], args := [] }

/- WHAT THE LISTED PACKAGE-LEVEL VARIABLES READ AS WHEN THE CALL BEGINS. Each datum BY PROGRAM (the guide's laid-datum.mjs) off the statement by which the dump's own 'gosem.cut.vars' lays the variable. In a bare row this is a premise. The card (YtacoekniljimoaaDoorCards.lean) ties it to the program's text. -/
def laid_shawm_reservoir_limits {H : Type} : DataW H := .agg [.agg [.lit (.int .i64 1), .lit (.int .i64 2047)], .agg [.lit (.int .i64 0), .lit (.int .i64 511)]]

/-- 'shawmlaw23.ReservoirPlans': WHATEVER THE INPUT: true; the input reads as it did. -/
def reservoirPlansSpec : ChangeSpec := { name := "reservoirPlans", fn := fun _ => fun
  | [d1, d2] => { results := [.lit (.bool true)], args := [d1, d2] }
  | _ => none }
def reservoirPlansRow : OpenClaim := { program := "ytacoekniljimoaadoor", sum := "526c8a4f30c6af6fd7381ebd0072838edec4bb666eac673a24e01a8594a21819", func := "shawm/shawmlaw23.ReservoirPlans", spec := "reservoirPlans", unfollowed := true, recurses := true, named := ["shawm/reservoir.limits"], apart := false, laid := [("shawm/reservoir.limits", laid_shawm_reservoir_limits)] }
def ReservoirPlansSaid : Prop := reservoirPlansRow.holds Tryd.pinned (OpenSpec.ofChange reservoirPlansSpec)

/-- ITS FALSE NEIGHBOUR: 'it returns false'. Refute it at one input. -/
def reservoirPlansWrong : ChangeSpec := { name := "reservoirPlans", fn := fun _ => fun
  | [d1, d2] => { results := [.lit (.bool false)], args := [d1, d2] }
  | _ => none }
def ReservoirPlansWrongFalsely : Prop := reservoirPlansRow.holds Tryd.pinned (OpenSpec.ofChange reservoirPlansWrong)

/-- 'shawmlaw23.ReservoirBounds': WHATEVER THE INPUT: true; the input reads as it did. -/
def reservoirBoundsSpec : ChangeSpec := { name := "reservoirBounds", fn := fun _ => fun
  | [d1, d2] => { results := [.lit (.bool true)], args := [d1, d2] }
  | _ => none }
def reservoirBoundsRow : OpenClaim := { program := "ytacoekniljimoaadoor", sum := "526c8a4f30c6af6fd7381ebd0072838edec4bb666eac673a24e01a8594a21819", func := "shawm/shawmlaw23.ReservoirBounds", spec := "reservoirBounds", unfollowed := true, recurses := true, named := ["shawm/reservoir.limits"], apart := false, laid := [("shawm/reservoir.limits", laid_shawm_reservoir_limits)] }
def ReservoirBoundsSaid : Prop := reservoirBoundsRow.holds Tryd.pinned (OpenSpec.ofChange reservoirBoundsSpec)

/-- ITS FALSE NEIGHBOUR: 'it returns false'. Refute it at one input. -/
def reservoirBoundsWrong : ChangeSpec := { name := "reservoirBounds", fn := fun _ => fun
  | [d1, d2] => { results := [.lit (.bool false)], args := [d1, d2] }
  | _ => none }
def ReservoirBoundsWrongFalsely : Prop := reservoirBoundsRow.holds Tryd.pinned (OpenSpec.ofChange reservoirBoundsWrong)

/-- 'shawmlaw23.ReservoirBack': WHATEVER THE INPUT: true; the input reads as it did. -/
def reservoirBackSpec : ChangeSpec := { name := "reservoirBack", fn := fun _ => fun
  | [d1, d2, d3] => { results := [.lit (.bool true)], args := [d1, d2, d3] }
  | _ => none }
def reservoirBackRow : OpenClaim := { program := "ytacoekniljimoaadoor", sum := "526c8a4f30c6af6fd7381ebd0072838edec4bb666eac673a24e01a8594a21819", func := "shawm/shawmlaw23.ReservoirBack", spec := "reservoirBack", unfollowed := true, recurses := true, named := ["shawm/reservoir.limits"], apart := false, laid := [("shawm/reservoir.limits", laid_shawm_reservoir_limits)] }
def ReservoirBackSaid : Prop := reservoirBackRow.holds Tryd.pinned (OpenSpec.ofChange reservoirBackSpec)

/-- ITS FALSE NEIGHBOUR: 'it returns false'. Refute it at one input. -/
def reservoirBackWrong : ChangeSpec := { name := "reservoirBack", fn := fun _ => fun
  | [d1, d2, d3] => { results := [.lit (.bool false)], args := [d1, d2, d3] }
  | _ => none }
def ReservoirBackWrongFalsely : Prop := reservoirBackRow.holds Tryd.pinned (OpenSpec.ofChange reservoirBackWrong)

/-- 'shawmlaw23.ReservoirLeast': WHATEVER THE INPUT: true; the input reads as it did. -/
def reservoirLeastSpec : ChangeSpec := { name := "reservoirLeast", fn := fun _ => fun
  | [d1, d2, d3] => { results := [.lit (.bool true)], args := [d1, d2, d3] }
  | _ => none }
def reservoirLeastRow : OpenClaim := { program := "ytacoekniljimoaadoor", sum := "526c8a4f30c6af6fd7381ebd0072838edec4bb666eac673a24e01a8594a21819", func := "shawm/shawmlaw23.ReservoirLeast", spec := "reservoirLeast", unfollowed := true, recurses := true, named := ["shawm/reservoir.limits"], apart := false, laid := [("shawm/reservoir.limits", laid_shawm_reservoir_limits)] }
def ReservoirLeastSaid : Prop := reservoirLeastRow.holds Tryd.pinned (OpenSpec.ofChange reservoirLeastSpec)

/-- ITS FALSE NEIGHBOUR: 'it returns false'. Refute it at one input. -/
def reservoirLeastWrong : ChangeSpec := { name := "reservoirLeast", fn := fun _ => fun
  | [d1, d2, d3] => { results := [.lit (.bool false)], args := [d1, d2, d3] }
  | _ => none }
def ReservoirLeastWrongFalsely : Prop := reservoirLeastRow.holds Tryd.pinned (OpenSpec.ofChange reservoirLeastWrong)

/-- 'shawmlaw23.ReservoirTakes': WHATEVER THE INPUT: true; the input reads as it did. -/
def reservoirTakesSpec : ChangeSpec := { name := "reservoirTakes", fn := fun _ => fun
  | [d1, d2, d3] => { results := [.lit (.bool true)], args := [d1, d2, d3] }
  | _ => none }
def reservoirTakesRow : OpenClaim := { program := "ytacoekniljimoaadoor", sum := "526c8a4f30c6af6fd7381ebd0072838edec4bb666eac673a24e01a8594a21819", func := "shawm/shawmlaw23.ReservoirTakes", spec := "reservoirTakes", unfollowed := true, recurses := true, named := ["shawm/reservoir.limits"], apart := false, laid := [("shawm/reservoir.limits", laid_shawm_reservoir_limits)] }
def ReservoirTakesSaid : Prop := reservoirTakesRow.holds Tryd.pinned (OpenSpec.ofChange reservoirTakesSpec)

/-- ITS FALSE NEIGHBOUR: 'it returns false'. Refute it at one input. -/
def reservoirTakesWrong : ChangeSpec := { name := "reservoirTakes", fn := fun _ => fun
  | [d1, d2, d3] => { results := [.lit (.bool false)], args := [d1, d2, d3] }
  | _ => none }
def ReservoirTakesWrongFalsely : Prop := reservoirTakesRow.holds Tryd.pinned (OpenSpec.ofChange reservoirTakesWrong)

/-- 'shawmlaw23.ReservoirPools': WHATEVER THE INPUT: true; the input reads as it did. -/
def reservoirPoolsSpec : ChangeSpec := { name := "reservoirPools", fn := fun _ => fun
  | [d] => { results := [.lit (.bool true)], args := [d] }
  | _ => none }
def reservoirPoolsRow : OpenClaim := { program := "ytacoekniljimoaadoor", sum := "526c8a4f30c6af6fd7381ebd0072838edec4bb666eac673a24e01a8594a21819", func := "shawm/shawmlaw23.ReservoirPools", spec := "reservoirPools", unfollowed := true, recurses := true, named := ["shawm/reservoir.limits"], apart := false, laid := [("shawm/reservoir.limits", laid_shawm_reservoir_limits)] }
def ReservoirPoolsSaid : Prop := reservoirPoolsRow.holds Tryd.pinned (OpenSpec.ofChange reservoirPoolsSpec)

/-- ITS FALSE NEIGHBOUR: 'it returns false'. Refute it at one input. -/
def reservoirPoolsWrong : ChangeSpec := { name := "reservoirPools", fn := fun _ => fun
  | [d] => { results := [.lit (.bool false)], args := [d] }
  | _ => none }
def ReservoirPoolsWrongFalsely : Prop := reservoirPoolsRow.holds Tryd.pinned (OpenSpec.ofChange reservoirPoolsWrong)

/-- 'shawmlaw23.ReservoirNil': WHATEVER THE INPUT: true; the input reads as it did. -/
def reservoirNilSpec : ChangeSpec := { name := "reservoirNil", fn := fun _ => fun
  | [d1, d2] => { results := [.lit (.bool true)], args := [d1, d2] }
  | _ => none }
def reservoirNilRow : OpenClaim := { program := "ytacoekniljimoaadoor", sum := "526c8a4f30c6af6fd7381ebd0072838edec4bb666eac673a24e01a8594a21819", func := "shawm/shawmlaw23.ReservoirNil", spec := "reservoirNil", unfollowed := true, recurses := true, named := ["shawm/reservoir.limits"], apart := false, laid := [("shawm/reservoir.limits", laid_shawm_reservoir_limits)] }
def ReservoirNilSaid : Prop := reservoirNilRow.holds Tryd.pinned (OpenSpec.ofChange reservoirNilSpec)

/-- ITS FALSE NEIGHBOUR: 'it returns false'. Refute it at one input. -/
def reservoirNilWrong : ChangeSpec := { name := "reservoirNil", fn := fun _ => fun
  | [d1, d2] => { results := [.lit (.bool false)], args := [d1, d2] }
  | _ => none }
def ReservoirNilWrongFalsely : Prop := reservoirNilRow.holds Tryd.pinned (OpenSpec.ofChange reservoirNilWrong)

/- THE SECOND FORM. 'bulk': how many values and letters a reading holds, each counted each time it is reached (what is shared counts as often as it is met; a slice's spare places count too). A statement '..UptoSaid' is the law's where the arguments, and the package variables that the reading takes, are together of bulk at most 1048576: NARROWER than '..Said'. Prove '..Said' where nothing that the law and all that it calls make is longer than what came in: it says more and counts as full. Else prove '..UptoSaid'. A law counts once. -/
mutual
def uptoBulk {H : Type} : DataW H → Nat
  | .lit (.string bytes) => bytes.length + 1
  | .lit _ => 1
  | .nil => 1
  | .ptr d => uptoBulk d + 1
  | .slice elems spare => uptoBulkAll elems + uptoBulkAll spare + 1
  | .agg parts => uptoBulkAll parts + 1
  | .iface _ d => uptoBulk d + 1
  | .map entries => uptoBulkEntries entries + 1
  | .held _ => 1
def uptoBulkAll {H : Type} : List (DataW H) → Nat
  | [] => 0
  | d :: r => uptoBulk d + uptoBulkAll r
def uptoBulkEntries {H : Type} : List (Lit × DataW H) → Nat
  | [] => 0
  | x :: r => uptoBulkEntry x + uptoBulkEntries r
def uptoBulkEntry {H : Type} : Lit × DataW H → Nat
  | (.string bytes, d) => bytes.length + uptoBulk d + 1
  | (_, d) => uptoBulk d + 1
 end
def uptoSmall : (H : Type) → List (DataW H) → Bool := fun _ ds => decide (uptoBulkAll ds ≤ 1048576)
def OpenSpec.upto (s : _root_.Go.ChangeSpec) : _root_.Go.OpenSpec := { _root_.Go.OpenSpec.ofChange s with cond := some uptoSmall }

/-- 'shawmlaw23.ReservoirPlans', WHERE WHAT IT READS IS OF BULK AT MOST 1048576: true; the input reads as it did. -/
def reservoirPlansUptoRow : OpenClaim := { program := "ytacoekniljimoaadoor", sum := "526c8a4f30c6af6fd7381ebd0072838edec4bb666eac673a24e01a8594a21819", func := "shawm/shawmlaw23.ReservoirPlans", spec := "reservoirPlans", unfollowed := true, recurses := true, named := ["shawm/reservoir.limits"], apart := false, laid := [("shawm/reservoir.limits", laid_shawm_reservoir_limits)], narrowed := true }
def ReservoirPlansUptoSaid : Prop := reservoirPlansUptoRow.holds Tryd.pinned (OpenSpec.upto reservoirPlansSpec)

/-- 'shawmlaw23.ReservoirBounds', WHERE WHAT IT READS IS OF BULK AT MOST 1048576: true; the input reads as it did. -/
def reservoirBoundsUptoRow : OpenClaim := { program := "ytacoekniljimoaadoor", sum := "526c8a4f30c6af6fd7381ebd0072838edec4bb666eac673a24e01a8594a21819", func := "shawm/shawmlaw23.ReservoirBounds", spec := "reservoirBounds", unfollowed := true, recurses := true, named := ["shawm/reservoir.limits"], apart := false, laid := [("shawm/reservoir.limits", laid_shawm_reservoir_limits)], narrowed := true }
def ReservoirBoundsUptoSaid : Prop := reservoirBoundsUptoRow.holds Tryd.pinned (OpenSpec.upto reservoirBoundsSpec)

/-- 'shawmlaw23.ReservoirBack', WHERE WHAT IT READS IS OF BULK AT MOST 1048576: true; the input reads as it did. -/
def reservoirBackUptoRow : OpenClaim := { program := "ytacoekniljimoaadoor", sum := "526c8a4f30c6af6fd7381ebd0072838edec4bb666eac673a24e01a8594a21819", func := "shawm/shawmlaw23.ReservoirBack", spec := "reservoirBack", unfollowed := true, recurses := true, named := ["shawm/reservoir.limits"], apart := false, laid := [("shawm/reservoir.limits", laid_shawm_reservoir_limits)], narrowed := true }
def ReservoirBackUptoSaid : Prop := reservoirBackUptoRow.holds Tryd.pinned (OpenSpec.upto reservoirBackSpec)

/-- 'shawmlaw23.ReservoirLeast', WHERE WHAT IT READS IS OF BULK AT MOST 1048576: true; the input reads as it did. -/
def reservoirLeastUptoRow : OpenClaim := { program := "ytacoekniljimoaadoor", sum := "526c8a4f30c6af6fd7381ebd0072838edec4bb666eac673a24e01a8594a21819", func := "shawm/shawmlaw23.ReservoirLeast", spec := "reservoirLeast", unfollowed := true, recurses := true, named := ["shawm/reservoir.limits"], apart := false, laid := [("shawm/reservoir.limits", laid_shawm_reservoir_limits)], narrowed := true }
def ReservoirLeastUptoSaid : Prop := reservoirLeastUptoRow.holds Tryd.pinned (OpenSpec.upto reservoirLeastSpec)

/-- 'shawmlaw23.ReservoirTakes', WHERE WHAT IT READS IS OF BULK AT MOST 1048576: true; the input reads as it did. -/
def reservoirTakesUptoRow : OpenClaim := { program := "ytacoekniljimoaadoor", sum := "526c8a4f30c6af6fd7381ebd0072838edec4bb666eac673a24e01a8594a21819", func := "shawm/shawmlaw23.ReservoirTakes", spec := "reservoirTakes", unfollowed := true, recurses := true, named := ["shawm/reservoir.limits"], apart := false, laid := [("shawm/reservoir.limits", laid_shawm_reservoir_limits)], narrowed := true }
def ReservoirTakesUptoSaid : Prop := reservoirTakesUptoRow.holds Tryd.pinned (OpenSpec.upto reservoirTakesSpec)

/-- 'shawmlaw23.ReservoirPools', WHERE WHAT IT READS IS OF BULK AT MOST 1048576: true; the input reads as it did. -/
def reservoirPoolsUptoRow : OpenClaim := { program := "ytacoekniljimoaadoor", sum := "526c8a4f30c6af6fd7381ebd0072838edec4bb666eac673a24e01a8594a21819", func := "shawm/shawmlaw23.ReservoirPools", spec := "reservoirPools", unfollowed := true, recurses := true, named := ["shawm/reservoir.limits"], apart := false, laid := [("shawm/reservoir.limits", laid_shawm_reservoir_limits)], narrowed := true }
def ReservoirPoolsUptoSaid : Prop := reservoirPoolsUptoRow.holds Tryd.pinned (OpenSpec.upto reservoirPoolsSpec)

/-- 'shawmlaw23.ReservoirNil', WHERE WHAT IT READS IS OF BULK AT MOST 1048576: true; the input reads as it did. -/
def reservoirNilUptoRow : OpenClaim := { program := "ytacoekniljimoaadoor", sum := "526c8a4f30c6af6fd7381ebd0072838edec4bb666eac673a24e01a8594a21819", func := "shawm/shawmlaw23.ReservoirNil", spec := "reservoirNil", unfollowed := true, recurses := true, named := ["shawm/reservoir.limits"], apart := false, laid := [("shawm/reservoir.limits", laid_shawm_reservoir_limits)], narrowed := true }
def ReservoirNilUptoSaid : Prop := reservoirNilUptoRow.holds Tryd.pinned (OpenSpec.upto reservoirNilSpec)

end Rows
end Go.Proofs.YtacoekniljimoaaDoor
