/-
  DERIVED. GIVEN WITH THE SEED: THE CARDS: each row of YtacoekniljimoaaDoorRows.lean that lists a variable, with what it lists TIED to the program's text (the seventh form; the later family's looks); each row that meets fmt, with fmt's text TOLD by the authors' own Lean function (tested against real Go, not proved from fmt's source: count such statements apart). THE CARD IS WHAT COUNTS. Prove the row's statement (the work); the ties are given (YtacoekniljimoaaDoorTie.lean); close each card by the builder's one call (the guide's Derived/Test/ToyasCard.lean, 'card_holds'). Laid BY PROGRAM, IN A SANDBOX (cutbox-door.mjs). By AI agents, Wed Nov 11 2026. No macro, syntax, notation, axiom, sorry.
-/
import Derived.Test.YtacoekniljimoaaDoorRows
import GoSem.ClaimSeven
namespace Go.Proofs.YtacoekniljimoaaDoor
namespace Rows

/-- THE TIED CARD OF 'shawmlaw23.ReservoirPlans'. -/
def reservoirPlansCard : Claim7 := { stood := { row := reservoirPlansRow, standIns := [], harness := (true, "8234055120955941f5ac18f27a28a3b11231d8f42b6d8abb23fe234b71968a51"), looks := false }, kinds := [], alts := [], laidByText := true, laidKinds := [.data], laidTests := true, laidLooks := .later }
def ReservoirPlansCardSaid : Prop := Claim7.holds Tryd.pinned (.plain (OpenSpec.ofChange reservoirPlansSpec)) reservoirPlansCard

/-- THE TIED CARD OF 'shawmlaw23.ReservoirBounds'. -/
def reservoirBoundsCard : Claim7 := { stood := { row := reservoirBoundsRow, standIns := [], harness := (true, "8234055120955941f5ac18f27a28a3b11231d8f42b6d8abb23fe234b71968a51"), looks := false }, kinds := [], alts := [], laidByText := true, laidKinds := [.data], laidTests := true, laidLooks := .later }
def ReservoirBoundsCardSaid : Prop := Claim7.holds Tryd.pinned (.plain (OpenSpec.ofChange reservoirBoundsSpec)) reservoirBoundsCard

/-- THE TIED CARD OF 'shawmlaw23.ReservoirBack'. -/
def reservoirBackCard : Claim7 := { stood := { row := reservoirBackRow, standIns := [], harness := (true, "8234055120955941f5ac18f27a28a3b11231d8f42b6d8abb23fe234b71968a51"), looks := false }, kinds := [], alts := [], laidByText := true, laidKinds := [.data], laidTests := true, laidLooks := .later }
def ReservoirBackCardSaid : Prop := Claim7.holds Tryd.pinned (.plain (OpenSpec.ofChange reservoirBackSpec)) reservoirBackCard

/-- THE TIED CARD OF 'shawmlaw23.ReservoirLeast'. -/
def reservoirLeastCard : Claim7 := { stood := { row := reservoirLeastRow, standIns := [], harness := (true, "8234055120955941f5ac18f27a28a3b11231d8f42b6d8abb23fe234b71968a51"), looks := false }, kinds := [], alts := [], laidByText := true, laidKinds := [.data], laidTests := true, laidLooks := .later }
def ReservoirLeastCardSaid : Prop := Claim7.holds Tryd.pinned (.plain (OpenSpec.ofChange reservoirLeastSpec)) reservoirLeastCard

/-- THE TIED CARD OF 'shawmlaw23.ReservoirTakes'. -/
def reservoirTakesCard : Claim7 := { stood := { row := reservoirTakesRow, standIns := [], harness := (true, "8234055120955941f5ac18f27a28a3b11231d8f42b6d8abb23fe234b71968a51"), looks := false }, kinds := [], alts := [], laidByText := true, laidKinds := [.data], laidTests := true, laidLooks := .later }
def ReservoirTakesCardSaid : Prop := Claim7.holds Tryd.pinned (.plain (OpenSpec.ofChange reservoirTakesSpec)) reservoirTakesCard

/-- THE TIED CARD OF 'shawmlaw23.ReservoirPools'. -/
def reservoirPoolsCard : Claim7 := { stood := { row := reservoirPoolsRow, standIns := [], harness := (true, "8234055120955941f5ac18f27a28a3b11231d8f42b6d8abb23fe234b71968a51"), looks := false }, kinds := [], alts := [], laidByText := true, laidKinds := [.data], laidTests := true, laidLooks := .later }
def ReservoirPoolsCardSaid : Prop := Claim7.holds Tryd.pinned (.plain (OpenSpec.ofChange reservoirPoolsSpec)) reservoirPoolsCard

/-- THE TIED CARD OF 'shawmlaw23.ReservoirNil'. -/
def reservoirNilCard : Claim7 := { stood := { row := reservoirNilRow, standIns := [], harness := (true, "8234055120955941f5ac18f27a28a3b11231d8f42b6d8abb23fe234b71968a51"), looks := false }, kinds := [], alts := [], laidByText := true, laidKinds := [.data], laidTests := true, laidLooks := .later }
def ReservoirNilCardSaid : Prop := Claim7.holds Tryd.pinned (.plain (OpenSpec.ofChange reservoirNilSpec)) reservoirNilCard

/-- THE SECOND FORM's CARD OF 'shawmlaw23.ReservoirPlans'. -/
def reservoirPlansUptoCard : Claim7 := { stood := { row := reservoirPlansUptoRow, standIns := [], harness := (true, "8234055120955941f5ac18f27a28a3b11231d8f42b6d8abb23fe234b71968a51"), looks := false }, kinds := [], alts := [], laidByText := true, laidKinds := [.data], laidTests := true, laidLooks := .later }
def ReservoirPlansUptoCardSaid : Prop := Claim7.holds Tryd.pinned (.plain (OpenSpec.upto reservoirPlansSpec)) reservoirPlansUptoCard

/-- THE SECOND FORM's CARD OF 'shawmlaw23.ReservoirBounds'. -/
def reservoirBoundsUptoCard : Claim7 := { stood := { row := reservoirBoundsUptoRow, standIns := [], harness := (true, "8234055120955941f5ac18f27a28a3b11231d8f42b6d8abb23fe234b71968a51"), looks := false }, kinds := [], alts := [], laidByText := true, laidKinds := [.data], laidTests := true, laidLooks := .later }
def ReservoirBoundsUptoCardSaid : Prop := Claim7.holds Tryd.pinned (.plain (OpenSpec.upto reservoirBoundsSpec)) reservoirBoundsUptoCard

/-- THE SECOND FORM's CARD OF 'shawmlaw23.ReservoirBack'. -/
def reservoirBackUptoCard : Claim7 := { stood := { row := reservoirBackUptoRow, standIns := [], harness := (true, "8234055120955941f5ac18f27a28a3b11231d8f42b6d8abb23fe234b71968a51"), looks := false }, kinds := [], alts := [], laidByText := true, laidKinds := [.data], laidTests := true, laidLooks := .later }
def ReservoirBackUptoCardSaid : Prop := Claim7.holds Tryd.pinned (.plain (OpenSpec.upto reservoirBackSpec)) reservoirBackUptoCard

/-- THE SECOND FORM's CARD OF 'shawmlaw23.ReservoirLeast'. -/
def reservoirLeastUptoCard : Claim7 := { stood := { row := reservoirLeastUptoRow, standIns := [], harness := (true, "8234055120955941f5ac18f27a28a3b11231d8f42b6d8abb23fe234b71968a51"), looks := false }, kinds := [], alts := [], laidByText := true, laidKinds := [.data], laidTests := true, laidLooks := .later }
def ReservoirLeastUptoCardSaid : Prop := Claim7.holds Tryd.pinned (.plain (OpenSpec.upto reservoirLeastSpec)) reservoirLeastUptoCard

/-- THE SECOND FORM's CARD OF 'shawmlaw23.ReservoirTakes'. -/
def reservoirTakesUptoCard : Claim7 := { stood := { row := reservoirTakesUptoRow, standIns := [], harness := (true, "8234055120955941f5ac18f27a28a3b11231d8f42b6d8abb23fe234b71968a51"), looks := false }, kinds := [], alts := [], laidByText := true, laidKinds := [.data], laidTests := true, laidLooks := .later }
def ReservoirTakesUptoCardSaid : Prop := Claim7.holds Tryd.pinned (.plain (OpenSpec.upto reservoirTakesSpec)) reservoirTakesUptoCard

/-- THE SECOND FORM's CARD OF 'shawmlaw23.ReservoirPools'. -/
def reservoirPoolsUptoCard : Claim7 := { stood := { row := reservoirPoolsUptoRow, standIns := [], harness := (true, "8234055120955941f5ac18f27a28a3b11231d8f42b6d8abb23fe234b71968a51"), looks := false }, kinds := [], alts := [], laidByText := true, laidKinds := [.data], laidTests := true, laidLooks := .later }
def ReservoirPoolsUptoCardSaid : Prop := Claim7.holds Tryd.pinned (.plain (OpenSpec.upto reservoirPoolsSpec)) reservoirPoolsUptoCard

/-- THE SECOND FORM's CARD OF 'shawmlaw23.ReservoirNil'. -/
def reservoirNilUptoCard : Claim7 := { stood := { row := reservoirNilUptoRow, standIns := [], harness := (true, "8234055120955941f5ac18f27a28a3b11231d8f42b6d8abb23fe234b71968a51"), looks := false }, kinds := [], alts := [], laidByText := true, laidKinds := [.data], laidTests := true, laidLooks := .later }
def ReservoirNilUptoCardSaid : Prop := Claim7.holds Tryd.pinned (.plain (OpenSpec.upto reservoirNilSpec)) reservoirNilUptoCard
end Rows
end Go.Proofs.YtacoekniljimoaaDoor
