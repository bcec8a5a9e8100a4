/-
  DERIVED. GIVEN WITH THE SEED: THE CARDS: each row of YtoamhkgnnjoaaaaDoorRows.lean that lists a variable, with what it lists TIED to the program's text (the seventh form; the later family's looks); each row that meets fmt, with fmt's text TOLD by the authors' own Lean function (tested against real Go, not proved from fmt's source: count such statements apart). THE CARD IS WHAT COUNTS. Prove the row's statement (the work); the ties are given (YtoamhkgnnjoaaaaDoorTie.lean); close each card by the builder's one call (the guide's Derived/Test/ToyasCard.lean, 'card_holds'). Laid BY PROGRAM, IN A SANDBOX (cutbox-door.mjs). By AI agents, Wed Nov 11 2026. No macro, syntax, notation, axiom, sorry.
-/
import Derived.Test.YtoamhkgnnjoaaaaDoorRows
import GoSem.ClaimSeven
namespace Go.Proofs.YtoamhkgnnjoaaaaDoor
namespace Rows

/-- THE TIED CARD OF 'basculelaw05.OpChecks'. -/
def opChecksCard : Claim7 := { stood := { row := opChecksRow, standIns := [], harness := (true, "76a978354a63b3f362fa44672457f98133c7a1e732786ea8c07f0d3af77989b4"), looks := false }, kinds := [], alts := [], laidByText := true, laidKinds := [.data, .data], laidTests := true, laidLooks := .later }
def OpChecksCardSaid : Prop := Claim7.holds Tryd.pinned (.plain (OpenSpec.ofChange opChecksSpec)) opChecksCard

/-- THE TIED CARD OF 'basculelaw04.PartSays'. -/
def partSaysCard : Claim7 := { stood := { row := partSaysRow, standIns := [], harness := (true, "76a978354a63b3f362fa44672457f98133c7a1e732786ea8c07f0d3af77989b4"), looks := false }, kinds := [], alts := [], laidByText := true, laidKinds := [.data], laidTests := true, laidLooks := .later }
def PartSaysCardSaid : Prop := Claim7.holds Tryd.pinned (.plain (OpenSpec.ofChange partSaysSpec)) partSaysCard

/-- THE TIED CARD OF 'basculelaw04.PartStands'. -/
def partStandsCard : Claim7 := { stood := { row := partStandsRow, standIns := [], harness := (true, "76a978354a63b3f362fa44672457f98133c7a1e732786ea8c07f0d3af77989b4"), looks := false }, kinds := [], alts := [], laidByText := true, laidKinds := [.data], laidTests := true, laidLooks := .later }
def PartStandsCardSaid : Prop := Claim7.holds Tryd.pinned (.plain (OpenSpec.ofChange partStandsSpec)) partStandsCard

/-- THE TIED CARD OF 'basculelaw05.OpUnlike'. -/
def opUnlikeCard : Claim7 := { stood := { row := opUnlikeRow, standIns := [], harness := (true, "76a978354a63b3f362fa44672457f98133c7a1e732786ea8c07f0d3af77989b4"), looks := false }, kinds := [], alts := [], laidByText := true, laidKinds := [.data], laidTests := true, laidLooks := .later }
def OpUnlikeCardSaid : Prop := Claim7.holds Tryd.pinned (.plain (OpenSpec.ofChange opUnlikeSpec)) opUnlikeCard

/-- THE TIED CARD OF 'basculelaw05.OpOne'. -/
def opOneCard : Claim7 := { stood := { row := opOneRow, standIns := [], harness := (true, "76a978354a63b3f362fa44672457f98133c7a1e732786ea8c07f0d3af77989b4"), looks := false }, kinds := [], alts := [], laidByText := true, laidKinds := [.data], laidTests := true, laidLooks := .later }
def OpOneCardSaid : Prop := Claim7.holds Tryd.pinned (.plain (OpenSpec.ofChange opOneSpec)) opOneCard

/-- THE TIED CARD OF 'basculelaw05.OpNames'. -/
def opNamesCard : Claim7 := { stood := { row := opNamesRow, standIns := [], harness := (true, "76a978354a63b3f362fa44672457f98133c7a1e732786ea8c07f0d3af77989b4"), looks := false }, kinds := [], alts := [], laidByText := true, laidKinds := [.data, .data], laidTests := true, laidLooks := .later }
def OpNamesCardSaid : Prop := Claim7.holds Tryd.pinned (.plain (OpenSpec.ofChange opNamesSpec)) opNamesCard

/-- THE TIED CARD OF 'basculelaw04.PartNames'. -/
def partNamesCard : Claim7 := { stood := { row := partNamesRow, standIns := [], harness := (true, "76a978354a63b3f362fa44672457f98133c7a1e732786ea8c07f0d3af77989b4"), looks := false }, kinds := [], alts := [], laidByText := true, laidKinds := [.data], laidTests := true, laidLooks := .later }
def PartNamesCardSaid : Prop := Claim7.holds Tryd.pinned (.plain (OpenSpec.ofChange partNamesSpec)) partNamesCard

/-- THE TIED CARD OF 'basculelaw04.PartOne'. -/
def partOneCard : Claim7 := { stood := { row := partOneRow, standIns := [], harness := (true, "76a978354a63b3f362fa44672457f98133c7a1e732786ea8c07f0d3af77989b4"), looks := false }, kinds := [], alts := [], laidByText := true, laidKinds := [.data], laidTests := true, laidLooks := .later }
def PartOneCardSaid : Prop := Claim7.holds Tryd.pinned (.plain (OpenSpec.ofChange partOneSpec)) partOneCard

/-- THE TIED CARD OF 'basculelaw04.PartBack'. -/
def partBackCard : Claim7 := { stood := { row := partBackRow, standIns := [], harness := (true, "76a978354a63b3f362fa44672457f98133c7a1e732786ea8c07f0d3af77989b4"), looks := false }, kinds := [], alts := [], laidByText := true, laidKinds := [.data], laidTests := true, laidLooks := .later }
def PartBackCardSaid : Prop := Claim7.holds Tryd.pinned (.plain (OpenSpec.ofChange partBackSpec)) partBackCard

/-- THE TIED CARD OF 'basculelaw04.PartFresh'. -/
def partFreshCard : Claim7 := { stood := { row := partFreshRow, standIns := [], harness := (true, "76a978354a63b3f362fa44672457f98133c7a1e732786ea8c07f0d3af77989b4"), looks := false }, kinds := [], alts := [], laidByText := true, laidKinds := [.data], laidTests := true, laidLooks := .later }
def PartFreshCardSaid : Prop := Claim7.holds Tryd.pinned (.plain (OpenSpec.ofChange partFreshSpec)) partFreshCard

/-- THE TIED CARD OF 'basculelaw05.OpBack'. -/
def opBackCard : Claim7 := { stood := { row := opBackRow, standIns := [], harness := (true, "76a978354a63b3f362fa44672457f98133c7a1e732786ea8c07f0d3af77989b4"), looks := false }, kinds := [], alts := [], laidByText := true, laidKinds := [.data], laidTests := true, laidLooks := .later }
def OpBackCardSaid : Prop := Claim7.holds Tryd.pinned (.plain (OpenSpec.ofChange opBackSpec)) opBackCard

/-- THE SECOND FORM's CARD OF 'basculelaw05.OpChecks'. -/
def opChecksUptoCard : Claim7 := { stood := { row := opChecksUptoRow, standIns := [], harness := (true, "76a978354a63b3f362fa44672457f98133c7a1e732786ea8c07f0d3af77989b4"), looks := false }, kinds := [], alts := [], laidByText := true, laidKinds := [.data, .data], laidTests := true, laidLooks := .later }
def OpChecksUptoCardSaid : Prop := Claim7.holds Tryd.pinned (.plain (OpenSpec.upto opChecksSpec)) opChecksUptoCard

/-- THE SECOND FORM's CARD OF 'basculelaw04.PartSays'. -/
def partSaysUptoCard : Claim7 := { stood := { row := partSaysUptoRow, standIns := [], harness := (true, "76a978354a63b3f362fa44672457f98133c7a1e732786ea8c07f0d3af77989b4"), looks := false }, kinds := [], alts := [], laidByText := true, laidKinds := [.data], laidTests := true, laidLooks := .later }
def PartSaysUptoCardSaid : Prop := Claim7.holds Tryd.pinned (.plain (OpenSpec.upto partSaysSpec)) partSaysUptoCard

/-- THE SECOND FORM's CARD OF 'basculelaw04.PartStands'. -/
def partStandsUptoCard : Claim7 := { stood := { row := partStandsUptoRow, standIns := [], harness := (true, "76a978354a63b3f362fa44672457f98133c7a1e732786ea8c07f0d3af77989b4"), looks := false }, kinds := [], alts := [], laidByText := true, laidKinds := [.data], laidTests := true, laidLooks := .later }
def PartStandsUptoCardSaid : Prop := Claim7.holds Tryd.pinned (.plain (OpenSpec.upto partStandsSpec)) partStandsUptoCard

/-- THE SECOND FORM's CARD OF 'basculelaw05.OpUnlike'. -/
def opUnlikeUptoCard : Claim7 := { stood := { row := opUnlikeUptoRow, standIns := [], harness := (true, "76a978354a63b3f362fa44672457f98133c7a1e732786ea8c07f0d3af77989b4"), looks := false }, kinds := [], alts := [], laidByText := true, laidKinds := [.data], laidTests := true, laidLooks := .later }
def OpUnlikeUptoCardSaid : Prop := Claim7.holds Tryd.pinned (.plain (OpenSpec.upto opUnlikeSpec)) opUnlikeUptoCard

/-- THE SECOND FORM's CARD OF 'basculelaw05.OpOne'. -/
def opOneUptoCard : Claim7 := { stood := { row := opOneUptoRow, standIns := [], harness := (true, "76a978354a63b3f362fa44672457f98133c7a1e732786ea8c07f0d3af77989b4"), looks := false }, kinds := [], alts := [], laidByText := true, laidKinds := [.data], laidTests := true, laidLooks := .later }
def OpOneUptoCardSaid : Prop := Claim7.holds Tryd.pinned (.plain (OpenSpec.upto opOneSpec)) opOneUptoCard

/-- THE SECOND FORM's CARD OF 'basculelaw05.OpNames'. -/
def opNamesUptoCard : Claim7 := { stood := { row := opNamesUptoRow, standIns := [], harness := (true, "76a978354a63b3f362fa44672457f98133c7a1e732786ea8c07f0d3af77989b4"), looks := false }, kinds := [], alts := [], laidByText := true, laidKinds := [.data, .data], laidTests := true, laidLooks := .later }
def OpNamesUptoCardSaid : Prop := Claim7.holds Tryd.pinned (.plain (OpenSpec.upto opNamesSpec)) opNamesUptoCard

/-- THE SECOND FORM's CARD OF 'basculelaw04.PartNames'. -/
def partNamesUptoCard : Claim7 := { stood := { row := partNamesUptoRow, standIns := [], harness := (true, "76a978354a63b3f362fa44672457f98133c7a1e732786ea8c07f0d3af77989b4"), looks := false }, kinds := [], alts := [], laidByText := true, laidKinds := [.data], laidTests := true, laidLooks := .later }
def PartNamesUptoCardSaid : Prop := Claim7.holds Tryd.pinned (.plain (OpenSpec.upto partNamesSpec)) partNamesUptoCard

/-- THE SECOND FORM's CARD OF 'basculelaw04.PartOne'. -/
def partOneUptoCard : Claim7 := { stood := { row := partOneUptoRow, standIns := [], harness := (true, "76a978354a63b3f362fa44672457f98133c7a1e732786ea8c07f0d3af77989b4"), looks := false }, kinds := [], alts := [], laidByText := true, laidKinds := [.data], laidTests := true, laidLooks := .later }
def PartOneUptoCardSaid : Prop := Claim7.holds Tryd.pinned (.plain (OpenSpec.upto partOneSpec)) partOneUptoCard

/-- THE SECOND FORM's CARD OF 'basculelaw04.PartBack'. -/
def partBackUptoCard : Claim7 := { stood := { row := partBackUptoRow, standIns := [], harness := (true, "76a978354a63b3f362fa44672457f98133c7a1e732786ea8c07f0d3af77989b4"), looks := false }, kinds := [], alts := [], laidByText := true, laidKinds := [.data], laidTests := true, laidLooks := .later }
def PartBackUptoCardSaid : Prop := Claim7.holds Tryd.pinned (.plain (OpenSpec.upto partBackSpec)) partBackUptoCard

/-- THE SECOND FORM's CARD OF 'basculelaw04.PartFresh'. -/
def partFreshUptoCard : Claim7 := { stood := { row := partFreshUptoRow, standIns := [], harness := (true, "76a978354a63b3f362fa44672457f98133c7a1e732786ea8c07f0d3af77989b4"), looks := false }, kinds := [], alts := [], laidByText := true, laidKinds := [.data], laidTests := true, laidLooks := .later }
def PartFreshUptoCardSaid : Prop := Claim7.holds Tryd.pinned (.plain (OpenSpec.upto partFreshSpec)) partFreshUptoCard

/-- THE SECOND FORM's CARD OF 'basculelaw05.OpBack'. -/
def opBackUptoCard : Claim7 := { stood := { row := opBackUptoRow, standIns := [], harness := (true, "76a978354a63b3f362fa44672457f98133c7a1e732786ea8c07f0d3af77989b4"), looks := false }, kinds := [], alts := [], laidByText := true, laidKinds := [.data], laidTests := true, laidLooks := .later }
def OpBackUptoCardSaid : Prop := Claim7.holds Tryd.pinned (.plain (OpenSpec.upto opBackSpec)) opBackUptoCard
end Rows
end Go.Proofs.YtoamhkgnnjoaaaaDoor
