/-
  DERIVED. GIVEN WITH THE SEED: THE CARDS: each row of YtecjbgddjejjdaaDoorRows.lean that lists a variable, with what it lists TIED to the program's text (the seventh form; the later family's looks); each row that meets fmt, with fmt's text TOLD by the authors' own Lean function (tested against real Go, not proved from fmt's source: count such statements apart). THE CARD IS WHAT COUNTS. Prove the row's statement (the work); the ties are given (YtecjbgddjejjdaaDoorTie.lean); close each card by the builder's one call (the guide's Derived/Test/ToyasCard.lean, 'card_holds'). Laid BY PROGRAM, IN A SANDBOX (cutbox-door.mjs). By AI agents, Wed Nov 11 2026. No macro, syntax, notation, axiom, sorry.
-/
import Derived.Test.YtecjbgddjejjdaaDoorRows
import GoSem.ClaimSeven
namespace Go.Proofs.YtecjbgddjejjdaaDoor
namespace Rows

/-- THE TIED CARD OF 'basculelaw22.PostAnnounces'. -/
def postAnnouncesCard : Claim7 := { stood := { row := postAnnouncesRow, standIns := [], harness := (true, "0e4ef632b192abd77c44a06c5f14d2200f1cc9fec8b70006eb32af9eb9a8400f"), looks := false }, kinds := [], alts := [], laidByText := true, laidKinds := [.data, .data, .data], laidTests := true, laidLooks := .later }
def PostAnnouncesCardSaid : Prop := Claim7.holds Tryd.pinned (.plain (OpenSpec.ofChange postAnnouncesSpec)) postAnnouncesCard

/-- THE TIED CARD OF 'basculelaw22.PostNames'. -/
def postNamesCard : Claim7 := { stood := { row := postNamesRow, standIns := [], harness := (true, "0e4ef632b192abd77c44a06c5f14d2200f1cc9fec8b70006eb32af9eb9a8400f"), looks := false }, kinds := [], alts := [], laidByText := true, laidKinds := [.data, .data, .data], laidTests := true, laidLooks := .later }
def PostNamesCardSaid : Prop := Claim7.holds Tryd.pinned (.plain (OpenSpec.ofChange postNamesSpec)) postNamesCard

/-- THE TIED CARD OF 'basculelaw22.PostBack'. -/
def postBackCard : Claim7 := { stood := { row := postBackRow, standIns := [], harness := (true, "0e4ef632b192abd77c44a06c5f14d2200f1cc9fec8b70006eb32af9eb9a8400f"), looks := false }, kinds := [], alts := [], laidByText := true, laidKinds := [.data, .data, .data], laidTests := true, laidLooks := .later }
def PostBackCardSaid : Prop := Claim7.holds Tryd.pinned (.plain (OpenSpec.ofChange postBackSpec)) postBackCard

/-- THE TIED CARD OF 'basculelaw22.PostPends'. -/
def postPendsCard : Claim7 := { stood := { row := postPendsRow, standIns := [], harness := (true, "0e4ef632b192abd77c44a06c5f14d2200f1cc9fec8b70006eb32af9eb9a8400f"), looks := false }, kinds := [], alts := [], laidByText := true, laidKinds := [.data, .data, .data], laidTests := true, laidLooks := .later }
def PostPendsCardSaid : Prop := Claim7.holds Tryd.pinned (.plain (OpenSpec.ofChange postPendsSpec)) postPendsCard

/-- THE TIED CARD OF 'basculelaw21.SignEnds'. -/
def signEndsCard : Claim7 := { stood := { row := signEndsRow, standIns := [], harness := (true, "0e4ef632b192abd77c44a06c5f14d2200f1cc9fec8b70006eb32af9eb9a8400f"), looks := false }, kinds := [], alts := [], laidByText := true, laidKinds := [.data], laidTests := true, laidLooks := .later }
def SignEndsCardSaid : Prop := Claim7.holds Tryd.pinned (.plain (OpenSpec.ofChange signEndsSpec)) signEndsCard

/-- THE TIED CARD OF 'basculelaw21.SignLeaves'. -/
def signLeavesCard : Claim7 := { stood := { row := signLeavesRow, standIns := [], harness := (true, "0e4ef632b192abd77c44a06c5f14d2200f1cc9fec8b70006eb32af9eb9a8400f"), looks := false }, kinds := [], alts := [], laidByText := true, laidKinds := [.data], laidTests := true, laidLooks := .later }
def SignLeavesCardSaid : Prop := Claim7.holds Tryd.pinned (.plain (OpenSpec.ofChange signLeavesSpec)) signLeavesCard

/-- THE SECOND FORM's CARD OF 'basculelaw22.PostAnnounces'. -/
def postAnnouncesUptoCard : Claim7 := { stood := { row := postAnnouncesUptoRow, standIns := [], harness := (true, "0e4ef632b192abd77c44a06c5f14d2200f1cc9fec8b70006eb32af9eb9a8400f"), looks := false }, kinds := [], alts := [], laidByText := true, laidKinds := [.data, .data, .data], laidTests := true, laidLooks := .later }
def PostAnnouncesUptoCardSaid : Prop := Claim7.holds Tryd.pinned (.plain (OpenSpec.upto postAnnouncesSpec)) postAnnouncesUptoCard

/-- THE SECOND FORM's CARD OF 'basculelaw22.PostNames'. -/
def postNamesUptoCard : Claim7 := { stood := { row := postNamesUptoRow, standIns := [], harness := (true, "0e4ef632b192abd77c44a06c5f14d2200f1cc9fec8b70006eb32af9eb9a8400f"), looks := false }, kinds := [], alts := [], laidByText := true, laidKinds := [.data, .data, .data], laidTests := true, laidLooks := .later }
def PostNamesUptoCardSaid : Prop := Claim7.holds Tryd.pinned (.plain (OpenSpec.upto postNamesSpec)) postNamesUptoCard

/-- THE SECOND FORM's CARD OF 'basculelaw22.PostBack'. -/
def postBackUptoCard : Claim7 := { stood := { row := postBackUptoRow, standIns := [], harness := (true, "0e4ef632b192abd77c44a06c5f14d2200f1cc9fec8b70006eb32af9eb9a8400f"), looks := false }, kinds := [], alts := [], laidByText := true, laidKinds := [.data, .data, .data], laidTests := true, laidLooks := .later }
def PostBackUptoCardSaid : Prop := Claim7.holds Tryd.pinned (.plain (OpenSpec.upto postBackSpec)) postBackUptoCard

/-- THE SECOND FORM's CARD OF 'basculelaw22.PostPends'. -/
def postPendsUptoCard : Claim7 := { stood := { row := postPendsUptoRow, standIns := [], harness := (true, "0e4ef632b192abd77c44a06c5f14d2200f1cc9fec8b70006eb32af9eb9a8400f"), looks := false }, kinds := [], alts := [], laidByText := true, laidKinds := [.data, .data, .data], laidTests := true, laidLooks := .later }
def PostPendsUptoCardSaid : Prop := Claim7.holds Tryd.pinned (.plain (OpenSpec.upto postPendsSpec)) postPendsUptoCard

/-- THE SECOND FORM's CARD OF 'basculelaw21.SignEnds'. -/
def signEndsUptoCard : Claim7 := { stood := { row := signEndsUptoRow, standIns := [], harness := (true, "0e4ef632b192abd77c44a06c5f14d2200f1cc9fec8b70006eb32af9eb9a8400f"), looks := false }, kinds := [], alts := [], laidByText := true, laidKinds := [.data], laidTests := true, laidLooks := .later }
def SignEndsUptoCardSaid : Prop := Claim7.holds Tryd.pinned (.plain (OpenSpec.upto signEndsSpec)) signEndsUptoCard

/-- THE SECOND FORM's CARD OF 'basculelaw21.SignLeaves'. -/
def signLeavesUptoCard : Claim7 := { stood := { row := signLeavesUptoRow, standIns := [], harness := (true, "0e4ef632b192abd77c44a06c5f14d2200f1cc9fec8b70006eb32af9eb9a8400f"), looks := false }, kinds := [], alts := [], laidByText := true, laidKinds := [.data], laidTests := true, laidLooks := .later }
def SignLeavesUptoCardSaid : Prop := Claim7.holds Tryd.pinned (.plain (OpenSpec.upto signLeavesSpec)) signLeavesUptoCard
end Rows
end Go.Proofs.YtecjbgddjejjdaaDoor
