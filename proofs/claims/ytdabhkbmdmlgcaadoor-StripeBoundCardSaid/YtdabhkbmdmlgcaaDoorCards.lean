/-
  DERIVED. GIVEN WITH THE SEED: THE CARDS: each row of YtdabhkbmdmlgcaaDoorRows.lean that lists a variable, with what it lists TIED to the program's text (the seventh form; the later family's looks); each row that meets fmt, with fmt's text TOLD by the authors' own Lean function (tested against real Go, not proved from fmt's source: count such statements apart). THE CARD IS WHAT COUNTS. Prove the row's statement (the work); the ties are given (YtdabhkbmdmlgcaaDoorTie.lean); close each card by the builder's one call (the guide's Derived/Test/ToyasCard.lean, 'card_holds'). Laid BY PROGRAM, IN A SANDBOX (cutbox-door.mjs). By AI agents, Wed Nov 11 2026. No macro, syntax, notation, axiom, sorry.
-/
import Derived.Test.YtdabhkbmdmlgcaaDoorRows
import GoSem.ClaimSeven
namespace Go.Proofs.YtdabhkbmdmlgcaaDoor
namespace Rows

/-- THE TIED CARD OF 'basculelaw19.MarkDoes'. -/
def markDoesCard : Claim7 := { stood := { row := markDoesRow, standIns := [], harness := (true, "3af656befa5c812bdf3f01d2069ab3b2cb768b9d1ba65d4a890f59c1f2c8e0ee"), looks := false }, kinds := [], alts := [], laidByText := true, laidKinds := [.data], laidTests := true, laidLooks := .later }
def MarkDoesCardSaid : Prop := Claim7.holds Tryd.pinned (.plain (OpenSpec.ofChange markDoesSpec)) markDoesCard

/-- THE TIED CARD OF 'basculelaw19.MarkLooks'. -/
def markLooksCard : Claim7 := { stood := { row := markLooksRow, standIns := [], harness := (true, "3af656befa5c812bdf3f01d2069ab3b2cb768b9d1ba65d4a890f59c1f2c8e0ee"), looks := false }, kinds := [], alts := [], laidByText := true, laidKinds := [.data], laidTests := true, laidLooks := .later }
def MarkLooksCardSaid : Prop := Claim7.holds Tryd.pinned (.plain (OpenSpec.ofChange markLooksSpec)) markLooksCard

/-- THE TIED CARD OF 'basculelaw19.MarkNames'. -/
def markNamesCard : Claim7 := { stood := { row := markNamesRow, standIns := [], harness := (true, "3af656befa5c812bdf3f01d2069ab3b2cb768b9d1ba65d4a890f59c1f2c8e0ee"), looks := false }, kinds := [], alts := [], laidByText := true, laidKinds := [.data], laidTests := true, laidLooks := .later }
def MarkNamesCardSaid : Prop := Claim7.holds Tryd.pinned (.plain (OpenSpec.ofChange markNamesSpec)) markNamesCard

/-- THE TIED CARD OF 'basculelaw20.StripeDoes'. -/
def stripeDoesCard : Claim7 := { stood := { row := stripeDoesRow, standIns := [], harness := (true, "3af656befa5c812bdf3f01d2069ab3b2cb768b9d1ba65d4a890f59c1f2c8e0ee"), looks := false }, kinds := [], alts := [], laidByText := true, laidKinds := [.data], laidTests := true, laidLooks := .later }
def StripeDoesCardSaid : Prop := Claim7.holds Tryd.pinned (.plain (OpenSpec.ofChange stripeDoesSpec)) stripeDoesCard

/-- THE TIED CARD OF 'basculelaw20.StripeLooks'. -/
def stripeLooksCard : Claim7 := { stood := { row := stripeLooksRow, standIns := [], harness := (true, "3af656befa5c812bdf3f01d2069ab3b2cb768b9d1ba65d4a890f59c1f2c8e0ee"), looks := false }, kinds := [], alts := [], laidByText := true, laidKinds := [.data], laidTests := true, laidLooks := .later }
def StripeLooksCardSaid : Prop := Claim7.holds Tryd.pinned (.plain (OpenSpec.ofChange stripeLooksSpec)) stripeLooksCard

/-- THE TIED CARD OF 'basculelaw20.StripeNames'. -/
def stripeNamesCard : Claim7 := { stood := { row := stripeNamesRow, standIns := [], harness := (true, "3af656befa5c812bdf3f01d2069ab3b2cb768b9d1ba65d4a890f59c1f2c8e0ee"), looks := false }, kinds := [], alts := [], laidByText := true, laidKinds := [.data], laidTests := true, laidLooks := .later }
def StripeNamesCardSaid : Prop := Claim7.holds Tryd.pinned (.plain (OpenSpec.ofChange stripeNamesSpec)) stripeNamesCard

/-- THE TIED CARD OF 'basculelaw20.StripeApart'. -/
def stripeApartCard : Claim7 := { stood := { row := stripeApartRow, standIns := [], harness := (true, "3af656befa5c812bdf3f01d2069ab3b2cb768b9d1ba65d4a890f59c1f2c8e0ee"), looks := false }, kinds := [], alts := [], laidByText := true, laidKinds := [.data], laidTests := true, laidLooks := .later }
def StripeApartCardSaid : Prop := Claim7.holds Tryd.pinned (.plain (OpenSpec.ofChange stripeApartSpec)) stripeApartCard

/-- THE TIED CARD OF 'basculelaw19.MarkDrains'. -/
def markDrainsCard : Claim7 := { stood := { row := markDrainsRow, standIns := [], harness := (true, "3af656befa5c812bdf3f01d2069ab3b2cb768b9d1ba65d4a890f59c1f2c8e0ee"), looks := false }, kinds := [], alts := [], laidByText := true, laidKinds := [.data], laidTests := true, laidLooks := .later }
def MarkDrainsCardSaid : Prop := Claim7.holds Tryd.pinned (.plain (OpenSpec.ofChange markDrainsSpec)) markDrainsCard

/-- THE TIED CARD OF 'basculelaw19.MarkApart'. -/
def markApartCard : Claim7 := { stood := { row := markApartRow, standIns := [], harness := (true, "3af656befa5c812bdf3f01d2069ab3b2cb768b9d1ba65d4a890f59c1f2c8e0ee"), looks := false }, kinds := [], alts := [], laidByText := true, laidKinds := [.data], laidTests := true, laidLooks := .later }
def MarkApartCardSaid : Prop := Claim7.holds Tryd.pinned (.plain (OpenSpec.ofChange markApartSpec)) markApartCard

/-- THE TIED CARD OF 'basculelaw20.StripeDrains'. -/
def stripeDrainsCard : Claim7 := { stood := { row := stripeDrainsRow, standIns := [], harness := (true, "3af656befa5c812bdf3f01d2069ab3b2cb768b9d1ba65d4a890f59c1f2c8e0ee"), looks := false }, kinds := [], alts := [], laidByText := true, laidKinds := [.data], laidTests := true, laidLooks := .later }
def StripeDrainsCardSaid : Prop := Claim7.holds Tryd.pinned (.plain (OpenSpec.ofChange stripeDrainsSpec)) stripeDrainsCard

/-- THE TIED CARD OF 'basculelaw20.StripeBound'. -/
def stripeBoundCard : Claim7 := { stood := { row := stripeBoundRow, standIns := [], harness := (true, "3af656befa5c812bdf3f01d2069ab3b2cb768b9d1ba65d4a890f59c1f2c8e0ee"), looks := false }, kinds := [], alts := [], laidByText := true, laidKinds := [.data], laidTests := true, laidLooks := .later }
def StripeBoundCardSaid : Prop := Claim7.holds Tryd.pinned (.plain (OpenSpec.ofChange stripeBoundSpec)) stripeBoundCard

/-- THE SECOND FORM's CARD OF 'basculelaw19.MarkDoes'. -/
def markDoesUptoCard : Claim7 := { stood := { row := markDoesUptoRow, standIns := [], harness := (true, "3af656befa5c812bdf3f01d2069ab3b2cb768b9d1ba65d4a890f59c1f2c8e0ee"), looks := false }, kinds := [], alts := [], laidByText := true, laidKinds := [.data], laidTests := true, laidLooks := .later }
def MarkDoesUptoCardSaid : Prop := Claim7.holds Tryd.pinned (.plain (OpenSpec.upto markDoesSpec)) markDoesUptoCard

/-- THE SECOND FORM's CARD OF 'basculelaw19.MarkLooks'. -/
def markLooksUptoCard : Claim7 := { stood := { row := markLooksUptoRow, standIns := [], harness := (true, "3af656befa5c812bdf3f01d2069ab3b2cb768b9d1ba65d4a890f59c1f2c8e0ee"), looks := false }, kinds := [], alts := [], laidByText := true, laidKinds := [.data], laidTests := true, laidLooks := .later }
def MarkLooksUptoCardSaid : Prop := Claim7.holds Tryd.pinned (.plain (OpenSpec.upto markLooksSpec)) markLooksUptoCard

/-- THE SECOND FORM's CARD OF 'basculelaw19.MarkNames'. -/
def markNamesUptoCard : Claim7 := { stood := { row := markNamesUptoRow, standIns := [], harness := (true, "3af656befa5c812bdf3f01d2069ab3b2cb768b9d1ba65d4a890f59c1f2c8e0ee"), looks := false }, kinds := [], alts := [], laidByText := true, laidKinds := [.data], laidTests := true, laidLooks := .later }
def MarkNamesUptoCardSaid : Prop := Claim7.holds Tryd.pinned (.plain (OpenSpec.upto markNamesSpec)) markNamesUptoCard

/-- THE SECOND FORM's CARD OF 'basculelaw20.StripeDoes'. -/
def stripeDoesUptoCard : Claim7 := { stood := { row := stripeDoesUptoRow, standIns := [], harness := (true, "3af656befa5c812bdf3f01d2069ab3b2cb768b9d1ba65d4a890f59c1f2c8e0ee"), looks := false }, kinds := [], alts := [], laidByText := true, laidKinds := [.data], laidTests := true, laidLooks := .later }
def StripeDoesUptoCardSaid : Prop := Claim7.holds Tryd.pinned (.plain (OpenSpec.upto stripeDoesSpec)) stripeDoesUptoCard

/-- THE SECOND FORM's CARD OF 'basculelaw20.StripeLooks'. -/
def stripeLooksUptoCard : Claim7 := { stood := { row := stripeLooksUptoRow, standIns := [], harness := (true, "3af656befa5c812bdf3f01d2069ab3b2cb768b9d1ba65d4a890f59c1f2c8e0ee"), looks := false }, kinds := [], alts := [], laidByText := true, laidKinds := [.data], laidTests := true, laidLooks := .later }
def StripeLooksUptoCardSaid : Prop := Claim7.holds Tryd.pinned (.plain (OpenSpec.upto stripeLooksSpec)) stripeLooksUptoCard

/-- THE SECOND FORM's CARD OF 'basculelaw20.StripeNames'. -/
def stripeNamesUptoCard : Claim7 := { stood := { row := stripeNamesUptoRow, standIns := [], harness := (true, "3af656befa5c812bdf3f01d2069ab3b2cb768b9d1ba65d4a890f59c1f2c8e0ee"), looks := false }, kinds := [], alts := [], laidByText := true, laidKinds := [.data], laidTests := true, laidLooks := .later }
def StripeNamesUptoCardSaid : Prop := Claim7.holds Tryd.pinned (.plain (OpenSpec.upto stripeNamesSpec)) stripeNamesUptoCard

/-- THE SECOND FORM's CARD OF 'basculelaw20.StripeApart'. -/
def stripeApartUptoCard : Claim7 := { stood := { row := stripeApartUptoRow, standIns := [], harness := (true, "3af656befa5c812bdf3f01d2069ab3b2cb768b9d1ba65d4a890f59c1f2c8e0ee"), looks := false }, kinds := [], alts := [], laidByText := true, laidKinds := [.data], laidTests := true, laidLooks := .later }
def StripeApartUptoCardSaid : Prop := Claim7.holds Tryd.pinned (.plain (OpenSpec.upto stripeApartSpec)) stripeApartUptoCard

/-- THE SECOND FORM's CARD OF 'basculelaw19.MarkDrains'. -/
def markDrainsUptoCard : Claim7 := { stood := { row := markDrainsUptoRow, standIns := [], harness := (true, "3af656befa5c812bdf3f01d2069ab3b2cb768b9d1ba65d4a890f59c1f2c8e0ee"), looks := false }, kinds := [], alts := [], laidByText := true, laidKinds := [.data], laidTests := true, laidLooks := .later }
def MarkDrainsUptoCardSaid : Prop := Claim7.holds Tryd.pinned (.plain (OpenSpec.upto markDrainsSpec)) markDrainsUptoCard

/-- THE SECOND FORM's CARD OF 'basculelaw19.MarkApart'. -/
def markApartUptoCard : Claim7 := { stood := { row := markApartUptoRow, standIns := [], harness := (true, "3af656befa5c812bdf3f01d2069ab3b2cb768b9d1ba65d4a890f59c1f2c8e0ee"), looks := false }, kinds := [], alts := [], laidByText := true, laidKinds := [.data], laidTests := true, laidLooks := .later }
def MarkApartUptoCardSaid : Prop := Claim7.holds Tryd.pinned (.plain (OpenSpec.upto markApartSpec)) markApartUptoCard

/-- THE SECOND FORM's CARD OF 'basculelaw20.StripeDrains'. -/
def stripeDrainsUptoCard : Claim7 := { stood := { row := stripeDrainsUptoRow, standIns := [], harness := (true, "3af656befa5c812bdf3f01d2069ab3b2cb768b9d1ba65d4a890f59c1f2c8e0ee"), looks := false }, kinds := [], alts := [], laidByText := true, laidKinds := [.data], laidTests := true, laidLooks := .later }
def StripeDrainsUptoCardSaid : Prop := Claim7.holds Tryd.pinned (.plain (OpenSpec.upto stripeDrainsSpec)) stripeDrainsUptoCard

/-- THE SECOND FORM's CARD OF 'basculelaw20.StripeBound'. -/
def stripeBoundUptoCard : Claim7 := { stood := { row := stripeBoundUptoRow, standIns := [], harness := (true, "3af656befa5c812bdf3f01d2069ab3b2cb768b9d1ba65d4a890f59c1f2c8e0ee"), looks := false }, kinds := [], alts := [], laidByText := true, laidKinds := [.data], laidTests := true, laidLooks := .later }
def StripeBoundUptoCardSaid : Prop := Claim7.holds Tryd.pinned (.plain (OpenSpec.upto stripeBoundSpec)) stripeBoundUptoCard
end Rows
end Go.Proofs.YtdabhkbmdmlgcaaDoor
