/-
  NARROWER THAN 'FOR EVERY INPUT', by the rows' own cells (each row's printed sentence says how): MarkDoes: laid · MarkLooks: laid · MarkNames: laid · StripeDoes: laid · StripeLooks: laid · StripeNames: laid · StripeApart: laid · MarkDrains: laid · MarkApart: laid · StripeDrains: laid · StripeBound: laid.
  DERIVED. THE GIVEN ROWS OF THIS SEAT. 11 by the template 'for every input the law returns true; each argument reads behind the call as it read before'; 0 by the template 'total and deterministic' (their statements: YtdabhkbmdmlgcaaDoorTotals.lean).
  GIVEN WITH THE SEED: the statements are not yours to turn. If you find one false, say at which input.
  Laid BY PROGRAM, IN A SANDBOX (cutbox-rows.mjs): the forced cells as the released guide's own fill.sh prints them over the translation e389364e6e92f34e… (all of the seat's roots in one cut). By AI agents, Wed Nov 11 2026. No macro, syntax, notation, axiom, sorry.
-/
import Derived.Test.YtdabhkbmdmlgcaaDoorChecked
import GoSem.Claim
import GoSem.ClaimJoined
import GoSem.ClaimMapViews
import Derived.JoinedTies
import Derived.KernelRfl
namespace Go.Proofs.YtdabhkbmdmlgcaaDoor
/- THE CELL 'sum', in the pinned program and in every row, IS THE sha256 OF THE DUMP (.gsa) THAT YtdabhkbmdmlgcaaDoorProg.lean LOADS. Nothing in Lean hashes anything: it is a label: what it is worth is what the hold of that sum in a sandbox is worth. -/
noncomputable def Tryd.pinned : Pinned := { name := "ytdabhkbmdmlgcaadoor", sum := "e389364e6e92f34ef36faebf9ed37307abeff69894acaa3d6983d6c8f40dccda", checked := Tryd.checked }
namespace Rows
def none {H : Type} : Left H := { results := [], args := [] }

/- WHAT THE LISTED PACKAGE-LEVEL VARIABLES READ AS WHEN THE CALL BEGINS. Each datum BY PROGRAM (the guide's laid-datum.mjs) off the statement by which the dump's own 'gosem.cut.vars' lays the variable. In a bare row this is a premise. The card (YtdabhkbmdmlgcaaDoorCards.lean) ties it to the program's text. -/
def laid_bascule_rank_powers {H : Type} : DataW H := .agg [.agg [.lit (.int .i64 1), .lit (.int .i64 2), .lit (.int .i64 4), .lit (.int .i64 8), .lit (.int .i64 16)], .agg [.lit (.int .i64 1), .lit (.int .i64 3), .lit (.int .i64 9), .lit (.int .i64 27), .lit (.int .i64 81)], .agg [.lit (.int .i64 1), .lit (.int .i64 4), .lit (.int .i64 16), .lit (.int .i64 64), .lit (.int .i64 256)]]

/-- 'basculelaw19.MarkDoes': WHATEVER THE INPUT: true; the input reads as it did. -/
def markDoesSpec : ChangeSpec := { name := "markDoes", fn := fun _ => fun
  | [d1, d2, d3] => { results := [.lit (.bool true)], args := [d1, d2, d3] }
  | _ => none }
def markDoesRow : OpenClaim := { program := "ytdabhkbmdmlgcaadoor", sum := "e389364e6e92f34ef36faebf9ed37307abeff69894acaa3d6983d6c8f40dccda", func := "bascule/basculelaw19.MarkDoes", spec := "markDoes", unfollowed := true, recurses := true, named := ["bascule/rank.powers"], apart := false, laid := [("bascule/rank.powers", laid_bascule_rank_powers)] }
def MarkDoesSaid : Prop := markDoesRow.holds Tryd.pinned (OpenSpec.ofChange markDoesSpec)

/-- ITS FALSE NEIGHBOUR: 'it returns false'. Refute it at one input. -/
def markDoesWrong : ChangeSpec := { name := "markDoes", fn := fun _ => fun
  | [d1, d2, d3] => { results := [.lit (.bool false)], args := [d1, d2, d3] }
  | _ => none }
def MarkDoesWrongFalsely : Prop := markDoesRow.holds Tryd.pinned (OpenSpec.ofChange markDoesWrong)

/-- 'basculelaw19.MarkLooks': WHATEVER THE INPUT: true; the input reads as it did. -/
def markLooksSpec : ChangeSpec := { name := "markLooks", fn := fun _ => fun
  | [d1, d2, d3, d4] => { results := [.lit (.bool true)], args := [d1, d2, d3, d4] }
  | _ => none }
def markLooksRow : OpenClaim := { program := "ytdabhkbmdmlgcaadoor", sum := "e389364e6e92f34ef36faebf9ed37307abeff69894acaa3d6983d6c8f40dccda", func := "bascule/basculelaw19.MarkLooks", spec := "markLooks", unfollowed := true, recurses := true, named := ["bascule/rank.powers"], apart := false, laid := [("bascule/rank.powers", laid_bascule_rank_powers)] }
def MarkLooksSaid : Prop := markLooksRow.holds Tryd.pinned (OpenSpec.ofChange markLooksSpec)

/-- ITS FALSE NEIGHBOUR: 'it returns false'. Refute it at one input. -/
def markLooksWrong : ChangeSpec := { name := "markLooks", fn := fun _ => fun
  | [d1, d2, d3, d4] => { results := [.lit (.bool false)], args := [d1, d2, d3, d4] }
  | _ => none }
def MarkLooksWrongFalsely : Prop := markLooksRow.holds Tryd.pinned (OpenSpec.ofChange markLooksWrong)

/-- 'basculelaw19.MarkNames': WHATEVER THE INPUT: true; the input reads as it did. -/
def markNamesSpec : ChangeSpec := { name := "markNames", fn := fun _ => fun
  | [] => { results := [.lit (.bool true)], args := [] }
  | _ => none }
def markNamesRow : OpenClaim := { program := "ytdabhkbmdmlgcaadoor", sum := "e389364e6e92f34ef36faebf9ed37307abeff69894acaa3d6983d6c8f40dccda", func := "bascule/basculelaw19.MarkNames", spec := "markNames", unfollowed := true, recurses := true, named := ["bascule/rank.powers"], apart := false, laid := [("bascule/rank.powers", laid_bascule_rank_powers)] }
def MarkNamesSaid : Prop := markNamesRow.holds Tryd.pinned (OpenSpec.ofChange markNamesSpec)

/-- ITS FALSE NEIGHBOUR: 'it returns false'. Refute it at one input. -/
def markNamesWrong : ChangeSpec := { name := "markNames", fn := fun _ => fun
  | [] => { results := [.lit (.bool false)], args := [] }
  | _ => none }
def MarkNamesWrongFalsely : Prop := markNamesRow.holds Tryd.pinned (OpenSpec.ofChange markNamesWrong)

/-- 'basculelaw20.StripeDoes': WHATEVER THE INPUT: true; the input reads as it did. -/
def stripeDoesSpec : ChangeSpec := { name := "stripeDoes", fn := fun _ => fun
  | [d1, d2, d3, d4] => { results := [.lit (.bool true)], args := [d1, d2, d3, d4] }
  | _ => none }
def stripeDoesRow : OpenClaim := { program := "ytdabhkbmdmlgcaadoor", sum := "e389364e6e92f34ef36faebf9ed37307abeff69894acaa3d6983d6c8f40dccda", func := "bascule/basculelaw20.StripeDoes", spec := "stripeDoes", unfollowed := true, recurses := true, named := ["bascule/rank.powers"], apart := false, laid := [("bascule/rank.powers", laid_bascule_rank_powers)] }
def StripeDoesSaid : Prop := stripeDoesRow.holds Tryd.pinned (OpenSpec.ofChange stripeDoesSpec)

/-- ITS FALSE NEIGHBOUR: 'it returns false'. Refute it at one input. -/
def stripeDoesWrong : ChangeSpec := { name := "stripeDoes", fn := fun _ => fun
  | [d1, d2, d3, d4] => { results := [.lit (.bool false)], args := [d1, d2, d3, d4] }
  | _ => none }
def StripeDoesWrongFalsely : Prop := stripeDoesRow.holds Tryd.pinned (OpenSpec.ofChange stripeDoesWrong)

/-- 'basculelaw20.StripeLooks': WHATEVER THE INPUT: true; the input reads as it did. -/
def stripeLooksSpec : ChangeSpec := { name := "stripeLooks", fn := fun _ => fun
  | [d1, d2, d3, d4] => { results := [.lit (.bool true)], args := [d1, d2, d3, d4] }
  | _ => none }
def stripeLooksRow : OpenClaim := { program := "ytdabhkbmdmlgcaadoor", sum := "e389364e6e92f34ef36faebf9ed37307abeff69894acaa3d6983d6c8f40dccda", func := "bascule/basculelaw20.StripeLooks", spec := "stripeLooks", unfollowed := true, recurses := true, named := ["bascule/rank.powers"], apart := false, laid := [("bascule/rank.powers", laid_bascule_rank_powers)] }
def StripeLooksSaid : Prop := stripeLooksRow.holds Tryd.pinned (OpenSpec.ofChange stripeLooksSpec)

/-- ITS FALSE NEIGHBOUR: 'it returns false'. Refute it at one input. -/
def stripeLooksWrong : ChangeSpec := { name := "stripeLooks", fn := fun _ => fun
  | [d1, d2, d3, d4] => { results := [.lit (.bool false)], args := [d1, d2, d3, d4] }
  | _ => none }
def StripeLooksWrongFalsely : Prop := stripeLooksRow.holds Tryd.pinned (OpenSpec.ofChange stripeLooksWrong)

/-- 'basculelaw20.StripeNames': WHATEVER THE INPUT: true; the input reads as it did. -/
def stripeNamesSpec : ChangeSpec := { name := "stripeNames", fn := fun _ => fun
  | [] => { results := [.lit (.bool true)], args := [] }
  | _ => none }
def stripeNamesRow : OpenClaim := { program := "ytdabhkbmdmlgcaadoor", sum := "e389364e6e92f34ef36faebf9ed37307abeff69894acaa3d6983d6c8f40dccda", func := "bascule/basculelaw20.StripeNames", spec := "stripeNames", unfollowed := true, recurses := true, named := ["bascule/rank.powers"], apart := false, laid := [("bascule/rank.powers", laid_bascule_rank_powers)] }
def StripeNamesSaid : Prop := stripeNamesRow.holds Tryd.pinned (OpenSpec.ofChange stripeNamesSpec)

/-- ITS FALSE NEIGHBOUR: 'it returns false'. Refute it at one input. -/
def stripeNamesWrong : ChangeSpec := { name := "stripeNames", fn := fun _ => fun
  | [] => { results := [.lit (.bool false)], args := [] }
  | _ => none }
def StripeNamesWrongFalsely : Prop := stripeNamesRow.holds Tryd.pinned (OpenSpec.ofChange stripeNamesWrong)

/-- 'basculelaw20.StripeApart': WHATEVER THE INPUT: true; the input reads as it did. -/
def stripeApartSpec : ChangeSpec := { name := "stripeApart", fn := fun _ => fun
  | [d1, d2, d3, d4] => { results := [.lit (.bool true)], args := [d1, d2, d3, d4] }
  | _ => none }
def stripeApartRow : OpenClaim := { program := "ytdabhkbmdmlgcaadoor", sum := "e389364e6e92f34ef36faebf9ed37307abeff69894acaa3d6983d6c8f40dccda", func := "bascule/basculelaw20.StripeApart", spec := "stripeApart", unfollowed := true, recurses := true, named := ["bascule/rank.powers"], apart := false, laid := [("bascule/rank.powers", laid_bascule_rank_powers)] }
def StripeApartSaid : Prop := stripeApartRow.holds Tryd.pinned (OpenSpec.ofChange stripeApartSpec)

/-- ITS FALSE NEIGHBOUR: 'it returns false'. Refute it at one input. -/
def stripeApartWrong : ChangeSpec := { name := "stripeApart", fn := fun _ => fun
  | [d1, d2, d3, d4] => { results := [.lit (.bool false)], args := [d1, d2, d3, d4] }
  | _ => none }
def StripeApartWrongFalsely : Prop := stripeApartRow.holds Tryd.pinned (OpenSpec.ofChange stripeApartWrong)

/-- 'basculelaw19.MarkDrains': WHATEVER THE INPUT: true; the input reads as it did. -/
def markDrainsSpec : ChangeSpec := { name := "markDrains", fn := fun _ => fun
  | [d1, d2, d3, d4] => { results := [.lit (.bool true)], args := [d1, d2, d3, d4] }
  | _ => none }
def markDrainsRow : OpenClaim := { program := "ytdabhkbmdmlgcaadoor", sum := "e389364e6e92f34ef36faebf9ed37307abeff69894acaa3d6983d6c8f40dccda", func := "bascule/basculelaw19.MarkDrains", spec := "markDrains", unfollowed := true, recurses := true, named := ["bascule/rank.powers"], apart := false, laid := [("bascule/rank.powers", laid_bascule_rank_powers)] }
def MarkDrainsSaid : Prop := markDrainsRow.holds Tryd.pinned (OpenSpec.ofChange markDrainsSpec)

/-- ITS FALSE NEIGHBOUR: 'it returns false'. Refute it at one input. -/
def markDrainsWrong : ChangeSpec := { name := "markDrains", fn := fun _ => fun
  | [d1, d2, d3, d4] => { results := [.lit (.bool false)], args := [d1, d2, d3, d4] }
  | _ => none }
def MarkDrainsWrongFalsely : Prop := markDrainsRow.holds Tryd.pinned (OpenSpec.ofChange markDrainsWrong)

/-- 'basculelaw19.MarkApart': WHATEVER THE INPUT: true; the input reads as it did. -/
def markApartSpec : ChangeSpec := { name := "markApart", fn := fun _ => fun
  | [d1, d2, d3, d4, d5] => { results := [.lit (.bool true)], args := [d1, d2, d3, d4, d5] }
  | _ => none }
def markApartRow : OpenClaim := { program := "ytdabhkbmdmlgcaadoor", sum := "e389364e6e92f34ef36faebf9ed37307abeff69894acaa3d6983d6c8f40dccda", func := "bascule/basculelaw19.MarkApart", spec := "markApart", unfollowed := true, recurses := true, named := ["bascule/rank.powers"], apart := false, laid := [("bascule/rank.powers", laid_bascule_rank_powers)] }
def MarkApartSaid : Prop := markApartRow.holds Tryd.pinned (OpenSpec.ofChange markApartSpec)

/-- ITS FALSE NEIGHBOUR: 'it returns false'. Refute it at one input. -/
def markApartWrong : ChangeSpec := { name := "markApart", fn := fun _ => fun
  | [d1, d2, d3, d4, d5] => { results := [.lit (.bool false)], args := [d1, d2, d3, d4, d5] }
  | _ => none }
def MarkApartWrongFalsely : Prop := markApartRow.holds Tryd.pinned (OpenSpec.ofChange markApartWrong)

/-- 'basculelaw20.StripeDrains': WHATEVER THE INPUT: true; the input reads as it did. -/
def stripeDrainsSpec : ChangeSpec := { name := "stripeDrains", fn := fun _ => fun
  | [d1, d2, d3, d4] => { results := [.lit (.bool true)], args := [d1, d2, d3, d4] }
  | _ => none }
def stripeDrainsRow : OpenClaim := { program := "ytdabhkbmdmlgcaadoor", sum := "e389364e6e92f34ef36faebf9ed37307abeff69894acaa3d6983d6c8f40dccda", func := "bascule/basculelaw20.StripeDrains", spec := "stripeDrains", unfollowed := true, recurses := true, named := ["bascule/rank.powers"], apart := false, laid := [("bascule/rank.powers", laid_bascule_rank_powers)] }
def StripeDrainsSaid : Prop := stripeDrainsRow.holds Tryd.pinned (OpenSpec.ofChange stripeDrainsSpec)

/-- ITS FALSE NEIGHBOUR: 'it returns false'. Refute it at one input. -/
def stripeDrainsWrong : ChangeSpec := { name := "stripeDrains", fn := fun _ => fun
  | [d1, d2, d3, d4] => { results := [.lit (.bool false)], args := [d1, d2, d3, d4] }
  | _ => none }
def StripeDrainsWrongFalsely : Prop := stripeDrainsRow.holds Tryd.pinned (OpenSpec.ofChange stripeDrainsWrong)

/-- 'basculelaw20.StripeBound': WHATEVER THE INPUT: true; the input reads as it did. -/
def stripeBoundSpec : ChangeSpec := { name := "stripeBound", fn := fun _ => fun
  | [d1, d2, d3] => { results := [.lit (.bool true)], args := [d1, d2, d3] }
  | _ => none }
def stripeBoundRow : OpenClaim := { program := "ytdabhkbmdmlgcaadoor", sum := "e389364e6e92f34ef36faebf9ed37307abeff69894acaa3d6983d6c8f40dccda", func := "bascule/basculelaw20.StripeBound", spec := "stripeBound", unfollowed := true, recurses := true, named := ["bascule/rank.powers"], apart := false, laid := [("bascule/rank.powers", laid_bascule_rank_powers)] }
def StripeBoundSaid : Prop := stripeBoundRow.holds Tryd.pinned (OpenSpec.ofChange stripeBoundSpec)

/-- ITS FALSE NEIGHBOUR: 'it returns false'. Refute it at one input. -/
def stripeBoundWrong : ChangeSpec := { name := "stripeBound", fn := fun _ => fun
  | [d1, d2, d3] => { results := [.lit (.bool false)], args := [d1, d2, d3] }
  | _ => none }
def StripeBoundWrongFalsely : Prop := stripeBoundRow.holds Tryd.pinned (OpenSpec.ofChange stripeBoundWrong)

/- THE SECOND FORM. 'bulk': how many values and letters a reading holds, each counted each time it is reached (what is shared counts as often as it is met; a slice's spare places count too). A statement '..UptoSaid' is the law's where the arguments, and the package variables that the reading takes, are together of bulk at most 1048576: NARROWER than '..Said'. Prove '..Said' where nothing that the law and all that it calls make is longer than what came in: it says more and counts as full. Else prove '..UptoSaid'. A law counts once. -/
mutual
def uptoBulk {H : Type} : DataW H → Nat
  | .lit (.string bytes) => bytes.length + 1
  | .lit _ => 1
  | .nil => 1
  | .ptr d => uptoBulk d + 1
  | .slice elems spare => uptoBulkAll elems + uptoBulkAll spare + 1
  | .agg parts => uptoBulkAll parts + 1
  | .iface _ d => uptoBulk d + 1
  | .map entries => uptoBulkEntries entries + 1
  | .held _ => 1
def uptoBulkAll {H : Type} : List (DataW H) → Nat
  | [] => 0
  | d :: r => uptoBulk d + uptoBulkAll r
def uptoBulkEntries {H : Type} : List (Lit × DataW H) → Nat
  | [] => 0
  | x :: r => uptoBulkEntry x + uptoBulkEntries r
def uptoBulkEntry {H : Type} : Lit × DataW H → Nat
  | (.string bytes, d) => bytes.length + uptoBulk d + 1
  | (_, d) => uptoBulk d + 1
 end
def uptoSmall : (H : Type) → List (DataW H) → Bool := fun _ ds => decide (uptoBulkAll ds ≤ 1048576)
def OpenSpec.upto (s : _root_.Go.ChangeSpec) : _root_.Go.OpenSpec := { _root_.Go.OpenSpec.ofChange s with cond := some uptoSmall }

/-- 'basculelaw19.MarkDoes', WHERE WHAT IT READS IS OF BULK AT MOST 1048576: true; the input reads as it did. -/
def markDoesUptoRow : OpenClaim := { program := "ytdabhkbmdmlgcaadoor", sum := "e389364e6e92f34ef36faebf9ed37307abeff69894acaa3d6983d6c8f40dccda", func := "bascule/basculelaw19.MarkDoes", spec := "markDoes", unfollowed := true, recurses := true, named := ["bascule/rank.powers"], apart := false, laid := [("bascule/rank.powers", laid_bascule_rank_powers)], narrowed := true }
def MarkDoesUptoSaid : Prop := markDoesUptoRow.holds Tryd.pinned (OpenSpec.upto markDoesSpec)

/-- 'basculelaw19.MarkLooks', WHERE WHAT IT READS IS OF BULK AT MOST 1048576: true; the input reads as it did. -/
def markLooksUptoRow : OpenClaim := { program := "ytdabhkbmdmlgcaadoor", sum := "e389364e6e92f34ef36faebf9ed37307abeff69894acaa3d6983d6c8f40dccda", func := "bascule/basculelaw19.MarkLooks", spec := "markLooks", unfollowed := true, recurses := true, named := ["bascule/rank.powers"], apart := false, laid := [("bascule/rank.powers", laid_bascule_rank_powers)], narrowed := true }
def MarkLooksUptoSaid : Prop := markLooksUptoRow.holds Tryd.pinned (OpenSpec.upto markLooksSpec)

/-- 'basculelaw19.MarkNames', WHERE WHAT IT READS IS OF BULK AT MOST 1048576: true; the input reads as it did. -/
def markNamesUptoRow : OpenClaim := { program := "ytdabhkbmdmlgcaadoor", sum := "e389364e6e92f34ef36faebf9ed37307abeff69894acaa3d6983d6c8f40dccda", func := "bascule/basculelaw19.MarkNames", spec := "markNames", unfollowed := true, recurses := true, named := ["bascule/rank.powers"], apart := false, laid := [("bascule/rank.powers", laid_bascule_rank_powers)], narrowed := true }
def MarkNamesUptoSaid : Prop := markNamesUptoRow.holds Tryd.pinned (OpenSpec.upto markNamesSpec)

/-- 'basculelaw20.StripeDoes', WHERE WHAT IT READS IS OF BULK AT MOST 1048576: true; the input reads as it did. -/
def stripeDoesUptoRow : OpenClaim := { program := "ytdabhkbmdmlgcaadoor", sum := "e389364e6e92f34ef36faebf9ed37307abeff69894acaa3d6983d6c8f40dccda", func := "bascule/basculelaw20.StripeDoes", spec := "stripeDoes", unfollowed := true, recurses := true, named := ["bascule/rank.powers"], apart := false, laid := [("bascule/rank.powers", laid_bascule_rank_powers)], narrowed := true }
def StripeDoesUptoSaid : Prop := stripeDoesUptoRow.holds Tryd.pinned (OpenSpec.upto stripeDoesSpec)

/-- 'basculelaw20.StripeLooks', WHERE WHAT IT READS IS OF BULK AT MOST 1048576: true; the input reads as it did. -/
def stripeLooksUptoRow : OpenClaim := { program := "ytdabhkbmdmlgcaadoor", sum := "e389364e6e92f34ef36faebf9ed37307abeff69894acaa3d6983d6c8f40dccda", func := "bascule/basculelaw20.StripeLooks", spec := "stripeLooks", unfollowed := true, recurses := true, named := ["bascule/rank.powers"], apart := false, laid := [("bascule/rank.powers", laid_bascule_rank_powers)], narrowed := true }
def StripeLooksUptoSaid : Prop := stripeLooksUptoRow.holds Tryd.pinned (OpenSpec.upto stripeLooksSpec)

/-- 'basculelaw20.StripeNames', WHERE WHAT IT READS IS OF BULK AT MOST 1048576: true; the input reads as it did. -/
def stripeNamesUptoRow : OpenClaim := { program := "ytdabhkbmdmlgcaadoor", sum := "e389364e6e92f34ef36faebf9ed37307abeff69894acaa3d6983d6c8f40dccda", func := "bascule/basculelaw20.StripeNames", spec := "stripeNames", unfollowed := true, recurses := true, named := ["bascule/rank.powers"], apart := false, laid := [("bascule/rank.powers", laid_bascule_rank_powers)], narrowed := true }
def StripeNamesUptoSaid : Prop := stripeNamesUptoRow.holds Tryd.pinned (OpenSpec.upto stripeNamesSpec)

/-- 'basculelaw20.StripeApart', WHERE WHAT IT READS IS OF BULK AT MOST 1048576: true; the input reads as it did. -/
def stripeApartUptoRow : OpenClaim := { program := "ytdabhkbmdmlgcaadoor", sum := "e389364e6e92f34ef36faebf9ed37307abeff69894acaa3d6983d6c8f40dccda", func := "bascule/basculelaw20.StripeApart", spec := "stripeApart", unfollowed := true, recurses := true, named := ["bascule/rank.powers"], apart := false, laid := [("bascule/rank.powers", laid_bascule_rank_powers)], narrowed := true }
def StripeApartUptoSaid : Prop := stripeApartUptoRow.holds Tryd.pinned (OpenSpec.upto stripeApartSpec)

/-- 'basculelaw19.MarkDrains', WHERE WHAT IT READS IS OF BULK AT MOST 1048576: true; the input reads as it did. -/
def markDrainsUptoRow : OpenClaim := { program := "ytdabhkbmdmlgcaadoor", sum := "e389364e6e92f34ef36faebf9ed37307abeff69894acaa3d6983d6c8f40dccda", func := "bascule/basculelaw19.MarkDrains", spec := "markDrains", unfollowed := true, recurses := true, named := ["bascule/rank.powers"], apart := false, laid := [("bascule/rank.powers", laid_bascule_rank_powers)], narrowed := true }
def MarkDrainsUptoSaid : Prop := markDrainsUptoRow.holds Tryd.pinned (OpenSpec.upto markDrainsSpec)

/-- 'basculelaw19.MarkApart', WHERE WHAT IT READS IS OF BULK AT MOST 1048576: true; the input reads as it did. -/
def markApartUptoRow : OpenClaim := { program := "ytdabhkbmdmlgcaadoor", sum := "e389364e6e92f34ef36faebf9ed37307abeff69894acaa3d6983d6c8f40dccda", func := "bascule/basculelaw19.MarkApart", spec := "markApart", unfollowed := true, recurses := true, named := ["bascule/rank.powers"], apart := false, laid := [("bascule/rank.powers", laid_bascule_rank_powers)], narrowed := true }
def MarkApartUptoSaid : Prop := markApartUptoRow.holds Tryd.pinned (OpenSpec.upto markApartSpec)

/-- 'basculelaw20.StripeDrains', WHERE WHAT IT READS IS OF BULK AT MOST 1048576: true; the input reads as it did. -/
def stripeDrainsUptoRow : OpenClaim := { program := "ytdabhkbmdmlgcaadoor", sum := "e389364e6e92f34ef36faebf9ed37307abeff69894acaa3d6983d6c8f40dccda", func := "bascule/basculelaw20.StripeDrains", spec := "stripeDrains", unfollowed := true, recurses := true, named := ["bascule/rank.powers"], apart := false, laid := [("bascule/rank.powers", laid_bascule_rank_powers)], narrowed := true }
def StripeDrainsUptoSaid : Prop := stripeDrainsUptoRow.holds Tryd.pinned (OpenSpec.upto stripeDrainsSpec)

/-- 'basculelaw20.StripeBound', WHERE WHAT IT READS IS OF BULK AT MOST 1048576: true; the input reads as it did. -/
def stripeBoundUptoRow : OpenClaim := { program := "ytdabhkbmdmlgcaadoor", sum := "e389364e6e92f34ef36faebf9ed37307abeff69894acaa3d6983d6c8f40dccda", func := "bascule/basculelaw20.StripeBound", spec := "stripeBound", unfollowed := true, recurses := true, named := ["bascule/rank.powers"], apart := false, laid := [("bascule/rank.powers", laid_bascule_rank_powers)], narrowed := true }
def StripeBoundUptoSaid : Prop := stripeBoundUptoRow.holds Tryd.pinned (OpenSpec.upto stripeBoundSpec)

end Rows
end Go.Proofs.YtdabhkbmdmlgcaaDoor
