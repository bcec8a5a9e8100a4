/-
  NARROWER THAN 'FOR EVERY INPUT', by the rows' own cells (each row's printed sentence says how): PostAnnounces: laid · PostNames: laid · PostBack: laid · PostPends: laid · SignEnds: laid · SignLeaves: laid.
  DERIVED. THE GIVEN ROWS OF THIS SEAT. 6 by the template 'for every input the law returns true; each argument reads behind the call as it read before'; 0 by the template 'total and deterministic' (their statements: YtecjbgddjejjdaaDoorTotals.lean).
  GIVEN WITH THE SEED: the statements are not yours to turn. If you find one false, say at which input.
  Laid BY PROGRAM, IN A SANDBOX (cutbox-rows.mjs): the forced cells as the released guide's own fill.sh prints them over the translation 0af3fa16a6c1b80b… (all of the seat's roots in one cut). By AI agents, Wed Nov 11 2026. No macro, syntax, notation, axiom, sorry.
-/
import Derived.Test.YtecjbgddjejjdaaDoorChecked
import GoSem.Claim
import GoSem.ClaimJoined
import GoSem.ClaimMapViews
import Derived.JoinedTies
import Derived.KernelRfl
namespace Go.Proofs.YtecjbgddjejjdaaDoor
/- THE CELL 'sum', in the pinned program and in every row, IS THE sha256 OF THE DUMP (.gsa) THAT YtecjbgddjejjdaaDoorProg.lean LOADS. Nothing in Lean hashes anything: it is a label: what it is worth is what the hold of that sum in a sandbox is worth. -/
noncomputable def Tryd.pinned : Pinned := { name := "ytecjbgddjejjdaadoor", sum := "0af3fa16a6c1b80b7fb736ba15161450ea3186c3e134e923ede3e100d042051f", checked := Tryd.checked }
namespace Rows
def none {H : Type} : Left H := { results := [], args := [] }

/- WHAT THE LISTED PACKAGE-LEVEL VARIABLES READ AS WHEN THE CALL BEGINS. Each datum BY PROGRAM (the guide's laid-datum.mjs) off the statement by which the dump's own 'gosem.cut.vars' lays the variable. In a bare row this is a premise. The card (YtecjbgddjejjdaaDoorCards.lean) ties it to the program's text. -/
def laid_bascule_rank_powers {H : Type} : DataW H := .agg [.agg [.lit (.int .i64 1), .lit (.int .i64 2), .lit (.int .i64 4), .lit (.int .i64 8), .lit (.int .i64 16)], .agg [.lit (.int .i64 1), .lit (.int .i64 3), .lit (.int .i64 9), .lit (.int .i64 27), .lit (.int .i64 81)], .agg [.lit (.int .i64 1), .lit (.int .i64 4), .lit (.int .i64 16), .lit (.int .i64 64), .lit (.int .i64 256)]]
def laid_bascule_op_objects {H : Type} : DataW H := .agg [.lit (.int .u8 0), .lit (.int .u8 1), .lit (.int .u8 1), .lit (.int .u8 1), .lit (.int .u8 2), .lit (.int .u8 2), .lit (.int .u8 2), .lit (.int .u8 2), .lit (.int .u8 2), .lit (.int .u8 3), .lit (.int .u8 3), .lit (.int .u8 3), .lit (.int .u8 4), .lit (.int .u8 4), .lit (.int .u8 4)]
def laid_bascule_op_writers {H : Type} : DataW H := .agg [.lit (.bool false), .lit (.bool true), .lit (.bool true), .lit (.bool false), .lit (.bool true), .lit (.bool true), .lit (.bool false), .lit (.bool false), .lit (.bool false), .lit (.bool true), .lit (.bool true), .lit (.bool false), .lit (.bool true), .lit (.bool true), .lit (.bool false)]

/-- 'basculelaw22.PostAnnounces': WHATEVER THE INPUT: true; the input reads as it did. -/
def postAnnouncesSpec : ChangeSpec := { name := "postAnnounces", fn := fun _ => fun
  | [d1, d2, d3, d4] => { results := [.lit (.bool true)], args := [d1, d2, d3, d4] }
  | _ => none }
def postAnnouncesRow : OpenClaim := { program := "ytecjbgddjejjdaadoor", sum := "0af3fa16a6c1b80b7fb736ba15161450ea3186c3e134e923ede3e100d042051f", func := "bascule/basculelaw22.PostAnnounces", spec := "postAnnounces", unfollowed := true, recurses := true, named := ["bascule/rank.powers", "bascule/op.objects", "bascule/op.writers"], apart := false, laid := [("bascule/rank.powers", laid_bascule_rank_powers), ("bascule/op.objects", laid_bascule_op_objects), ("bascule/op.writers", laid_bascule_op_writers)] }
def PostAnnouncesSaid : Prop := postAnnouncesRow.holds Tryd.pinned (OpenSpec.ofChange postAnnouncesSpec)

/-- ITS FALSE NEIGHBOUR: 'it returns false'. Refute it at one input. -/
def postAnnouncesWrong : ChangeSpec := { name := "postAnnounces", fn := fun _ => fun
  | [d1, d2, d3, d4] => { results := [.lit (.bool false)], args := [d1, d2, d3, d4] }
  | _ => none }
def PostAnnouncesWrongFalsely : Prop := postAnnouncesRow.holds Tryd.pinned (OpenSpec.ofChange postAnnouncesWrong)

/-- 'basculelaw22.PostNames': WHATEVER THE INPUT: true; the input reads as it did. -/
def postNamesSpec : ChangeSpec := { name := "postNames", fn := fun _ => fun
  | [] => { results := [.lit (.bool true)], args := [] }
  | _ => none }
def postNamesRow : OpenClaim := { program := "ytecjbgddjejjdaadoor", sum := "0af3fa16a6c1b80b7fb736ba15161450ea3186c3e134e923ede3e100d042051f", func := "bascule/basculelaw22.PostNames", spec := "postNames", unfollowed := true, recurses := true, named := ["bascule/rank.powers", "bascule/op.objects", "bascule/op.writers"], apart := false, laid := [("bascule/rank.powers", laid_bascule_rank_powers), ("bascule/op.objects", laid_bascule_op_objects), ("bascule/op.writers", laid_bascule_op_writers)] }
def PostNamesSaid : Prop := postNamesRow.holds Tryd.pinned (OpenSpec.ofChange postNamesSpec)

/-- ITS FALSE NEIGHBOUR: 'it returns false'. Refute it at one input. -/
def postNamesWrong : ChangeSpec := { name := "postNames", fn := fun _ => fun
  | [] => { results := [.lit (.bool false)], args := [] }
  | _ => none }
def PostNamesWrongFalsely : Prop := postNamesRow.holds Tryd.pinned (OpenSpec.ofChange postNamesWrong)

/-- 'basculelaw22.PostBack': WHATEVER THE INPUT: true; the input reads as it did. -/
def postBackSpec : ChangeSpec := { name := "postBack", fn := fun _ => fun
  | [d1, d2, d3, d4, d5] => { results := [.lit (.bool true)], args := [d1, d2, d3, d4, d5] }
  | _ => none }
def postBackRow : OpenClaim := { program := "ytecjbgddjejjdaadoor", sum := "0af3fa16a6c1b80b7fb736ba15161450ea3186c3e134e923ede3e100d042051f", func := "bascule/basculelaw22.PostBack", spec := "postBack", unfollowed := true, recurses := true, named := ["bascule/rank.powers", "bascule/op.objects", "bascule/op.writers"], apart := false, laid := [("bascule/rank.powers", laid_bascule_rank_powers), ("bascule/op.objects", laid_bascule_op_objects), ("bascule/op.writers", laid_bascule_op_writers)] }
def PostBackSaid : Prop := postBackRow.holds Tryd.pinned (OpenSpec.ofChange postBackSpec)

/-- ITS FALSE NEIGHBOUR: 'it returns false'. Refute it at one input. -/
def postBackWrong : ChangeSpec := { name := "postBack", fn := fun _ => fun
  | [d1, d2, d3, d4, d5] => { results := [.lit (.bool false)], args := [d1, d2, d3, d4, d5] }
  | _ => none }
def PostBackWrongFalsely : Prop := postBackRow.holds Tryd.pinned (OpenSpec.ofChange postBackWrong)

/-- 'basculelaw22.PostPends': WHATEVER THE INPUT: true; the input reads as it did. -/
def postPendsSpec : ChangeSpec := { name := "postPends", fn := fun _ => fun
  | [d1, d2, d3, d4] => { results := [.lit (.bool true)], args := [d1, d2, d3, d4] }
  | _ => none }
def postPendsRow : OpenClaim := { program := "ytecjbgddjejjdaadoor", sum := "0af3fa16a6c1b80b7fb736ba15161450ea3186c3e134e923ede3e100d042051f", func := "bascule/basculelaw22.PostPends", spec := "postPends", unfollowed := true, recurses := true, named := ["bascule/rank.powers", "bascule/op.objects", "bascule/op.writers"], apart := false, laid := [("bascule/rank.powers", laid_bascule_rank_powers), ("bascule/op.objects", laid_bascule_op_objects), ("bascule/op.writers", laid_bascule_op_writers)] }
def PostPendsSaid : Prop := postPendsRow.holds Tryd.pinned (OpenSpec.ofChange postPendsSpec)

/-- ITS FALSE NEIGHBOUR: 'it returns false'. Refute it at one input. -/
def postPendsWrong : ChangeSpec := { name := "postPends", fn := fun _ => fun
  | [d1, d2, d3, d4] => { results := [.lit (.bool false)], args := [d1, d2, d3, d4] }
  | _ => none }
def PostPendsWrongFalsely : Prop := postPendsRow.holds Tryd.pinned (OpenSpec.ofChange postPendsWrong)

/-- 'basculelaw21.SignEnds': WHATEVER THE INPUT: true; the input reads as it did. -/
def signEndsSpec : ChangeSpec := { name := "signEnds", fn := fun _ => fun
  | [d1, d2, d3, d4] => { results := [.lit (.bool true)], args := [d1, d2, d3, d4] }
  | _ => none }
def signEndsRow : OpenClaim := { program := "ytecjbgddjejjdaadoor", sum := "0af3fa16a6c1b80b7fb736ba15161450ea3186c3e134e923ede3e100d042051f", func := "bascule/basculelaw21.SignEnds", spec := "signEnds", unfollowed := true, recurses := true, named := ["bascule/rank.powers"], apart := false, laid := [("bascule/rank.powers", laid_bascule_rank_powers)] }
def SignEndsSaid : Prop := signEndsRow.holds Tryd.pinned (OpenSpec.ofChange signEndsSpec)

/-- ITS FALSE NEIGHBOUR: 'it returns false'. Refute it at one input. -/
def signEndsWrong : ChangeSpec := { name := "signEnds", fn := fun _ => fun
  | [d1, d2, d3, d4] => { results := [.lit (.bool false)], args := [d1, d2, d3, d4] }
  | _ => none }
def SignEndsWrongFalsely : Prop := signEndsRow.holds Tryd.pinned (OpenSpec.ofChange signEndsWrong)

/-- 'basculelaw21.SignLeaves': WHATEVER THE INPUT: true; the input reads as it did. -/
def signLeavesSpec : ChangeSpec := { name := "signLeaves", fn := fun _ => fun
  | [d1, d2, d3, d4] => { results := [.lit (.bool true)], args := [d1, d2, d3, d4] }
  | _ => none }
def signLeavesRow : OpenClaim := { program := "ytecjbgddjejjdaadoor", sum := "0af3fa16a6c1b80b7fb736ba15161450ea3186c3e134e923ede3e100d042051f", func := "bascule/basculelaw21.SignLeaves", spec := "signLeaves", unfollowed := true, recurses := true, named := ["bascule/rank.powers"], apart := false, laid := [("bascule/rank.powers", laid_bascule_rank_powers)] }
def SignLeavesSaid : Prop := signLeavesRow.holds Tryd.pinned (OpenSpec.ofChange signLeavesSpec)

/-- ITS FALSE NEIGHBOUR: 'it returns false'. Refute it at one input. -/
def signLeavesWrong : ChangeSpec := { name := "signLeaves", fn := fun _ => fun
  | [d1, d2, d3, d4] => { results := [.lit (.bool false)], args := [d1, d2, d3, d4] }
  | _ => none }
def SignLeavesWrongFalsely : Prop := signLeavesRow.holds Tryd.pinned (OpenSpec.ofChange signLeavesWrong)

/- THE SECOND FORM. 'bulk': how many values and letters a reading holds, each counted each time it is reached (what is shared counts as often as it is met; a slice's spare places count too). A statement '..UptoSaid' is the law's where the arguments, and the package variables that the reading takes, are together of bulk at most 1048576: NARROWER than '..Said'. Prove '..Said' where nothing that the law and all that it calls make is longer than what came in: it says more and counts as full. Else prove '..UptoSaid'. A law counts once. -/
mutual
def uptoBulk {H : Type} : DataW H → Nat
  | .lit (.string bytes) => bytes.length + 1
  | .lit _ => 1
  | .nil => 1
  | .ptr d => uptoBulk d + 1
  | .slice elems spare => uptoBulkAll elems + uptoBulkAll spare + 1
  | .agg parts => uptoBulkAll parts + 1
  | .iface _ d => uptoBulk d + 1
  | .map entries => uptoBulkEntries entries + 1
  | .held _ => 1
def uptoBulkAll {H : Type} : List (DataW H) → Nat
  | [] => 0
  | d :: r => uptoBulk d + uptoBulkAll r
def uptoBulkEntries {H : Type} : List (Lit × DataW H) → Nat
  | [] => 0
  | x :: r => uptoBulkEntry x + uptoBulkEntries r
def uptoBulkEntry {H : Type} : Lit × DataW H → Nat
  | (.string bytes, d) => bytes.length + uptoBulk d + 1
  | (_, d) => uptoBulk d + 1
 end
def uptoSmall : (H : Type) → List (DataW H) → Bool := fun _ ds => decide (uptoBulkAll ds ≤ 1048576)
def OpenSpec.upto (s : _root_.Go.ChangeSpec) : _root_.Go.OpenSpec := { _root_.Go.OpenSpec.ofChange s with cond := some uptoSmall }

/-- 'basculelaw22.PostAnnounces', WHERE WHAT IT READS IS OF BULK AT MOST 1048576: true; the input reads as it did. -/
def postAnnouncesUptoRow : OpenClaim := { program := "ytecjbgddjejjdaadoor", sum := "0af3fa16a6c1b80b7fb736ba15161450ea3186c3e134e923ede3e100d042051f", func := "bascule/basculelaw22.PostAnnounces", spec := "postAnnounces", unfollowed := true, recurses := true, named := ["bascule/rank.powers", "bascule/op.objects", "bascule/op.writers"], apart := false, laid := [("bascule/rank.powers", laid_bascule_rank_powers), ("bascule/op.objects", laid_bascule_op_objects), ("bascule/op.writers", laid_bascule_op_writers)], narrowed := true }
def PostAnnouncesUptoSaid : Prop := postAnnouncesUptoRow.holds Tryd.pinned (OpenSpec.upto postAnnouncesSpec)

/-- 'basculelaw22.PostNames', WHERE WHAT IT READS IS OF BULK AT MOST 1048576: true; the input reads as it did. -/
def postNamesUptoRow : OpenClaim := { program := "ytecjbgddjejjdaadoor", sum := "0af3fa16a6c1b80b7fb736ba15161450ea3186c3e134e923ede3e100d042051f", func := "bascule/basculelaw22.PostNames", spec := "postNames", unfollowed := true, recurses := true, named := ["bascule/rank.powers", "bascule/op.objects", "bascule/op.writers"], apart := false, laid := [("bascule/rank.powers", laid_bascule_rank_powers), ("bascule/op.objects", laid_bascule_op_objects), ("bascule/op.writers", laid_bascule_op_writers)], narrowed := true }
def PostNamesUptoSaid : Prop := postNamesUptoRow.holds Tryd.pinned (OpenSpec.upto postNamesSpec)

/-- 'basculelaw22.PostBack', WHERE WHAT IT READS IS OF BULK AT MOST 1048576: true; the input reads as it did. -/
def postBackUptoRow : OpenClaim := { program := "ytecjbgddjejjdaadoor", sum := "0af3fa16a6c1b80b7fb736ba15161450ea3186c3e134e923ede3e100d042051f", func := "bascule/basculelaw22.PostBack", spec := "postBack", unfollowed := true, recurses := true, named := ["bascule/rank.powers", "bascule/op.objects", "bascule/op.writers"], apart := false, laid := [("bascule/rank.powers", laid_bascule_rank_powers), ("bascule/op.objects", laid_bascule_op_objects), ("bascule/op.writers", laid_bascule_op_writers)], narrowed := true }
def PostBackUptoSaid : Prop := postBackUptoRow.holds Tryd.pinned (OpenSpec.upto postBackSpec)

/-- 'basculelaw22.PostPends', WHERE WHAT IT READS IS OF BULK AT MOST 1048576: true; the input reads as it did. -/
def postPendsUptoRow : OpenClaim := { program := "ytecjbgddjejjdaadoor", sum := "0af3fa16a6c1b80b7fb736ba15161450ea3186c3e134e923ede3e100d042051f", func := "bascule/basculelaw22.PostPends", spec := "postPends", unfollowed := true, recurses := true, named := ["bascule/rank.powers", "bascule/op.objects", "bascule/op.writers"], apart := false, laid := [("bascule/rank.powers", laid_bascule_rank_powers), ("bascule/op.objects", laid_bascule_op_objects), ("bascule/op.writers", laid_bascule_op_writers)], narrowed := true }
def PostPendsUptoSaid : Prop := postPendsUptoRow.holds Tryd.pinned (OpenSpec.upto postPendsSpec)

/-- 'basculelaw21.SignEnds', WHERE WHAT IT READS IS OF BULK AT MOST 1048576: true; the input reads as it did. -/
def signEndsUptoRow : OpenClaim := { program := "ytecjbgddjejjdaadoor", sum := "0af3fa16a6c1b80b7fb736ba15161450ea3186c3e134e923ede3e100d042051f", func := "bascule/basculelaw21.SignEnds", spec := "signEnds", unfollowed := true, recurses := true, named := ["bascule/rank.powers"], apart := false, laid := [("bascule/rank.powers", laid_bascule_rank_powers)], narrowed := true }
def SignEndsUptoSaid : Prop := signEndsUptoRow.holds Tryd.pinned (OpenSpec.upto signEndsSpec)

/-- 'basculelaw21.SignLeaves', WHERE WHAT IT READS IS OF BULK AT MOST 1048576: true; the input reads as it did. -/
def signLeavesUptoRow : OpenClaim := { program := "ytecjbgddjejjdaadoor", sum := "0af3fa16a6c1b80b7fb736ba15161450ea3186c3e134e923ede3e100d042051f", func := "bascule/basculelaw21.SignLeaves", spec := "signLeaves", unfollowed := true, recurses := true, named := ["bascule/rank.powers"], apart := false, laid := [("bascule/rank.powers", laid_bascule_rank_powers)], narrowed := true }
def SignLeavesUptoSaid : Prop := signLeavesUptoRow.holds Tryd.pinned (OpenSpec.upto signLeavesSpec)

end Rows
end Go.Proofs.YtecjbgddjejjdaaDoor
