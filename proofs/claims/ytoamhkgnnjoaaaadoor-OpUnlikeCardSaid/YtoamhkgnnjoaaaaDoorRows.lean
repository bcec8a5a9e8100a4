/-
  NARROWER THAN 'FOR EVERY INPUT', by the rows' own cells (each row's printed sentence says how): OpChecks: laid · PartSays: laid · PartStands: laid · OpUnlike: laid · OpOne: laid · OpNames: laid · PartNames: laid · PartOne: laid · PartBack: laid · PartFresh: laid · OpBack: laid.
  DERIVED. THE GIVEN ROWS OF THIS SEAT. 11 by the template 'for every input the law returns true; each argument reads behind the call as it read before'; 0 by the template 'total and deterministic' (their statements: YtoamhkgnnjoaaaaDoorTotals.lean).
  GIVEN WITH THE SEED: the statements are not yours to turn. If you find one false, say at which input.
  Laid BY PROGRAM, IN A SANDBOX (cutbox-rows.mjs): the forced cells as the released guide's own fill.sh prints them over the translation b938bb1c9be9c7b8… (all of the seat's roots in one cut). By AI agents, Wed Nov 11 2026. No macro, syntax, notation, axiom, sorry.
-/
import Derived.Test.YtoamhkgnnjoaaaaDoorChecked
import GoSem.Claim
import GoSem.ClaimJoined
import GoSem.ClaimMapViews
import Derived.JoinedTies
import Derived.KernelRfl
namespace Go.Proofs.YtoamhkgnnjoaaaaDoor
/- THE CELL 'sum', in the pinned program and in every row, IS THE sha256 OF THE DUMP (.gsa) THAT YtoamhkgnnjoaaaaDoorProg.lean LOADS. Nothing in Lean hashes anything: it is a label: what it is worth is what the hold of that sum in a sandbox is worth. -/
noncomputable def Tryd.pinned : Pinned := { name := "ytoamhkgnnjoaaaadoor", sum := "b938bb1c9be9c7b8dbac48d688a1dbd5ae176eaef8b5c7da6691bad695f8b121", checked := Tryd.checked }
namespace Rows
def none {H : Type} : Left H := { results := [], args := [] }

/- WHAT THE LISTED PACKAGE-LEVEL VARIABLES READ AS WHEN THE CALL BEGINS. Each datum BY PROGRAM (the guide's laid-datum.mjs) off the statement by which the dump's own 'gosem.cut.vars' lays the variable. In a bare row this is a premise. The card (YtoamhkgnnjoaaaaDoorCards.lean) ties it to the program's text. -/
def laid_bascule_op_objects {H : Type} : DataW H := .agg [.lit (.int .u8 0), .lit (.int .u8 1), .lit (.int .u8 1), .lit (.int .u8 1), .lit (.int .u8 2), .lit (.int .u8 2), .lit (.int .u8 2), .lit (.int .u8 2), .lit (.int .u8 2), .lit (.int .u8 3), .lit (.int .u8 3), .lit (.int .u8 3), .lit (.int .u8 4), .lit (.int .u8 4), .lit (.int .u8 4)]
def laid_bascule_op_writers {H : Type} : DataW H := .agg [.lit (.bool false), .lit (.bool true), .lit (.bool true), .lit (.bool false), .lit (.bool true), .lit (.bool true), .lit (.bool false), .lit (.bool false), .lit (.bool false), .lit (.bool true), .lit (.bool true), .lit (.bool false), .lit (.bool true), .lit (.bool true), .lit (.bool false)]
def laid_bascule_rank_powers {H : Type} : DataW H := .agg [.agg [.lit (.int .i64 1), .lit (.int .i64 2), .lit (.int .i64 4), .lit (.int .i64 8), .lit (.int .i64 16)], .agg [.lit (.int .i64 1), .lit (.int .i64 3), .lit (.int .i64 9), .lit (.int .i64 27), .lit (.int .i64 81)], .agg [.lit (.int .i64 1), .lit (.int .i64 4), .lit (.int .i64 16), .lit (.int .i64 64), .lit (.int .i64 256)]]

/-- 'basculelaw05.OpChecks': WHATEVER THE INPUT: true; the input reads as it did. -/
def opChecksSpec : ChangeSpec := { name := "opChecks", fn := fun _ => fun
  | [d1, d2] => { results := [.lit (.bool true)], args := [d1, d2] }
  | _ => none }
def opChecksRow : OpenClaim := { program := "ytoamhkgnnjoaaaadoor", sum := "b938bb1c9be9c7b8dbac48d688a1dbd5ae176eaef8b5c7da6691bad695f8b121", func := "bascule/basculelaw05.OpChecks", spec := "opChecks", named := ["bascule/op.objects", "bascule/op.writers"], apart := false, laid := [("bascule/op.objects", laid_bascule_op_objects), ("bascule/op.writers", laid_bascule_op_writers)] }
def OpChecksSaid : Prop := opChecksRow.holds Tryd.pinned (OpenSpec.ofChange opChecksSpec)

/-- ITS FALSE NEIGHBOUR: 'it returns false'. Refute it at one input. -/
def opChecksWrong : ChangeSpec := { name := "opChecks", fn := fun _ => fun
  | [d1, d2] => { results := [.lit (.bool false)], args := [d1, d2] }
  | _ => none }
def OpChecksWrongFalsely : Prop := opChecksRow.holds Tryd.pinned (OpenSpec.ofChange opChecksWrong)

/-- 'basculelaw04.PartSays': WHATEVER THE INPUT: true; the input reads as it did. -/
def partSaysSpec : ChangeSpec := { name := "partSays", fn := fun _ => fun
  | [d] => { results := [.lit (.bool true)], args := [d] }
  | _ => none }
def partSaysRow : OpenClaim := { program := "ytoamhkgnnjoaaaadoor", sum := "b938bb1c9be9c7b8dbac48d688a1dbd5ae176eaef8b5c7da6691bad695f8b121", func := "bascule/basculelaw04.PartSays", spec := "partSays", named := ["bascule/rank.powers"], apart := false, laid := [("bascule/rank.powers", laid_bascule_rank_powers)] }
def PartSaysSaid : Prop := partSaysRow.holds Tryd.pinned (OpenSpec.ofChange partSaysSpec)

/-- ITS FALSE NEIGHBOUR: 'it returns false'. Refute it at one input. -/
def partSaysWrong : ChangeSpec := { name := "partSays", fn := fun _ => fun
  | [d] => { results := [.lit (.bool false)], args := [d] }
  | _ => none }
def PartSaysWrongFalsely : Prop := partSaysRow.holds Tryd.pinned (OpenSpec.ofChange partSaysWrong)

/-- 'basculelaw04.PartStands': WHATEVER THE INPUT: true; the input reads as it did. -/
def partStandsSpec : ChangeSpec := { name := "partStands", fn := fun _ => fun
  | [d1, d2, d3] => { results := [.lit (.bool true)], args := [d1, d2, d3] }
  | _ => none }
def partStandsRow : OpenClaim := { program := "ytoamhkgnnjoaaaadoor", sum := "b938bb1c9be9c7b8dbac48d688a1dbd5ae176eaef8b5c7da6691bad695f8b121", func := "bascule/basculelaw04.PartStands", spec := "partStands", unfollowed := true, recurses := true, named := ["bascule/rank.powers"], apart := false, laid := [("bascule/rank.powers", laid_bascule_rank_powers)] }
def PartStandsSaid : Prop := partStandsRow.holds Tryd.pinned (OpenSpec.ofChange partStandsSpec)

/-- ITS FALSE NEIGHBOUR: 'it returns false'. Refute it at one input. -/
def partStandsWrong : ChangeSpec := { name := "partStands", fn := fun _ => fun
  | [d1, d2, d3] => { results := [.lit (.bool false)], args := [d1, d2, d3] }
  | _ => none }
def PartStandsWrongFalsely : Prop := partStandsRow.holds Tryd.pinned (OpenSpec.ofChange partStandsWrong)

/-- 'basculelaw05.OpUnlike': WHATEVER THE INPUT: true; the input reads as it did. -/
def opUnlikeSpec : ChangeSpec := { name := "opUnlike", fn := fun _ => fun
  | [d1, d2, d3, d4] => { results := [.lit (.bool true)], args := [d1, d2, d3, d4] }
  | _ => none }
def opUnlikeRow : OpenClaim := { program := "ytoamhkgnnjoaaaadoor", sum := "b938bb1c9be9c7b8dbac48d688a1dbd5ae176eaef8b5c7da6691bad695f8b121", func := "bascule/basculelaw05.OpUnlike", spec := "opUnlike", unfollowed := true, recurses := true, named := ["bascule/op.objects"], apart := false, laid := [("bascule/op.objects", laid_bascule_op_objects)] }
def OpUnlikeSaid : Prop := opUnlikeRow.holds Tryd.pinned (OpenSpec.ofChange opUnlikeSpec)

/-- ITS FALSE NEIGHBOUR: 'it returns false'. Refute it at one input. -/
def opUnlikeWrong : ChangeSpec := { name := "opUnlike", fn := fun _ => fun
  | [d1, d2, d3, d4] => { results := [.lit (.bool false)], args := [d1, d2, d3, d4] }
  | _ => none }
def OpUnlikeWrongFalsely : Prop := opUnlikeRow.holds Tryd.pinned (OpenSpec.ofChange opUnlikeWrong)

/-- 'basculelaw05.OpOne': WHATEVER THE INPUT: true; the input reads as it did. -/
def opOneSpec : ChangeSpec := { name := "opOne", fn := fun _ => fun
  | [d1, d2, d3] => { results := [.lit (.bool true)], args := [d1, d2, d3] }
  | _ => none }
def opOneRow : OpenClaim := { program := "ytoamhkgnnjoaaaadoor", sum := "b938bb1c9be9c7b8dbac48d688a1dbd5ae176eaef8b5c7da6691bad695f8b121", func := "bascule/basculelaw05.OpOne", spec := "opOne", unfollowed := true, recurses := true, named := ["bascule/op.objects"], apart := false, laid := [("bascule/op.objects", laid_bascule_op_objects)] }
def OpOneSaid : Prop := opOneRow.holds Tryd.pinned (OpenSpec.ofChange opOneSpec)

/-- ITS FALSE NEIGHBOUR: 'it returns false'. Refute it at one input. -/
def opOneWrong : ChangeSpec := { name := "opOne", fn := fun _ => fun
  | [d1, d2, d3] => { results := [.lit (.bool false)], args := [d1, d2, d3] }
  | _ => none }
def OpOneWrongFalsely : Prop := opOneRow.holds Tryd.pinned (OpenSpec.ofChange opOneWrong)

/-- 'basculelaw05.OpNames': WHATEVER THE INPUT: true; the input reads as it did. -/
def opNamesSpec : ChangeSpec := { name := "opNames", fn := fun _ => fun
  | [] => { results := [.lit (.bool true)], args := [] }
  | _ => none }
def opNamesRow : OpenClaim := { program := "ytoamhkgnnjoaaaadoor", sum := "b938bb1c9be9c7b8dbac48d688a1dbd5ae176eaef8b5c7da6691bad695f8b121", func := "bascule/basculelaw05.OpNames", spec := "opNames", unfollowed := true, recurses := true, named := ["bascule/op.objects", "bascule/op.writers"], apart := false, laid := [("bascule/op.objects", laid_bascule_op_objects), ("bascule/op.writers", laid_bascule_op_writers)] }
def OpNamesSaid : Prop := opNamesRow.holds Tryd.pinned (OpenSpec.ofChange opNamesSpec)

/-- ITS FALSE NEIGHBOUR: 'it returns false'. Refute it at one input. -/
def opNamesWrong : ChangeSpec := { name := "opNames", fn := fun _ => fun
  | [] => { results := [.lit (.bool false)], args := [] }
  | _ => none }
def OpNamesWrongFalsely : Prop := opNamesRow.holds Tryd.pinned (OpenSpec.ofChange opNamesWrong)

/-- 'basculelaw04.PartNames': WHATEVER THE INPUT: true; the input reads as it did. -/
def partNamesSpec : ChangeSpec := { name := "partNames", fn := fun _ => fun
  | [] => { results := [.lit (.bool true)], args := [] }
  | _ => none }
def partNamesRow : OpenClaim := { program := "ytoamhkgnnjoaaaadoor", sum := "b938bb1c9be9c7b8dbac48d688a1dbd5ae176eaef8b5c7da6691bad695f8b121", func := "bascule/basculelaw04.PartNames", spec := "partNames", unfollowed := true, recurses := true, named := ["bascule/rank.powers"], apart := false, laid := [("bascule/rank.powers", laid_bascule_rank_powers)] }
def PartNamesSaid : Prop := partNamesRow.holds Tryd.pinned (OpenSpec.ofChange partNamesSpec)

/-- ITS FALSE NEIGHBOUR: 'it returns false'. Refute it at one input. -/
def partNamesWrong : ChangeSpec := { name := "partNames", fn := fun _ => fun
  | [] => { results := [.lit (.bool false)], args := [] }
  | _ => none }
def PartNamesWrongFalsely : Prop := partNamesRow.holds Tryd.pinned (OpenSpec.ofChange partNamesWrong)

/-- 'basculelaw04.PartOne': WHATEVER THE INPUT: true; the input reads as it did. -/
def partOneSpec : ChangeSpec := { name := "partOne", fn := fun _ => fun
  | [d1, d2, d3] => { results := [.lit (.bool true)], args := [d1, d2, d3] }
  | _ => none }
def partOneRow : OpenClaim := { program := "ytoamhkgnnjoaaaadoor", sum := "b938bb1c9be9c7b8dbac48d688a1dbd5ae176eaef8b5c7da6691bad695f8b121", func := "bascule/basculelaw04.PartOne", spec := "partOne", unfollowed := true, recurses := true, named := ["bascule/rank.powers"], apart := false, laid := [("bascule/rank.powers", laid_bascule_rank_powers)] }
def PartOneSaid : Prop := partOneRow.holds Tryd.pinned (OpenSpec.ofChange partOneSpec)

/-- ITS FALSE NEIGHBOUR: 'it returns false'. Refute it at one input. -/
def partOneWrong : ChangeSpec := { name := "partOne", fn := fun _ => fun
  | [d1, d2, d3] => { results := [.lit (.bool false)], args := [d1, d2, d3] }
  | _ => none }
def PartOneWrongFalsely : Prop := partOneRow.holds Tryd.pinned (OpenSpec.ofChange partOneWrong)

/-- 'basculelaw04.PartBack': WHATEVER THE INPUT: true; the input reads as it did. -/
def partBackSpec : ChangeSpec := { name := "partBack", fn := fun _ => fun
  | [d] => { results := [.lit (.bool true)], args := [d] }
  | _ => none }
def partBackRow : OpenClaim := { program := "ytoamhkgnnjoaaaadoor", sum := "b938bb1c9be9c7b8dbac48d688a1dbd5ae176eaef8b5c7da6691bad695f8b121", func := "bascule/basculelaw04.PartBack", spec := "partBack", unfollowed := true, recurses := true, named := ["bascule/rank.powers"], apart := false, laid := [("bascule/rank.powers", laid_bascule_rank_powers)] }
def PartBackSaid : Prop := partBackRow.holds Tryd.pinned (OpenSpec.ofChange partBackSpec)

/-- ITS FALSE NEIGHBOUR: 'it returns false'. Refute it at one input. -/
def partBackWrong : ChangeSpec := { name := "partBack", fn := fun _ => fun
  | [d] => { results := [.lit (.bool false)], args := [d] }
  | _ => none }
def PartBackWrongFalsely : Prop := partBackRow.holds Tryd.pinned (OpenSpec.ofChange partBackWrong)

/-- 'basculelaw04.PartFresh': WHATEVER THE INPUT: true; the input reads as it did. -/
def partFreshSpec : ChangeSpec := { name := "partFresh", fn := fun _ => fun
  | [d] => { results := [.lit (.bool true)], args := [d] }
  | _ => none }
def partFreshRow : OpenClaim := { program := "ytoamhkgnnjoaaaadoor", sum := "b938bb1c9be9c7b8dbac48d688a1dbd5ae176eaef8b5c7da6691bad695f8b121", func := "bascule/basculelaw04.PartFresh", spec := "partFresh", unfollowed := true, recurses := true, named := ["bascule/rank.powers"], apart := false, laid := [("bascule/rank.powers", laid_bascule_rank_powers)] }
def PartFreshSaid : Prop := partFreshRow.holds Tryd.pinned (OpenSpec.ofChange partFreshSpec)

/-- ITS FALSE NEIGHBOUR: 'it returns false'. Refute it at one input. -/
def partFreshWrong : ChangeSpec := { name := "partFresh", fn := fun _ => fun
  | [d] => { results := [.lit (.bool false)], args := [d] }
  | _ => none }
def PartFreshWrongFalsely : Prop := partFreshRow.holds Tryd.pinned (OpenSpec.ofChange partFreshWrong)

/-- 'basculelaw05.OpBack': WHATEVER THE INPUT: true; the input reads as it did. -/
def opBackSpec : ChangeSpec := { name := "opBack", fn := fun _ => fun
  | [d1, d2] => { results := [.lit (.bool true)], args := [d1, d2] }
  | _ => none }
def opBackRow : OpenClaim := { program := "ytoamhkgnnjoaaaadoor", sum := "b938bb1c9be9c7b8dbac48d688a1dbd5ae176eaef8b5c7da6691bad695f8b121", func := "bascule/basculelaw05.OpBack", spec := "opBack", unfollowed := true, recurses := true, named := ["bascule/op.objects"], apart := false, laid := [("bascule/op.objects", laid_bascule_op_objects)] }
def OpBackSaid : Prop := opBackRow.holds Tryd.pinned (OpenSpec.ofChange opBackSpec)

/-- ITS FALSE NEIGHBOUR: 'it returns false'. Refute it at one input. -/
def opBackWrong : ChangeSpec := { name := "opBack", fn := fun _ => fun
  | [d1, d2] => { results := [.lit (.bool false)], args := [d1, d2] }
  | _ => none }
def OpBackWrongFalsely : Prop := opBackRow.holds Tryd.pinned (OpenSpec.ofChange opBackWrong)

/- THE SECOND FORM. 'bulk': how many values and letters a reading holds, each counted each time it is reached (what is shared counts as often as it is met; a slice's spare places count too). A statement '..UptoSaid' is the law's where the arguments, and the package variables that the reading takes, are together of bulk at most 1048576: NARROWER than '..Said'. Prove '..Said' where nothing that the law and all that it calls make is longer than what came in: it says more and counts as full. Else prove '..UptoSaid'. A law counts once. -/
mutual
def uptoBulk {H : Type} : DataW H → Nat
  | .lit (.string bytes) => bytes.length + 1
  | .lit _ => 1
  | .nil => 1
  | .ptr d => uptoBulk d + 1
  | .slice elems spare => uptoBulkAll elems + uptoBulkAll spare + 1
  | .agg parts => uptoBulkAll parts + 1
  | .iface _ d => uptoBulk d + 1
  | .map entries => uptoBulkEntries entries + 1
  | .held _ => 1
def uptoBulkAll {H : Type} : List (DataW H) → Nat
  | [] => 0
  | d :: r => uptoBulk d + uptoBulkAll r
def uptoBulkEntries {H : Type} : List (Lit × DataW H) → Nat
  | [] => 0
  | x :: r => uptoBulkEntry x + uptoBulkEntries r
def uptoBulkEntry {H : Type} : Lit × DataW H → Nat
  | (.string bytes, d) => bytes.length + uptoBulk d + 1
  | (_, d) => uptoBulk d + 1
 end
def uptoSmall : (H : Type) → List (DataW H) → Bool := fun _ ds => decide (uptoBulkAll ds ≤ 1048576)
def OpenSpec.upto (s : _root_.Go.ChangeSpec) : _root_.Go.OpenSpec := { _root_.Go.OpenSpec.ofChange s with cond := some uptoSmall }

/-- 'basculelaw05.OpChecks', WHERE WHAT IT READS IS OF BULK AT MOST 1048576: true; the input reads as it did. -/
def opChecksUptoRow : OpenClaim := { program := "ytoamhkgnnjoaaaadoor", sum := "b938bb1c9be9c7b8dbac48d688a1dbd5ae176eaef8b5c7da6691bad695f8b121", func := "bascule/basculelaw05.OpChecks", spec := "opChecks", named := ["bascule/op.objects", "bascule/op.writers"], apart := false, laid := [("bascule/op.objects", laid_bascule_op_objects), ("bascule/op.writers", laid_bascule_op_writers)], narrowed := true }
def OpChecksUptoSaid : Prop := opChecksUptoRow.holds Tryd.pinned (OpenSpec.upto opChecksSpec)

/-- 'basculelaw04.PartSays', WHERE WHAT IT READS IS OF BULK AT MOST 1048576: true; the input reads as it did. -/
def partSaysUptoRow : OpenClaim := { program := "ytoamhkgnnjoaaaadoor", sum := "b938bb1c9be9c7b8dbac48d688a1dbd5ae176eaef8b5c7da6691bad695f8b121", func := "bascule/basculelaw04.PartSays", spec := "partSays", named := ["bascule/rank.powers"], apart := false, laid := [("bascule/rank.powers", laid_bascule_rank_powers)], narrowed := true }
def PartSaysUptoSaid : Prop := partSaysUptoRow.holds Tryd.pinned (OpenSpec.upto partSaysSpec)

/-- 'basculelaw04.PartStands', WHERE WHAT IT READS IS OF BULK AT MOST 1048576: true; the input reads as it did. -/
def partStandsUptoRow : OpenClaim := { program := "ytoamhkgnnjoaaaadoor", sum := "b938bb1c9be9c7b8dbac48d688a1dbd5ae176eaef8b5c7da6691bad695f8b121", func := "bascule/basculelaw04.PartStands", spec := "partStands", unfollowed := true, recurses := true, named := ["bascule/rank.powers"], apart := false, laid := [("bascule/rank.powers", laid_bascule_rank_powers)], narrowed := true }
def PartStandsUptoSaid : Prop := partStandsUptoRow.holds Tryd.pinned (OpenSpec.upto partStandsSpec)

/-- 'basculelaw05.OpUnlike', WHERE WHAT IT READS IS OF BULK AT MOST 1048576: true; the input reads as it did. -/
def opUnlikeUptoRow : OpenClaim := { program := "ytoamhkgnnjoaaaadoor", sum := "b938bb1c9be9c7b8dbac48d688a1dbd5ae176eaef8b5c7da6691bad695f8b121", func := "bascule/basculelaw05.OpUnlike", spec := "opUnlike", unfollowed := true, recurses := true, named := ["bascule/op.objects"], apart := false, laid := [("bascule/op.objects", laid_bascule_op_objects)], narrowed := true }
def OpUnlikeUptoSaid : Prop := opUnlikeUptoRow.holds Tryd.pinned (OpenSpec.upto opUnlikeSpec)

/-- 'basculelaw05.OpOne', WHERE WHAT IT READS IS OF BULK AT MOST 1048576: true; the input reads as it did. -/
def opOneUptoRow : OpenClaim := { program := "ytoamhkgnnjoaaaadoor", sum := "b938bb1c9be9c7b8dbac48d688a1dbd5ae176eaef8b5c7da6691bad695f8b121", func := "bascule/basculelaw05.OpOne", spec := "opOne", unfollowed := true, recurses := true, named := ["bascule/op.objects"], apart := false, laid := [("bascule/op.objects", laid_bascule_op_objects)], narrowed := true }
def OpOneUptoSaid : Prop := opOneUptoRow.holds Tryd.pinned (OpenSpec.upto opOneSpec)

/-- 'basculelaw05.OpNames', WHERE WHAT IT READS IS OF BULK AT MOST 1048576: true; the input reads as it did. -/
def opNamesUptoRow : OpenClaim := { program := "ytoamhkgnnjoaaaadoor", sum := "b938bb1c9be9c7b8dbac48d688a1dbd5ae176eaef8b5c7da6691bad695f8b121", func := "bascule/basculelaw05.OpNames", spec := "opNames", unfollowed := true, recurses := true, named := ["bascule/op.objects", "bascule/op.writers"], apart := false, laid := [("bascule/op.objects", laid_bascule_op_objects), ("bascule/op.writers", laid_bascule_op_writers)], narrowed := true }
def OpNamesUptoSaid : Prop := opNamesUptoRow.holds Tryd.pinned (OpenSpec.upto opNamesSpec)

/-- 'basculelaw04.PartNames', WHERE WHAT IT READS IS OF BULK AT MOST 1048576: true; the input reads as it did. -/
def partNamesUptoRow : OpenClaim := { program := "ytoamhkgnnjoaaaadoor", sum := "b938bb1c9be9c7b8dbac48d688a1dbd5ae176eaef8b5c7da6691bad695f8b121", func := "bascule/basculelaw04.PartNames", spec := "partNames", unfollowed := true, recurses := true, named := ["bascule/rank.powers"], apart := false, laid := [("bascule/rank.powers", laid_bascule_rank_powers)], narrowed := true }
def PartNamesUptoSaid : Prop := partNamesUptoRow.holds Tryd.pinned (OpenSpec.upto partNamesSpec)

/-- 'basculelaw04.PartOne', WHERE WHAT IT READS IS OF BULK AT MOST 1048576: true; the input reads as it did. -/
def partOneUptoRow : OpenClaim := { program := "ytoamhkgnnjoaaaadoor", sum := "b938bb1c9be9c7b8dbac48d688a1dbd5ae176eaef8b5c7da6691bad695f8b121", func := "bascule/basculelaw04.PartOne", spec := "partOne", unfollowed := true, recurses := true, named := ["bascule/rank.powers"], apart := false, laid := [("bascule/rank.powers", laid_bascule_rank_powers)], narrowed := true }
def PartOneUptoSaid : Prop := partOneUptoRow.holds Tryd.pinned (OpenSpec.upto partOneSpec)

/-- 'basculelaw04.PartBack', WHERE WHAT IT READS IS OF BULK AT MOST 1048576: true; the input reads as it did. -/
def partBackUptoRow : OpenClaim := { program := "ytoamhkgnnjoaaaadoor", sum := "b938bb1c9be9c7b8dbac48d688a1dbd5ae176eaef8b5c7da6691bad695f8b121", func := "bascule/basculelaw04.PartBack", spec := "partBack", unfollowed := true, recurses := true, named := ["bascule/rank.powers"], apart := false, laid := [("bascule/rank.powers", laid_bascule_rank_powers)], narrowed := true }
def PartBackUptoSaid : Prop := partBackUptoRow.holds Tryd.pinned (OpenSpec.upto partBackSpec)

/-- 'basculelaw04.PartFresh', WHERE WHAT IT READS IS OF BULK AT MOST 1048576: true; the input reads as it did. -/
def partFreshUptoRow : OpenClaim := { program := "ytoamhkgnnjoaaaadoor", sum := "b938bb1c9be9c7b8dbac48d688a1dbd5ae176eaef8b5c7da6691bad695f8b121", func := "bascule/basculelaw04.PartFresh", spec := "partFresh", unfollowed := true, recurses := true, named := ["bascule/rank.powers"], apart := false, laid := [("bascule/rank.powers", laid_bascule_rank_powers)], narrowed := true }
def PartFreshUptoSaid : Prop := partFreshUptoRow.holds Tryd.pinned (OpenSpec.upto partFreshSpec)

/-- 'basculelaw05.OpBack', WHERE WHAT IT READS IS OF BULK AT MOST 1048576: true; the input reads as it did. -/
def opBackUptoRow : OpenClaim := { program := "ytoamhkgnnjoaaaadoor", sum := "b938bb1c9be9c7b8dbac48d688a1dbd5ae176eaef8b5c7da6691bad695f8b121", func := "bascule/basculelaw05.OpBack", spec := "opBack", unfollowed := true, recurses := true, named := ["bascule/op.objects"], apart := false, laid := [("bascule/op.objects", laid_bascule_op_objects)], narrowed := true }
def OpBackUptoSaid : Prop := opBackUptoRow.holds Tryd.pinned (OpenSpec.upto opBackSpec)

end Rows
end Go.Proofs.YtoamhkgnnjoaaaaDoor
