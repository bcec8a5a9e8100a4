/-
  No cell of these rows narrows 'for every input' (looked for: loops, veiled, ifaces, maps, wideKeys, modest, calm, conditions, laid).
  DERIVED. THE GIVEN ROWS OF THIS SEAT. 4 by the template 'for every input the law returns true; each argument reads behind the call as it read before'; 0 by the template 'total and deterministic' (their statements: YtecjbgddjejjdaaTotals.lean).
  GIVEN WITH THE SEED: the statements are not yours to turn. If you find one false, say at which input.
  Laid BY PROGRAM, IN A SANDBOX (cutbox-rows.mjs): the forced cells as the released guide's own fill.sh prints them over the translation 59e9cf49d1f54d94… (all of the seat's roots in one cut). By AI agents, Wed Nov 11 2026. No macro, syntax, notation, axiom, sorry.
-/
import Derived.Test.YtecjbgddjejjdaaChecked
import GoSem.Claim
import GoSem.ClaimJoined
import GoSem.ClaimMapViews
import Derived.JoinedTies
import Derived.KernelRfl
namespace Go.Proofs.Ytecjbgddjejjdaa
/- THE CELL 'sum', in the pinned program and in every row, IS THE sha256 OF THE DUMP (.gsa) THAT YtecjbgddjejjdaaProg.lean LOADS. Nothing in Lean hashes anything: it is a label: what it is worth is what the hold of that sum in a sandbox is worth. -/
noncomputable def Try.pinned : Pinned := { name := "ytecjbgddjejjdaa", sum := "59e9cf49d1f54d940febfc5a979dd3cb12f705ab0475b6a892671609ae4f14ba", checked := Try.checked }
namespace Rows
def none {H : Type} : Left H := { results := [], args := [] }

/-- 'basculelaw22.PostTells': WHATEVER THE INPUT: true; the input reads as it did. -/
def postTellsSpec : ChangeSpec := { name := "postTells", fn := fun _ => fun
  | [d1, d2, d3, d4, d5] => { results := [.lit (.bool true)], args := [d1, d2, d3, d4, d5] }
  | _ => none }
def postTellsRow : OpenClaim := { program := "ytecjbgddjejjdaa", sum := "59e9cf49d1f54d940febfc5a979dd3cb12f705ab0475b6a892671609ae4f14ba", func := "bascule/basculelaw22.PostTells", spec := "postTells", apart := false }
def PostTellsSaid : Prop := postTellsRow.holds Try.pinned (OpenSpec.ofChange postTellsSpec)

/-- ITS FALSE NEIGHBOUR: 'it returns false'. Refute it at one input. -/
def postTellsWrong : ChangeSpec := { name := "postTells", fn := fun _ => fun
  | [d1, d2, d3, d4, d5] => { results := [.lit (.bool false)], args := [d1, d2, d3, d4, d5] }
  | _ => none }
def PostTellsWrongFalsely : Prop := postTellsRow.holds Try.pinned (OpenSpec.ofChange postTellsWrong)

/-- 'basculelaw21.SignDoes': WHATEVER THE INPUT: true; the input reads as it did. -/
def signDoesSpec : ChangeSpec := { name := "signDoes", fn := fun _ => fun
  | [d1, d2, d3, d4] => { results := [.lit (.bool true)], args := [d1, d2, d3, d4] }
  | _ => none }
def signDoesRow : OpenClaim := { program := "ytecjbgddjejjdaa", sum := "59e9cf49d1f54d940febfc5a979dd3cb12f705ab0475b6a892671609ae4f14ba", func := "bascule/basculelaw21.SignDoes", spec := "signDoes", unfollowed := true, recurses := true, apart := false }
def SignDoesSaid : Prop := signDoesRow.holds Try.pinned (OpenSpec.ofChange signDoesSpec)

/-- ITS FALSE NEIGHBOUR: 'it returns false'. Refute it at one input. -/
def signDoesWrong : ChangeSpec := { name := "signDoes", fn := fun _ => fun
  | [d1, d2, d3, d4] => { results := [.lit (.bool false)], args := [d1, d2, d3, d4] }
  | _ => none }
def SignDoesWrongFalsely : Prop := signDoesRow.holds Try.pinned (OpenSpec.ofChange signDoesWrong)

/-- 'basculelaw21.SignLooks': WHATEVER THE INPUT: true; the input reads as it did. -/
def signLooksSpec : ChangeSpec := { name := "signLooks", fn := fun _ => fun
  | [d1, d2, d3, d4] => { results := [.lit (.bool true)], args := [d1, d2, d3, d4] }
  | _ => none }
def signLooksRow : OpenClaim := { program := "ytecjbgddjejjdaa", sum := "59e9cf49d1f54d940febfc5a979dd3cb12f705ab0475b6a892671609ae4f14ba", func := "bascule/basculelaw21.SignLooks", spec := "signLooks", unfollowed := true, recurses := true, apart := false }
def SignLooksSaid : Prop := signLooksRow.holds Try.pinned (OpenSpec.ofChange signLooksSpec)

/-- ITS FALSE NEIGHBOUR: 'it returns false'. Refute it at one input. -/
def signLooksWrong : ChangeSpec := { name := "signLooks", fn := fun _ => fun
  | [d1, d2, d3, d4] => { results := [.lit (.bool false)], args := [d1, d2, d3, d4] }
  | _ => none }
def SignLooksWrongFalsely : Prop := signLooksRow.holds Try.pinned (OpenSpec.ofChange signLooksWrong)

/-- 'basculelaw21.SignNames': WHATEVER THE INPUT: true; the input reads as it did. -/
def signNamesSpec : ChangeSpec := { name := "signNames", fn := fun _ => fun
  | [] => { results := [.lit (.bool true)], args := [] }
  | _ => none }
def signNamesRow : OpenClaim := { program := "ytecjbgddjejjdaa", sum := "59e9cf49d1f54d940febfc5a979dd3cb12f705ab0475b6a892671609ae4f14ba", func := "bascule/basculelaw21.SignNames", spec := "signNames", unfollowed := true, recurses := true, apart := false }
def SignNamesSaid : Prop := signNamesRow.holds Try.pinned (OpenSpec.ofChange signNamesSpec)

/-- ITS FALSE NEIGHBOUR: 'it returns false'. Refute it at one input. -/
def signNamesWrong : ChangeSpec := { name := "signNames", fn := fun _ => fun
  | [] => { results := [.lit (.bool false)], args := [] }
  | _ => none }
def SignNamesWrongFalsely : Prop := signNamesRow.holds Try.pinned (OpenSpec.ofChange signNamesWrong)

/- THE SECOND FORM. 'bulk': how many values and letters a reading holds, each counted each time it is reached (what is shared counts as often as it is met; a slice's spare places count too). A statement '..UptoSaid' is the law's where the arguments, and the package variables that the reading takes, are together of bulk at most 1048576: NARROWER than '..Said'. Prove '..Said' where nothing that the law and all that it calls make is longer than what came in: it says more and counts as full. Else prove '..UptoSaid'. A law counts once. -/
mutual
def uptoBulk {H : Type} : DataW H → Nat
  | .lit (.string bytes) => bytes.length + 1
  | .lit _ => 1
  | .nil => 1
  | .ptr d => uptoBulk d + 1
  | .slice elems spare => uptoBulkAll elems + uptoBulkAll spare + 1
  | .agg parts => uptoBulkAll parts + 1
  | .iface _ d => uptoBulk d + 1
  | .map entries => uptoBulkEntries entries + 1
  | .held _ => 1
def uptoBulkAll {H : Type} : List (DataW H) → Nat
  | [] => 0
  | d :: r => uptoBulk d + uptoBulkAll r
def uptoBulkEntries {H : Type} : List (Lit × DataW H) → Nat
  | [] => 0
  | x :: r => uptoBulkEntry x + uptoBulkEntries r
def uptoBulkEntry {H : Type} : Lit × DataW H → Nat
  | (.string bytes, d) => bytes.length + uptoBulk d + 1
  | (_, d) => uptoBulk d + 1
 end
def uptoSmall : (H : Type) → List (DataW H) → Bool := fun _ ds => decide (uptoBulkAll ds ≤ 1048576)
def OpenSpec.upto (s : _root_.Go.ChangeSpec) : _root_.Go.OpenSpec := { _root_.Go.OpenSpec.ofChange s with cond := some uptoSmall }

/-- 'basculelaw22.PostTells', WHERE WHAT IT READS IS OF BULK AT MOST 1048576: true; the input reads as it did. -/
def postTellsUptoRow : OpenClaim := { program := "ytecjbgddjejjdaa", sum := "59e9cf49d1f54d940febfc5a979dd3cb12f705ab0475b6a892671609ae4f14ba", func := "bascule/basculelaw22.PostTells", spec := "postTells", apart := false, narrowed := true }
def PostTellsUptoSaid : Prop := postTellsUptoRow.holds Try.pinned (OpenSpec.upto postTellsSpec)

/-- 'basculelaw21.SignDoes', WHERE WHAT IT READS IS OF BULK AT MOST 1048576: true; the input reads as it did. -/
def signDoesUptoRow : OpenClaim := { program := "ytecjbgddjejjdaa", sum := "59e9cf49d1f54d940febfc5a979dd3cb12f705ab0475b6a892671609ae4f14ba", func := "bascule/basculelaw21.SignDoes", spec := "signDoes", unfollowed := true, recurses := true, apart := false, narrowed := true }
def SignDoesUptoSaid : Prop := signDoesUptoRow.holds Try.pinned (OpenSpec.upto signDoesSpec)

/-- 'basculelaw21.SignLooks', WHERE WHAT IT READS IS OF BULK AT MOST 1048576: true; the input reads as it did. -/
def signLooksUptoRow : OpenClaim := { program := "ytecjbgddjejjdaa", sum := "59e9cf49d1f54d940febfc5a979dd3cb12f705ab0475b6a892671609ae4f14ba", func := "bascule/basculelaw21.SignLooks", spec := "signLooks", unfollowed := true, recurses := true, apart := false, narrowed := true }
def SignLooksUptoSaid : Prop := signLooksUptoRow.holds Try.pinned (OpenSpec.upto signLooksSpec)

/-- 'basculelaw21.SignNames', WHERE WHAT IT READS IS OF BULK AT MOST 1048576: true; the input reads as it did. -/
def signNamesUptoRow : OpenClaim := { program := "ytecjbgddjejjdaa", sum := "59e9cf49d1f54d940febfc5a979dd3cb12f705ab0475b6a892671609ae4f14ba", func := "bascule/basculelaw21.SignNames", spec := "signNames", unfollowed := true, recurses := true, apart := false, narrowed := true }
def SignNamesUptoSaid : Prop := signNamesUptoRow.holds Try.pinned (OpenSpec.upto signNamesSpec)

end Rows
end Go.Proofs.Ytecjbgddjejjdaa
