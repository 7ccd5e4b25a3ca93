/-
  No cell of these rows narrows 'for every input' (looked for: loops, veiled, ifaces, maps, wideKeys, modest, calm, conditions, laid).
  DERIVED. THE GIVEN ROWS OF THIS SEAT. 9 by the template 'for every input the law returns true; each argument reads behind the call as it read before'; 0 by the template 'total and deterministic' (their statements: YtkedbkdbnmmkhaaTotals.lean).
  GIVEN WITH THE SEED: the statements are not yours to turn. If you find one false, say at which input.
  Laid BY PROGRAM, IN A SANDBOX (cutbox-rows.mjs): the forced cells as the released guide's own fill.sh prints them over the translation de7da381454f5f69… (all of the seat's roots in one cut). By AI agents, Wed Nov 11 2026. No macro, syntax, notation, axiom, sorry.
-/
import Derived.Test.YtkedbkdbnmmkhaaChecked
import GoSem.Claim
import GoSem.ClaimJoined
import GoSem.ClaimMapViews
import Derived.JoinedTies
import Derived.KernelRfl
namespace Go.Proofs.Ytkedbkdbnmmkhaa
/- THE CELL 'sum', in the pinned program and in every row, IS THE sha256 OF THE DUMP (.gsa) THAT YtkedbkdbnmmkhaaProg.lean LOADS. Nothing in Lean hashes anything: it is a label: what it is worth is what the hold of that sum in a sandbox is worth. -/
noncomputable def Try.pinned : Pinned := { name := "ytkedbkdbnmmkhaa", sum := "de7da381454f5f69a11eb632ecc1bde0cea523b1389ea1112e4a20784360e86b", checked := Try.checked }
namespace Rows
def none {H : Type} : Left H := { results := [], args := [] }

/-- 'ablautlaw21.DependHangs': WHATEVER THE INPUT: true; the input reads as it did. -/
def dependHangsSpec : ChangeSpec := { name := "dependHangs", fn := fun _ => fun
  | [d1, d2] => { results := [.lit (.bool true)], args := [d1, d2] }
  | _ => none }
def dependHangsRow : OpenClaim := { program := "ytkedbkdbnmmkhaa", sum := "de7da381454f5f69a11eb632ecc1bde0cea523b1389ea1112e4a20784360e86b", func := "ablaut/ablautlaw21.DependHangs", spec := "dependHangs", unfollowed := true, recurses := true, apart := false }
def DependHangsSaid : Prop := dependHangsRow.holds Try.pinned (OpenSpec.ofChange dependHangsSpec)

/-- ITS FALSE NEIGHBOUR: 'it returns false'. Refute it at one input. -/
def dependHangsWrong : ChangeSpec := { name := "dependHangs", fn := fun _ => fun
  | [d1, d2] => { results := [.lit (.bool false)], args := [d1, d2] }
  | _ => none }
def DependHangsWrongFalsely : Prop := dependHangsRow.holds Try.pinned (OpenSpec.ofChange dependHangsWrong)

/-- 'ablautlaw21.DependTrees': WHATEVER THE INPUT: true; the input reads as it did. -/
def dependTreesSpec : ChangeSpec := { name := "dependTrees", fn := fun _ => fun
  | [d1, d2] => { results := [.lit (.bool true)], args := [d1, d2] }
  | _ => none }
def dependTreesRow : OpenClaim := { program := "ytkedbkdbnmmkhaa", sum := "de7da381454f5f69a11eb632ecc1bde0cea523b1389ea1112e4a20784360e86b", func := "ablaut/ablautlaw21.DependTrees", spec := "dependTrees", unfollowed := true, recurses := true, apart := false }
def DependTreesSaid : Prop := dependTreesRow.holds Try.pinned (OpenSpec.ofChange dependTreesSpec)

/-- ITS FALSE NEIGHBOUR: 'it returns false'. Refute it at one input. -/
def dependTreesWrong : ChangeSpec := { name := "dependTrees", fn := fun _ => fun
  | [d1, d2] => { results := [.lit (.bool false)], args := [d1, d2] }
  | _ => none }
def DependTreesWrongFalsely : Prop := dependTreesRow.holds Try.pinned (OpenSpec.ofChange dependTreesWrong)

/-- 'ablautlaw21.DependScores': WHATEVER THE INPUT: true; the input reads as it did. -/
def dependScoresSpec : ChangeSpec := { name := "dependScores", fn := fun _ => fun
  | [d1, d2] => { results := [.lit (.bool true)], args := [d1, d2] }
  | _ => none }
def dependScoresRow : OpenClaim := { program := "ytkedbkdbnmmkhaa", sum := "de7da381454f5f69a11eb632ecc1bde0cea523b1389ea1112e4a20784360e86b", func := "ablaut/ablautlaw21.DependScores", spec := "dependScores", unfollowed := true, recurses := true, apart := false }
def DependScoresSaid : Prop := dependScoresRow.holds Try.pinned (OpenSpec.ofChange dependScoresSpec)

/-- ITS FALSE NEIGHBOUR: 'it returns false'. Refute it at one input. -/
def dependScoresWrong : ChangeSpec := { name := "dependScores", fn := fun _ => fun
  | [d1, d2] => { results := [.lit (.bool false)], args := [d1, d2] }
  | _ => none }
def DependScoresWrongFalsely : Prop := dependScoresRow.holds Try.pinned (OpenSpec.ofChange dependScoresWrong)

/-- 'ablautlaw21.DependReplays': WHATEVER THE INPUT: true; the input reads as it did. -/
def dependReplaysSpec : ChangeSpec := { name := "dependReplays", fn := fun _ => fun
  | [d1, d2] => { results := [.lit (.bool true)], args := [d1, d2] }
  | _ => none }
def dependReplaysRow : OpenClaim := { program := "ytkedbkdbnmmkhaa", sum := "de7da381454f5f69a11eb632ecc1bde0cea523b1389ea1112e4a20784360e86b", func := "ablaut/ablautlaw21.DependReplays", spec := "dependReplays", unfollowed := true, recurses := true, apart := false }
def DependReplaysSaid : Prop := dependReplaysRow.holds Try.pinned (OpenSpec.ofChange dependReplaysSpec)

/-- ITS FALSE NEIGHBOUR: 'it returns false'. Refute it at one input. -/
def dependReplaysWrong : ChangeSpec := { name := "dependReplays", fn := fun _ => fun
  | [d1, d2] => { results := [.lit (.bool false)], args := [d1, d2] }
  | _ => none }
def DependReplaysWrongFalsely : Prop := dependReplaysRow.holds Try.pinned (OpenSpec.ofChange dependReplaysWrong)

/-- 'ablautlaw21.DependBelows': WHATEVER THE INPUT: true; the input reads as it did. -/
def dependBelowsSpec : ChangeSpec := { name := "dependBelows", fn := fun _ => fun
  | [d1, d2, d3] => { results := [.lit (.bool true)], args := [d1, d2, d3] }
  | _ => none }
def dependBelowsRow : OpenClaim := { program := "ytkedbkdbnmmkhaa", sum := "de7da381454f5f69a11eb632ecc1bde0cea523b1389ea1112e4a20784360e86b", func := "ablaut/ablautlaw21.DependBelows", spec := "dependBelows", unfollowed := true, recurses := true, apart := false }
def DependBelowsSaid : Prop := dependBelowsRow.holds Try.pinned (OpenSpec.ofChange dependBelowsSpec)

/-- ITS FALSE NEIGHBOUR: 'it returns false'. Refute it at one input. -/
def dependBelowsWrong : ChangeSpec := { name := "dependBelows", fn := fun _ => fun
  | [d1, d2, d3] => { results := [.lit (.bool false)], args := [d1, d2, d3] }
  | _ => none }
def DependBelowsWrongFalsely : Prop := dependBelowsRow.holds Try.pinned (OpenSpec.ofChange dependBelowsWrong)

/-- 'ablautlaw21.DependPaths': WHATEVER THE INPUT: true; the input reads as it did. -/
def dependPathsSpec : ChangeSpec := { name := "dependPaths", fn := fun _ => fun
  | [d1, d2, d3] => { results := [.lit (.bool true)], args := [d1, d2, d3] }
  | _ => none }
def dependPathsRow : OpenClaim := { program := "ytkedbkdbnmmkhaa", sum := "de7da381454f5f69a11eb632ecc1bde0cea523b1389ea1112e4a20784360e86b", func := "ablaut/ablautlaw21.DependPaths", spec := "dependPaths", unfollowed := true, recurses := true, apart := false }
def DependPathsSaid : Prop := dependPathsRow.holds Try.pinned (OpenSpec.ofChange dependPathsSpec)

/-- ITS FALSE NEIGHBOUR: 'it returns false'. Refute it at one input. -/
def dependPathsWrong : ChangeSpec := { name := "dependPaths", fn := fun _ => fun
  | [d1, d2, d3] => { results := [.lit (.bool false)], args := [d1, d2, d3] }
  | _ => none }
def DependPathsWrongFalsely : Prop := dependPathsRow.holds Try.pinned (OpenSpec.ofChange dependPathsWrong)

/-- 'ablautlaw21.DependTurns': WHATEVER THE INPUT: true; the input reads as it did. -/
def dependTurnsSpec : ChangeSpec := { name := "dependTurns", fn := fun _ => fun
  | [d1, d2, d3] => { results := [.lit (.bool true)], args := [d1, d2, d3] }
  | _ => none }
def dependTurnsRow : OpenClaim := { program := "ytkedbkdbnmmkhaa", sum := "de7da381454f5f69a11eb632ecc1bde0cea523b1389ea1112e4a20784360e86b", func := "ablaut/ablautlaw21.DependTurns", spec := "dependTurns", unfollowed := true, recurses := true, apart := false }
def DependTurnsSaid : Prop := dependTurnsRow.holds Try.pinned (OpenSpec.ofChange dependTurnsSpec)

/-- ITS FALSE NEIGHBOUR: 'it returns false'. Refute it at one input. -/
def dependTurnsWrong : ChangeSpec := { name := "dependTurns", fn := fun _ => fun
  | [d1, d2, d3] => { results := [.lit (.bool false)], args := [d1, d2, d3] }
  | _ => none }
def DependTurnsWrongFalsely : Prop := dependTurnsRow.holds Try.pinned (OpenSpec.ofChange dependTurnsWrong)

/-- 'ablautlaw21.DependMoves': WHATEVER THE INPUT: true; the input reads as it did. -/
def dependMovesSpec : ChangeSpec := { name := "dependMoves", fn := fun _ => fun
  | [d] => { results := [.lit (.bool true)], args := [d] }
  | _ => none }
def dependMovesRow : OpenClaim := { program := "ytkedbkdbnmmkhaa", sum := "de7da381454f5f69a11eb632ecc1bde0cea523b1389ea1112e4a20784360e86b", func := "ablaut/ablautlaw21.DependMoves", spec := "dependMoves", unfollowed := true, recurses := true, apart := false }
def DependMovesSaid : Prop := dependMovesRow.holds Try.pinned (OpenSpec.ofChange dependMovesSpec)

/-- ITS FALSE NEIGHBOUR: 'it returns false'. Refute it at one input. -/
def dependMovesWrong : ChangeSpec := { name := "dependMoves", fn := fun _ => fun
  | [d] => { results := [.lit (.bool false)], args := [d] }
  | _ => none }
def DependMovesWrongFalsely : Prop := dependMovesRow.holds Try.pinned (OpenSpec.ofChange dependMovesWrong)

/-- 'ablautlaw21.DependMoved': WHATEVER THE INPUT: true; the input reads as it did. -/
def dependMovedSpec : ChangeSpec := { name := "dependMoved", fn := fun _ => fun
  | [d] => { results := [.lit (.bool true)], args := [d] }
  | _ => none }
def dependMovedRow : OpenClaim := { program := "ytkedbkdbnmmkhaa", sum := "de7da381454f5f69a11eb632ecc1bde0cea523b1389ea1112e4a20784360e86b", func := "ablaut/ablautlaw21.DependMoved", spec := "dependMoved", unfollowed := true, recurses := true, apart := false }
def DependMovedSaid : Prop := dependMovedRow.holds Try.pinned (OpenSpec.ofChange dependMovedSpec)

/-- ITS FALSE NEIGHBOUR: 'it returns false'. Refute it at one input. -/
def dependMovedWrong : ChangeSpec := { name := "dependMoved", fn := fun _ => fun
  | [d] => { results := [.lit (.bool false)], args := [d] }
  | _ => none }
def DependMovedWrongFalsely : Prop := dependMovedRow.holds Try.pinned (OpenSpec.ofChange dependMovedWrong)

/- THE SECOND FORM. 'bulk': how many values and letters a reading holds, each counted each time it is reached (what is shared counts as often as it is met; a slice's spare places count too). A statement '..UptoSaid' is the law's where the arguments, and the package variables that the reading takes, are together of bulk at most 1048576: NARROWER than '..Said'. Prove '..Said' where nothing that the law and all that it calls make is longer than what came in: it says more and counts as full. Else prove '..UptoSaid'. A law counts once. -/
mutual
def uptoBulk {H : Type} : DataW H → Nat
  | .lit (.string bytes) => bytes.length + 1
  | .lit _ => 1
  | .nil => 1
  | .ptr d => uptoBulk d + 1
  | .slice elems spare => uptoBulkAll elems + uptoBulkAll spare + 1
  | .agg parts => uptoBulkAll parts + 1
  | .iface _ d => uptoBulk d + 1
  | .map entries => uptoBulkEntries entries + 1
  | .held _ => 1
def uptoBulkAll {H : Type} : List (DataW H) → Nat
  | [] => 0
  | d :: r => uptoBulk d + uptoBulkAll r
def uptoBulkEntries {H : Type} : List (Lit × DataW H) → Nat
  | [] => 0
  | x :: r => uptoBulkEntry x + uptoBulkEntries r
def uptoBulkEntry {H : Type} : Lit × DataW H → Nat
  | (.string bytes, d) => bytes.length + uptoBulk d + 1
  | (_, d) => uptoBulk d + 1
 end
def uptoSmall : (H : Type) → List (DataW H) → Bool := fun _ ds => decide (uptoBulkAll ds ≤ 1048576)
def OpenSpec.upto (s : _root_.Go.ChangeSpec) : _root_.Go.OpenSpec := { _root_.Go.OpenSpec.ofChange s with cond := some uptoSmall }

/-- 'ablautlaw21.DependHangs', WHERE WHAT IT READS IS OF BULK AT MOST 1048576: true; the input reads as it did. -/
def dependHangsUptoRow : OpenClaim := { program := "ytkedbkdbnmmkhaa", sum := "de7da381454f5f69a11eb632ecc1bde0cea523b1389ea1112e4a20784360e86b", func := "ablaut/ablautlaw21.DependHangs", spec := "dependHangs", unfollowed := true, recurses := true, apart := false, narrowed := true }
def DependHangsUptoSaid : Prop := dependHangsUptoRow.holds Try.pinned (OpenSpec.upto dependHangsSpec)

/-- 'ablautlaw21.DependTrees', WHERE WHAT IT READS IS OF BULK AT MOST 1048576: true; the input reads as it did. -/
def dependTreesUptoRow : OpenClaim := { program := "ytkedbkdbnmmkhaa", sum := "de7da381454f5f69a11eb632ecc1bde0cea523b1389ea1112e4a20784360e86b", func := "ablaut/ablautlaw21.DependTrees", spec := "dependTrees", unfollowed := true, recurses := true, apart := false, narrowed := true }
def DependTreesUptoSaid : Prop := dependTreesUptoRow.holds Try.pinned (OpenSpec.upto dependTreesSpec)

/-- 'ablautlaw21.DependScores', WHERE WHAT IT READS IS OF BULK AT MOST 1048576: true; the input reads as it did. -/
def dependScoresUptoRow : OpenClaim := { program := "ytkedbkdbnmmkhaa", sum := "de7da381454f5f69a11eb632ecc1bde0cea523b1389ea1112e4a20784360e86b", func := "ablaut/ablautlaw21.DependScores", spec := "dependScores", unfollowed := true, recurses := true, apart := false, narrowed := true }
def DependScoresUptoSaid : Prop := dependScoresUptoRow.holds Try.pinned (OpenSpec.upto dependScoresSpec)

/-- 'ablautlaw21.DependReplays', WHERE WHAT IT READS IS OF BULK AT MOST 1048576: true; the input reads as it did. -/
def dependReplaysUptoRow : OpenClaim := { program := "ytkedbkdbnmmkhaa", sum := "de7da381454f5f69a11eb632ecc1bde0cea523b1389ea1112e4a20784360e86b", func := "ablaut/ablautlaw21.DependReplays", spec := "dependReplays", unfollowed := true, recurses := true, apart := false, narrowed := true }
def DependReplaysUptoSaid : Prop := dependReplaysUptoRow.holds Try.pinned (OpenSpec.upto dependReplaysSpec)

/-- 'ablautlaw21.DependBelows', WHERE WHAT IT READS IS OF BULK AT MOST 1048576: true; the input reads as it did. -/
def dependBelowsUptoRow : OpenClaim := { program := "ytkedbkdbnmmkhaa", sum := "de7da381454f5f69a11eb632ecc1bde0cea523b1389ea1112e4a20784360e86b", func := "ablaut/ablautlaw21.DependBelows", spec := "dependBelows", unfollowed := true, recurses := true, apart := false, narrowed := true }
def DependBelowsUptoSaid : Prop := dependBelowsUptoRow.holds Try.pinned (OpenSpec.upto dependBelowsSpec)

/-- 'ablautlaw21.DependPaths', WHERE WHAT IT READS IS OF BULK AT MOST 1048576: true; the input reads as it did. -/
def dependPathsUptoRow : OpenClaim := { program := "ytkedbkdbnmmkhaa", sum := "de7da381454f5f69a11eb632ecc1bde0cea523b1389ea1112e4a20784360e86b", func := "ablaut/ablautlaw21.DependPaths", spec := "dependPaths", unfollowed := true, recurses := true, apart := false, narrowed := true }
def DependPathsUptoSaid : Prop := dependPathsUptoRow.holds Try.pinned (OpenSpec.upto dependPathsSpec)

/-- 'ablautlaw21.DependTurns', WHERE WHAT IT READS IS OF BULK AT MOST 1048576: true; the input reads as it did. -/
def dependTurnsUptoRow : OpenClaim := { program := "ytkedbkdbnmmkhaa", sum := "de7da381454f5f69a11eb632ecc1bde0cea523b1389ea1112e4a20784360e86b", func := "ablaut/ablautlaw21.DependTurns", spec := "dependTurns", unfollowed := true, recurses := true, apart := false, narrowed := true }
def DependTurnsUptoSaid : Prop := dependTurnsUptoRow.holds Try.pinned (OpenSpec.upto dependTurnsSpec)

/-- 'ablautlaw21.DependMoves', WHERE WHAT IT READS IS OF BULK AT MOST 1048576: true; the input reads as it did. -/
def dependMovesUptoRow : OpenClaim := { program := "ytkedbkdbnmmkhaa", sum := "de7da381454f5f69a11eb632ecc1bde0cea523b1389ea1112e4a20784360e86b", func := "ablaut/ablautlaw21.DependMoves", spec := "dependMoves", unfollowed := true, recurses := true, apart := false, narrowed := true }
def DependMovesUptoSaid : Prop := dependMovesUptoRow.holds Try.pinned (OpenSpec.upto dependMovesSpec)

/-- 'ablautlaw21.DependMoved', WHERE WHAT IT READS IS OF BULK AT MOST 1048576: true; the input reads as it did. -/
def dependMovedUptoRow : OpenClaim := { program := "ytkedbkdbnmmkhaa", sum := "de7da381454f5f69a11eb632ecc1bde0cea523b1389ea1112e4a20784360e86b", func := "ablaut/ablautlaw21.DependMoved", spec := "dependMoved", unfollowed := true, recurses := true, apart := false, narrowed := true }
def DependMovedUptoSaid : Prop := dependMovedUptoRow.holds Try.pinned (OpenSpec.upto dependMovedSpec)

end Rows
end Go.Proofs.Ytkedbkdbnmmkhaa
