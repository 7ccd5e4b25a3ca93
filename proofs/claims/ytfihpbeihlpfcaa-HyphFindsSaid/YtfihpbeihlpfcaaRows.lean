/-
  No cell of these rows narrows 'for every input' (looked for: loops, veiled, ifaces, maps, wideKeys, modest, calm, conditions, laid).
  DERIVED. THE GIVEN ROWS OF THIS SEAT. 5 by the template 'for every input the law returns true; each argument reads behind the call as it read before'; 0 by the template 'total and deterministic' (their statements: YtfihpbeihlpfcaaTotals.lean).
  GIVEN WITH THE SEED: the statements are not yours to turn. If you find one false, say at which input.
  Laid BY PROGRAM, IN A SANDBOX (cutbox-rows.mjs): the forced cells as the released guide's own fill.sh prints them over the translation 7c6f1ed2a8378117… (all of the seat's roots in one cut). By AI agents, Wed Nov 11 2026. No macro, syntax, notation, axiom, sorry.
-/
import Derived.Test.YtfihpbeihlpfcaaChecked
import GoSem.Claim
import GoSem.ClaimJoined
import GoSem.ClaimMapViews
import Derived.JoinedTies
import Derived.KernelRfl
namespace Go.Proofs.Ytfihpbeihlpfcaa
/- THE CELL 'sum', in the pinned program and in every row, IS THE sha256 OF THE DUMP (.gsa) THAT YtfihpbeihlpfcaaProg.lean LOADS. Nothing in Lean hashes anything: it is a label: what it is worth is what the hold of that sum in a sandbox is worth. -/
noncomputable def Try.pinned : Pinned := { name := "ytfihpbeihlpfcaa", sum := "7c6f1ed2a8378117f23e52aa2d387eb5abcc1a18f8ad66aa900a973a45d6112a", checked := Try.checked }
namespace Rows
def none {H : Type} : Left H := { results := [], args := [] }

/-- 'ablautlaw24.HyphFinds': WHATEVER THE INPUT: true; the input reads as it did. -/
def hyphFindsSpec : ChangeSpec := { name := "hyphFinds", fn := fun _ => fun
  | [d] => { results := [.lit (.bool true)], args := [d] }
  | _ => none }
def hyphFindsRow : OpenClaim := { program := "ytfihpbeihlpfcaa", sum := "7c6f1ed2a8378117f23e52aa2d387eb5abcc1a18f8ad66aa900a973a45d6112a", func := "ablaut/ablautlaw24.HyphFinds", spec := "hyphFinds", unfollowed := true, recurses := true, apart := false }
def HyphFindsSaid : Prop := hyphFindsRow.holds Try.pinned (OpenSpec.ofChange hyphFindsSpec)

/-- ITS FALSE NEIGHBOUR: 'it returns false'. Refute it at one input. -/
def hyphFindsWrong : ChangeSpec := { name := "hyphFinds", fn := fun _ => fun
  | [d] => { results := [.lit (.bool false)], args := [d] }
  | _ => none }
def HyphFindsWrongFalsely : Prop := hyphFindsRow.holds Try.pinned (OpenSpec.ofChange hyphFindsWrong)

/-- 'ablautlaw24.HyphBreaks': WHATEVER THE INPUT: true; the input reads as it did. -/
def hyphBreaksSpec : ChangeSpec := { name := "hyphBreaks", fn := fun _ => fun
  | [d1, d2] => { results := [.lit (.bool true)], args := [d1, d2] }
  | _ => none }
def hyphBreaksRow : OpenClaim := { program := "ytfihpbeihlpfcaa", sum := "7c6f1ed2a8378117f23e52aa2d387eb5abcc1a18f8ad66aa900a973a45d6112a", func := "ablaut/ablautlaw24.HyphBreaks", spec := "hyphBreaks", unfollowed := true, recurses := true, apart := false }
def HyphBreaksSaid : Prop := hyphBreaksRow.holds Try.pinned (OpenSpec.ofChange hyphBreaksSpec)

/-- ITS FALSE NEIGHBOUR: 'it returns false'. Refute it at one input. -/
def hyphBreaksWrong : ChangeSpec := { name := "hyphBreaks", fn := fun _ => fun
  | [d1, d2] => { results := [.lit (.bool false)], args := [d1, d2] }
  | _ => none }
def HyphBreaksWrongFalsely : Prop := hyphBreaksRow.holds Try.pinned (OpenSpec.ofChange hyphBreaksWrong)

/-- 'ablautlaw24.HyphTurns': WHATEVER THE INPUT: true; the input reads as it did. -/
def hyphTurnsSpec : ChangeSpec := { name := "hyphTurns", fn := fun _ => fun
  | [d1, d2, d3] => { results := [.lit (.bool true)], args := [d1, d2, d3] }
  | _ => none }
def hyphTurnsRow : OpenClaim := { program := "ytfihpbeihlpfcaa", sum := "7c6f1ed2a8378117f23e52aa2d387eb5abcc1a18f8ad66aa900a973a45d6112a", func := "ablaut/ablautlaw24.HyphTurns", spec := "hyphTurns", unfollowed := true, recurses := true, apart := false }
def HyphTurnsSaid : Prop := hyphTurnsRow.holds Try.pinned (OpenSpec.ofChange hyphTurnsSpec)

/-- ITS FALSE NEIGHBOUR: 'it returns false'. Refute it at one input. -/
def hyphTurnsWrong : ChangeSpec := { name := "hyphTurns", fn := fun _ => fun
  | [d1, d2, d3] => { results := [.lit (.bool false)], args := [d1, d2, d3] }
  | _ => none }
def HyphTurnsWrongFalsely : Prop := hyphTurnsRow.holds Try.pinned (OpenSpec.ofChange hyphTurnsWrong)

/-- 'ablautlaw24.HyphWrong': WHATEVER THE INPUT: true; the input reads as it did. -/
def hyphWrongSpec : ChangeSpec := { name := "hyphWrong", fn := fun _ => fun
  | [d1, d2] => { results := [.lit (.bool true)], args := [d1, d2] }
  | _ => none }
def hyphWrongRow : OpenClaim := { program := "ytfihpbeihlpfcaa", sum := "7c6f1ed2a8378117f23e52aa2d387eb5abcc1a18f8ad66aa900a973a45d6112a", func := "ablaut/ablautlaw24.HyphWrong", spec := "hyphWrong", inPlace := ["slices.overlaps[ablaut/api.Broken]"], unfollowed := true, recurses := true, apart := false }
def HyphWrongSaid : Prop := hyphWrongRow.holds Try.pinned (OpenSpec.ofChange hyphWrongSpec)

/-- ITS FALSE NEIGHBOUR: 'it returns false'. Refute it at one input. -/
def hyphWrongWrong : ChangeSpec := { name := "hyphWrong", fn := fun _ => fun
  | [d1, d2] => { results := [.lit (.bool false)], args := [d1, d2] }
  | _ => none }
def HyphWrongWrongFalsely : Prop := hyphWrongRow.holds Try.pinned (OpenSpec.ofChange hyphWrongWrong)

/-- 'ablautlaw24.HyphExcepts': WHATEVER THE INPUT: true; the input reads as it did. -/
def hyphExceptsSpec : ChangeSpec := { name := "hyphExcepts", fn := fun _ => fun
  | [d1, d2] => { results := [.lit (.bool true)], args := [d1, d2] }
  | _ => none }
def hyphExceptsRow : OpenClaim := { program := "ytfihpbeihlpfcaa", sum := "7c6f1ed2a8378117f23e52aa2d387eb5abcc1a18f8ad66aa900a973a45d6112a", func := "ablaut/ablautlaw24.HyphExcepts", spec := "hyphExcepts", inPlace := ["slices.overlaps[ablaut/api.Broken]"], unfollowed := true, recurses := true, apart := false }
def HyphExceptsSaid : Prop := hyphExceptsRow.holds Try.pinned (OpenSpec.ofChange hyphExceptsSpec)

/-- ITS FALSE NEIGHBOUR: 'it returns false'. Refute it at one input. -/
def hyphExceptsWrong : ChangeSpec := { name := "hyphExcepts", fn := fun _ => fun
  | [d1, d2] => { results := [.lit (.bool false)], args := [d1, d2] }
  | _ => none }
def HyphExceptsWrongFalsely : Prop := hyphExceptsRow.holds Try.pinned (OpenSpec.ofChange hyphExceptsWrong)

/- THE SECOND FORM. 'bulk': how many values and letters a reading holds, each counted each time it is reached (what is shared counts as often as it is met; a slice's spare places count too). A statement '..UptoSaid' is the law's where the arguments, and the package variables that the reading takes, are together of bulk at most 1048576: NARROWER than '..Said'. Prove '..Said' where nothing that the law and all that it calls make is longer than what came in: it says more and counts as full. Else prove '..UptoSaid'. A law counts once. -/
mutual
def uptoBulk {H : Type} : DataW H → Nat
  | .lit (.string bytes) => bytes.length + 1
  | .lit _ => 1
  | .nil => 1
  | .ptr d => uptoBulk d + 1
  | .slice elems spare => uptoBulkAll elems + uptoBulkAll spare + 1
  | .agg parts => uptoBulkAll parts + 1
  | .iface _ d => uptoBulk d + 1
  | .map entries => uptoBulkEntries entries + 1
  | .held _ => 1
def uptoBulkAll {H : Type} : List (DataW H) → Nat
  | [] => 0
  | d :: r => uptoBulk d + uptoBulkAll r
def uptoBulkEntries {H : Type} : List (Lit × DataW H) → Nat
  | [] => 0
  | x :: r => uptoBulkEntry x + uptoBulkEntries r
def uptoBulkEntry {H : Type} : Lit × DataW H → Nat
  | (.string bytes, d) => bytes.length + uptoBulk d + 1
  | (_, d) => uptoBulk d + 1
 end
def uptoSmall : (H : Type) → List (DataW H) → Bool := fun _ ds => decide (uptoBulkAll ds ≤ 1048576)
def OpenSpec.upto (s : _root_.Go.ChangeSpec) : _root_.Go.OpenSpec := { _root_.Go.OpenSpec.ofChange s with cond := some uptoSmall }

/-- 'ablautlaw24.HyphFinds', WHERE WHAT IT READS IS OF BULK AT MOST 1048576: true; the input reads as it did. -/
def hyphFindsUptoRow : OpenClaim := { program := "ytfihpbeihlpfcaa", sum := "7c6f1ed2a8378117f23e52aa2d387eb5abcc1a18f8ad66aa900a973a45d6112a", func := "ablaut/ablautlaw24.HyphFinds", spec := "hyphFinds", unfollowed := true, recurses := true, apart := false, narrowed := true }
def HyphFindsUptoSaid : Prop := hyphFindsUptoRow.holds Try.pinned (OpenSpec.upto hyphFindsSpec)

/-- 'ablautlaw24.HyphBreaks', WHERE WHAT IT READS IS OF BULK AT MOST 1048576: true; the input reads as it did. -/
def hyphBreaksUptoRow : OpenClaim := { program := "ytfihpbeihlpfcaa", sum := "7c6f1ed2a8378117f23e52aa2d387eb5abcc1a18f8ad66aa900a973a45d6112a", func := "ablaut/ablautlaw24.HyphBreaks", spec := "hyphBreaks", unfollowed := true, recurses := true, apart := false, narrowed := true }
def HyphBreaksUptoSaid : Prop := hyphBreaksUptoRow.holds Try.pinned (OpenSpec.upto hyphBreaksSpec)

/-- 'ablautlaw24.HyphTurns', WHERE WHAT IT READS IS OF BULK AT MOST 1048576: true; the input reads as it did. -/
def hyphTurnsUptoRow : OpenClaim := { program := "ytfihpbeihlpfcaa", sum := "7c6f1ed2a8378117f23e52aa2d387eb5abcc1a18f8ad66aa900a973a45d6112a", func := "ablaut/ablautlaw24.HyphTurns", spec := "hyphTurns", unfollowed := true, recurses := true, apart := false, narrowed := true }
def HyphTurnsUptoSaid : Prop := hyphTurnsUptoRow.holds Try.pinned (OpenSpec.upto hyphTurnsSpec)

/-- 'ablautlaw24.HyphWrong', WHERE WHAT IT READS IS OF BULK AT MOST 1048576: true; the input reads as it did. -/
def hyphWrongUptoRow : OpenClaim := { program := "ytfihpbeihlpfcaa", sum := "7c6f1ed2a8378117f23e52aa2d387eb5abcc1a18f8ad66aa900a973a45d6112a", func := "ablaut/ablautlaw24.HyphWrong", spec := "hyphWrong", inPlace := ["slices.overlaps[ablaut/api.Broken]"], unfollowed := true, recurses := true, apart := false, narrowed := true }
def HyphWrongUptoSaid : Prop := hyphWrongUptoRow.holds Try.pinned (OpenSpec.upto hyphWrongSpec)

/-- 'ablautlaw24.HyphExcepts', WHERE WHAT IT READS IS OF BULK AT MOST 1048576: true; the input reads as it did. -/
def hyphExceptsUptoRow : OpenClaim := { program := "ytfihpbeihlpfcaa", sum := "7c6f1ed2a8378117f23e52aa2d387eb5abcc1a18f8ad66aa900a973a45d6112a", func := "ablaut/ablautlaw24.HyphExcepts", spec := "hyphExcepts", inPlace := ["slices.overlaps[ablaut/api.Broken]"], unfollowed := true, recurses := true, apart := false, narrowed := true }
def HyphExceptsUptoSaid : Prop := hyphExceptsUptoRow.holds Try.pinned (OpenSpec.upto hyphExceptsSpec)

end Rows
end Go.Proofs.Ytfihpbeihlpfcaa
