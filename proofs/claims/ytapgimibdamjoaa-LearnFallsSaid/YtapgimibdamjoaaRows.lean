/-
  No cell of these rows narrows 'for every input' (looked for: loops, veiled, ifaces, maps, wideKeys, modest, calm, conditions, laid).
  DERIVED. THE GIVEN ROWS OF THIS SEAT. 7 by the template 'for every input the law returns true; each argument reads behind the call as it read before'; 0 by the template 'total and deterministic' (their statements: YtapgimibdamjoaaTotals.lean).
  GIVEN WITH THE SEED: the statements are not yours to turn. If you find one false, say at which input.
  Laid BY PROGRAM, IN A SANDBOX (cutbox-rows.mjs): the forced cells as the released guide's own fill.sh prints them over the translation d8eaf6eef255bf73… (all of the seat's roots in one cut). By AI agents, Wed Nov 11 2026. No macro, syntax, notation, axiom, sorry.
-/
import Derived.Test.YtapgimibdamjoaaChecked
import GoSem.Claim
import GoSem.ClaimJoined
import GoSem.ClaimMapViews
import Derived.JoinedTies
import Derived.KernelRfl
namespace Go.Proofs.Ytapgimibdamjoaa
/- THE CELL 'sum', in the pinned program and in every row, IS THE sha256 OF THE DUMP (.gsa) THAT YtapgimibdamjoaaProg.lean LOADS. Nothing in Lean hashes anything: it is a label: what it is worth is what the hold of that sum in a sandbox is worth. -/
noncomputable def Try.pinned : Pinned := { name := "ytapgimibdamjoaa", sum := "d8eaf6eef255bf73a225b97f5303749ea00fe5f9d42dcbd67dd147522252076e", checked := Try.checked }
namespace Rows
def none {H : Type} : Left H := { results := [], args := [] }

/-- 'ablautlaw22.LearnValidates': WHATEVER THE INPUT: true; the input reads as it did. -/
def learnValidatesSpec : ChangeSpec := { name := "learnValidates", fn := fun _ => fun
  | [d1, d2] => { results := [.lit (.bool true)], args := [d1, d2] }
  | _ => none }
def learnValidatesRow : OpenClaim := { program := "ytapgimibdamjoaa", sum := "d8eaf6eef255bf73a225b97f5303749ea00fe5f9d42dcbd67dd147522252076e", func := "ablaut/ablautlaw22.LearnValidates", spec := "learnValidates", unfollowed := true, recurses := true, plainKeys := false, apart := false }
def LearnValidatesSaid : Prop := learnValidatesRow.holds Try.pinned (OpenSpec.ofChange learnValidatesSpec)

/-- ITS FALSE NEIGHBOUR: 'it returns false'. Refute it at one input. -/
def learnValidatesWrong : ChangeSpec := { name := "learnValidates", fn := fun _ => fun
  | [d1, d2] => { results := [.lit (.bool false)], args := [d1, d2] }
  | _ => none }
def LearnValidatesWrongFalsely : Prop := learnValidatesRow.holds Try.pinned (OpenSpec.ofChange learnValidatesWrong)

/-- 'ablautlaw22.LearnGains': WHATEVER THE INPUT: true; the input reads as it did. -/
def learnGainsSpec : ChangeSpec := { name := "learnGains", fn := fun _ => fun
  | [d1, d2] => { results := [.lit (.bool true)], args := [d1, d2] }
  | _ => none }
def learnGainsRow : OpenClaim := { program := "ytapgimibdamjoaa", sum := "d8eaf6eef255bf73a225b97f5303749ea00fe5f9d42dcbd67dd147522252076e", func := "ablaut/ablautlaw22.LearnGains", spec := "learnGains", unfollowed := true, recurses := true, plainKeys := false, apart := false }
def LearnGainsSaid : Prop := learnGainsRow.holds Try.pinned (OpenSpec.ofChange learnGainsSpec)

/-- ITS FALSE NEIGHBOUR: 'it returns false'. Refute it at one input. -/
def learnGainsWrong : ChangeSpec := { name := "learnGains", fn := fun _ => fun
  | [d1, d2] => { results := [.lit (.bool false)], args := [d1, d2] }
  | _ => none }
def LearnGainsWrongFalsely : Prop := learnGainsRow.holds Try.pinned (OpenSpec.ofChange learnGainsWrong)

/-- 'ablautlaw22.LearnApplies': WHATEVER THE INPUT: true; the input reads as it did. -/
def learnAppliesSpec : ChangeSpec := { name := "learnApplies", fn := fun _ => fun
  | [d1, d2, d3] => { results := [.lit (.bool true)], args := [d1, d2, d3] }
  | _ => none }
def learnAppliesRow : OpenClaim := { program := "ytapgimibdamjoaa", sum := "d8eaf6eef255bf73a225b97f5303749ea00fe5f9d42dcbd67dd147522252076e", func := "ablaut/ablautlaw22.LearnApplies", spec := "learnApplies", unfollowed := true, recurses := true, plainKeys := false, apart := false }
def LearnAppliesSaid : Prop := learnAppliesRow.holds Try.pinned (OpenSpec.ofChange learnAppliesSpec)

/-- ITS FALSE NEIGHBOUR: 'it returns false'. Refute it at one input. -/
def learnAppliesWrong : ChangeSpec := { name := "learnApplies", fn := fun _ => fun
  | [d1, d2, d3] => { results := [.lit (.bool false)], args := [d1, d2, d3] }
  | _ => none }
def LearnAppliesWrongFalsely : Prop := learnAppliesRow.holds Try.pinned (OpenSpec.ofChange learnAppliesWrong)

/-- 'ablautlaw22.LearnLearns': WHATEVER THE INPUT: true; the input reads as it did. -/
def learnLearnsSpec : ChangeSpec := { name := "learnLearns", fn := fun _ => fun
  | [d1, d2, d3] => { results := [.lit (.bool true)], args := [d1, d2, d3] }
  | _ => none }
def learnLearnsRow : OpenClaim := { program := "ytapgimibdamjoaa", sum := "d8eaf6eef255bf73a225b97f5303749ea00fe5f9d42dcbd67dd147522252076e", func := "ablaut/ablautlaw22.LearnLearns", spec := "learnLearns", unfollowed := true, recurses := true, plainKeys := false, apart := false }
def LearnLearnsSaid : Prop := learnLearnsRow.holds Try.pinned (OpenSpec.ofChange learnLearnsSpec)

/-- ITS FALSE NEIGHBOUR: 'it returns false'. Refute it at one input. -/
def learnLearnsWrong : ChangeSpec := { name := "learnLearns", fn := fun _ => fun
  | [d1, d2, d3] => { results := [.lit (.bool false)], args := [d1, d2, d3] }
  | _ => none }
def LearnLearnsWrongFalsely : Prop := learnLearnsRow.holds Try.pinned (OpenSpec.ofChange learnLearnsWrong)

/-- 'ablautlaw22.LearnRuns': WHATEVER THE INPUT: true; the input reads as it did. -/
def learnRunsSpec : ChangeSpec := { name := "learnRuns", fn := fun _ => fun
  | [d1, d2, d3] => { results := [.lit (.bool true)], args := [d1, d2, d3] }
  | _ => none }
def learnRunsRow : OpenClaim := { program := "ytapgimibdamjoaa", sum := "d8eaf6eef255bf73a225b97f5303749ea00fe5f9d42dcbd67dd147522252076e", func := "ablaut/ablautlaw22.LearnRuns", spec := "learnRuns", unfollowed := true, recurses := true, plainKeys := false, apart := false }
def LearnRunsSaid : Prop := learnRunsRow.holds Try.pinned (OpenSpec.ofChange learnRunsSpec)

/-- ITS FALSE NEIGHBOUR: 'it returns false'. Refute it at one input. -/
def learnRunsWrong : ChangeSpec := { name := "learnRuns", fn := fun _ => fun
  | [d1, d2, d3] => { results := [.lit (.bool false)], args := [d1, d2, d3] }
  | _ => none }
def LearnRunsWrongFalsely : Prop := learnRunsRow.holds Try.pinned (OpenSpec.ofChange learnRunsWrong)

/-- 'ablautlaw22.LearnPrunes': WHATEVER THE INPUT: true; the input reads as it did. -/
def learnPrunesSpec : ChangeSpec := { name := "learnPrunes", fn := fun _ => fun
  | [d1, d2] => { results := [.lit (.bool true)], args := [d1, d2] }
  | _ => none }
def learnPrunesRow : OpenClaim := { program := "ytapgimibdamjoaa", sum := "d8eaf6eef255bf73a225b97f5303749ea00fe5f9d42dcbd67dd147522252076e", func := "ablaut/ablautlaw22.LearnPrunes", spec := "learnPrunes", unfollowed := true, recurses := true, plainKeys := false, apart := false }
def LearnPrunesSaid : Prop := learnPrunesRow.holds Try.pinned (OpenSpec.ofChange learnPrunesSpec)

/-- ITS FALSE NEIGHBOUR: 'it returns false'. Refute it at one input. -/
def learnPrunesWrong : ChangeSpec := { name := "learnPrunes", fn := fun _ => fun
  | [d1, d2] => { results := [.lit (.bool false)], args := [d1, d2] }
  | _ => none }
def LearnPrunesWrongFalsely : Prop := learnPrunesRow.holds Try.pinned (OpenSpec.ofChange learnPrunesWrong)

/-- 'ablautlaw22.LearnFalls': WHATEVER THE INPUT: true; the input reads as it did. -/
def learnFallsSpec : ChangeSpec := { name := "learnFalls", fn := fun _ => fun
  | [d1, d2, d3] => { results := [.lit (.bool true)], args := [d1, d2, d3] }
  | _ => none }
def learnFallsRow : OpenClaim := { program := "ytapgimibdamjoaa", sum := "d8eaf6eef255bf73a225b97f5303749ea00fe5f9d42dcbd67dd147522252076e", func := "ablaut/ablautlaw22.LearnFalls", spec := "learnFalls", unfollowed := true, recurses := true, plainKeys := false, apart := false }
def LearnFallsSaid : Prop := learnFallsRow.holds Try.pinned (OpenSpec.ofChange learnFallsSpec)

/-- ITS FALSE NEIGHBOUR: 'it returns false'. Refute it at one input. -/
def learnFallsWrong : ChangeSpec := { name := "learnFalls", fn := fun _ => fun
  | [d1, d2, d3] => { results := [.lit (.bool false)], args := [d1, d2, d3] }
  | _ => none }
def LearnFallsWrongFalsely : Prop := learnFallsRow.holds Try.pinned (OpenSpec.ofChange learnFallsWrong)

/- THE SECOND FORM. 'bulk': how many values and letters a reading holds, each counted each time it is reached (what is shared counts as often as it is met; a slice's spare places count too). A statement '..UptoSaid' is the law's where the arguments, and the package variables that the reading takes, are together of bulk at most 1048576: NARROWER than '..Said'. Prove '..Said' where nothing that the law and all that it calls make is longer than what came in: it says more and counts as full. Else prove '..UptoSaid'. A law counts once. -/
mutual
def uptoBulk {H : Type} : DataW H → Nat
  | .lit (.string bytes) => bytes.length + 1
  | .lit _ => 1
  | .nil => 1
  | .ptr d => uptoBulk d + 1
  | .slice elems spare => uptoBulkAll elems + uptoBulkAll spare + 1
  | .agg parts => uptoBulkAll parts + 1
  | .iface _ d => uptoBulk d + 1
  | .map entries => uptoBulkEntries entries + 1
  | .held _ => 1
def uptoBulkAll {H : Type} : List (DataW H) → Nat
  | [] => 0
  | d :: r => uptoBulk d + uptoBulkAll r
def uptoBulkEntries {H : Type} : List (Lit × DataW H) → Nat
  | [] => 0
  | x :: r => uptoBulkEntry x + uptoBulkEntries r
def uptoBulkEntry {H : Type} : Lit × DataW H → Nat
  | (.string bytes, d) => bytes.length + uptoBulk d + 1
  | (_, d) => uptoBulk d + 1
 end
def uptoSmall : (H : Type) → List (DataW H) → Bool := fun _ ds => decide (uptoBulkAll ds ≤ 1048576)
def OpenSpec.upto (s : _root_.Go.ChangeSpec) : _root_.Go.OpenSpec := { _root_.Go.OpenSpec.ofChange s with cond := some uptoSmall }

/-- 'ablautlaw22.LearnValidates', WHERE WHAT IT READS IS OF BULK AT MOST 1048576: true; the input reads as it did. -/
def learnValidatesUptoRow : OpenClaim := { program := "ytapgimibdamjoaa", sum := "d8eaf6eef255bf73a225b97f5303749ea00fe5f9d42dcbd67dd147522252076e", func := "ablaut/ablautlaw22.LearnValidates", spec := "learnValidates", unfollowed := true, recurses := true, plainKeys := false, apart := false, narrowed := true }
def LearnValidatesUptoSaid : Prop := learnValidatesUptoRow.holds Try.pinned (OpenSpec.upto learnValidatesSpec)

/-- 'ablautlaw22.LearnGains', WHERE WHAT IT READS IS OF BULK AT MOST 1048576: true; the input reads as it did. -/
def learnGainsUptoRow : OpenClaim := { program := "ytapgimibdamjoaa", sum := "d8eaf6eef255bf73a225b97f5303749ea00fe5f9d42dcbd67dd147522252076e", func := "ablaut/ablautlaw22.LearnGains", spec := "learnGains", unfollowed := true, recurses := true, plainKeys := false, apart := false, narrowed := true }
def LearnGainsUptoSaid : Prop := learnGainsUptoRow.holds Try.pinned (OpenSpec.upto learnGainsSpec)

/-- 'ablautlaw22.LearnApplies', WHERE WHAT IT READS IS OF BULK AT MOST 1048576: true; the input reads as it did. -/
def learnAppliesUptoRow : OpenClaim := { program := "ytapgimibdamjoaa", sum := "d8eaf6eef255bf73a225b97f5303749ea00fe5f9d42dcbd67dd147522252076e", func := "ablaut/ablautlaw22.LearnApplies", spec := "learnApplies", unfollowed := true, recurses := true, plainKeys := false, apart := false, narrowed := true }
def LearnAppliesUptoSaid : Prop := learnAppliesUptoRow.holds Try.pinned (OpenSpec.upto learnAppliesSpec)

/-- 'ablautlaw22.LearnLearns', WHERE WHAT IT READS IS OF BULK AT MOST 1048576: true; the input reads as it did. -/
def learnLearnsUptoRow : OpenClaim := { program := "ytapgimibdamjoaa", sum := "d8eaf6eef255bf73a225b97f5303749ea00fe5f9d42dcbd67dd147522252076e", func := "ablaut/ablautlaw22.LearnLearns", spec := "learnLearns", unfollowed := true, recurses := true, plainKeys := false, apart := false, narrowed := true }
def LearnLearnsUptoSaid : Prop := learnLearnsUptoRow.holds Try.pinned (OpenSpec.upto learnLearnsSpec)

/-- 'ablautlaw22.LearnRuns', WHERE WHAT IT READS IS OF BULK AT MOST 1048576: true; the input reads as it did. -/
def learnRunsUptoRow : OpenClaim := { program := "ytapgimibdamjoaa", sum := "d8eaf6eef255bf73a225b97f5303749ea00fe5f9d42dcbd67dd147522252076e", func := "ablaut/ablautlaw22.LearnRuns", spec := "learnRuns", unfollowed := true, recurses := true, plainKeys := false, apart := false, narrowed := true }
def LearnRunsUptoSaid : Prop := learnRunsUptoRow.holds Try.pinned (OpenSpec.upto learnRunsSpec)

/-- 'ablautlaw22.LearnPrunes', WHERE WHAT IT READS IS OF BULK AT MOST 1048576: true; the input reads as it did. -/
def learnPrunesUptoRow : OpenClaim := { program := "ytapgimibdamjoaa", sum := "d8eaf6eef255bf73a225b97f5303749ea00fe5f9d42dcbd67dd147522252076e", func := "ablaut/ablautlaw22.LearnPrunes", spec := "learnPrunes", unfollowed := true, recurses := true, plainKeys := false, apart := false, narrowed := true }
def LearnPrunesUptoSaid : Prop := learnPrunesUptoRow.holds Try.pinned (OpenSpec.upto learnPrunesSpec)

/-- 'ablautlaw22.LearnFalls', WHERE WHAT IT READS IS OF BULK AT MOST 1048576: true; the input reads as it did. -/
def learnFallsUptoRow : OpenClaim := { program := "ytapgimibdamjoaa", sum := "d8eaf6eef255bf73a225b97f5303749ea00fe5f9d42dcbd67dd147522252076e", func := "ablaut/ablautlaw22.LearnFalls", spec := "learnFalls", unfollowed := true, recurses := true, plainKeys := false, apart := false, narrowed := true }
def LearnFallsUptoSaid : Prop := learnFallsUptoRow.holds Try.pinned (OpenSpec.upto learnFallsSpec)

end Rows
end Go.Proofs.Ytapgimibdamjoaa
