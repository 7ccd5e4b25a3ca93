/-
  No cell of these rows narrows 'for every input' (looked for: loops, veiled, ifaces, maps, wideKeys, modest, calm, conditions, laid).
  DERIVED. THE GIVEN ROWS OF THIS SEAT. 11 by the template 'for every input the law returns true; each argument reads behind the call as it read before'; 0 by the template 'total and deterministic' (their statements: YtedbjmonfbpefaaTotals.lean).
  GIVEN WITH THE SEED: the statements are not yours to turn. If you find one false, say at which input.
  Laid BY PROGRAM, IN A SANDBOX (cutbox-rows.mjs): the forced cells as the released guide's own fill.sh prints them over the translation 390fcbd5f8204fe0… (all of the seat's roots in one cut). By AI agents, Wed Nov 11 2026. No macro, syntax, notation, axiom, sorry.
-/
import Derived.Test.YtedbjmonfbpefaaChecked
import GoSem.Claim
import GoSem.ClaimJoined
import GoSem.ClaimMapViews
import Derived.JoinedTies
import Derived.KernelRfl
namespace Go.Proofs.Ytedbjmonfbpefaa
/- THE CELL 'sum', in the pinned program and in every row, IS THE sha256 OF THE DUMP (.gsa) THAT YtedbjmonfbpefaaProg.lean LOADS. Nothing in Lean hashes anything: it is a label: what it is worth is what the hold of that sum in a sandbox is worth. -/
noncomputable def Try.pinned : Pinned := { name := "ytedbjmonfbpefaa", sum := "390fcbd5f8204fe016399d5b5ad15fd0b7130bb8180f3cc889457dbab85ef3b1", checked := Try.checked }
namespace Rows
def none {H : Type} : Left H := { results := [], args := [] }

/-- 'ablautlaw27.TallySums': WHATEVER THE INPUT: true; the input reads as it did. -/
def tallySumsSpec : ChangeSpec := { name := "tallySums", fn := fun _ => fun
  | [d1, d2, d3] => { results := [.lit (.bool true)], args := [d1, d2, d3] }
  | _ => none }
def tallySumsRow : OpenClaim := { program := "ytedbjmonfbpefaa", sum := "390fcbd5f8204fe016399d5b5ad15fd0b7130bb8180f3cc889457dbab85ef3b1", func := "ablaut/ablautlaw27.TallySums", spec := "tallySums", plainKeys := false, apart := false }
def TallySumsSaid : Prop := tallySumsRow.holds Try.pinned (OpenSpec.ofChange tallySumsSpec)

/-- ITS FALSE NEIGHBOUR: 'it returns false'. Refute it at one input. -/
def tallySumsWrong : ChangeSpec := { name := "tallySums", fn := fun _ => fun
  | [d1, d2, d3] => { results := [.lit (.bool false)], args := [d1, d2, d3] }
  | _ => none }
def TallySumsWrongFalsely : Prop := tallySumsRow.holds Try.pinned (OpenSpec.ofChange tallySumsWrong)

/-- 'ablautlaw27.TallyChances': WHATEVER THE INPUT: true; the input reads as it did. -/
def tallyChancesSpec : ChangeSpec := { name := "tallyChances", fn := fun _ => fun
  | [d1, d2, d3] => { results := [.lit (.bool true)], args := [d1, d2, d3] }
  | _ => none }
def tallyChancesRow : OpenClaim := { program := "ytedbjmonfbpefaa", sum := "390fcbd5f8204fe016399d5b5ad15fd0b7130bb8180f3cc889457dbab85ef3b1", func := "ablaut/ablautlaw27.TallyChances", spec := "tallyChances", plainKeys := false, apart := false }
def TallyChancesSaid : Prop := tallyChancesRow.holds Try.pinned (OpenSpec.ofChange tallyChancesSpec)

/-- ITS FALSE NEIGHBOUR: 'it returns false'. Refute it at one input. -/
def tallyChancesWrong : ChangeSpec := { name := "tallyChances", fn := fun _ => fun
  | [d1, d2, d3] => { results := [.lit (.bool false)], args := [d1, d2, d3] }
  | _ => none }
def TallyChancesWrongFalsely : Prop := tallyChancesRow.holds Try.pinned (OpenSpec.ofChange tallyChancesWrong)

/-- 'ablautlaw27.TallyCompares': WHATEVER THE INPUT: true; the input reads as it did. -/
def tallyComparesSpec : ChangeSpec := { name := "tallyCompares", fn := fun _ => fun
  | [d1, d2] => { results := [.lit (.bool true)], args := [d1, d2] }
  | _ => none }
def tallyComparesRow : OpenClaim := { program := "ytedbjmonfbpefaa", sum := "390fcbd5f8204fe016399d5b5ad15fd0b7130bb8180f3cc889457dbab85ef3b1", func := "ablaut/ablautlaw27.TallyCompares", spec := "tallyCompares", plainKeys := false, apart := false }
def TallyComparesSaid : Prop := tallyComparesRow.holds Try.pinned (OpenSpec.ofChange tallyComparesSpec)

/-- ITS FALSE NEIGHBOUR: 'it returns false'. Refute it at one input. -/
def tallyComparesWrong : ChangeSpec := { name := "tallyCompares", fn := fun _ => fun
  | [d1, d2] => { results := [.lit (.bool false)], args := [d1, d2] }
  | _ => none }
def TallyComparesWrongFalsely : Prop := tallyComparesRow.holds Try.pinned (OpenSpec.ofChange tallyComparesWrong)

/-- 'ablautlaw27.TallyAligns': WHATEVER THE INPUT: true; the input reads as it did. -/
def tallyAlignsSpec : ChangeSpec := { name := "tallyAligns", fn := fun _ => fun
  | [d1, d2, d3] => { results := [.lit (.bool true)], args := [d1, d2, d3] }
  | _ => none }
def tallyAlignsRow : OpenClaim := { program := "ytedbjmonfbpefaa", sum := "390fcbd5f8204fe016399d5b5ad15fd0b7130bb8180f3cc889457dbab85ef3b1", func := "ablaut/ablautlaw27.TallyAligns", spec := "tallyAligns", unfollowed := true, recurses := true, plainKeys := false, apart := false }
def TallyAlignsSaid : Prop := tallyAlignsRow.holds Try.pinned (OpenSpec.ofChange tallyAlignsSpec)

/-- ITS FALSE NEIGHBOUR: 'it returns false'. Refute it at one input. -/
def tallyAlignsWrong : ChangeSpec := { name := "tallyAligns", fn := fun _ => fun
  | [d1, d2, d3] => { results := [.lit (.bool false)], args := [d1, d2, d3] }
  | _ => none }
def TallyAlignsWrongFalsely : Prop := tallyAlignsRow.holds Try.pinned (OpenSpec.ofChange tallyAlignsWrong)

/-- 'ablautlaw27.TallyUses': WHATEVER THE INPUT: true; the input reads as it did. -/
def tallyUsesSpec : ChangeSpec := { name := "tallyUses", fn := fun _ => fun
  | [d1, d2, d3] => { results := [.lit (.bool true)], args := [d1, d2, d3] }
  | _ => none }
def tallyUsesRow : OpenClaim := { program := "ytedbjmonfbpefaa", sum := "390fcbd5f8204fe016399d5b5ad15fd0b7130bb8180f3cc889457dbab85ef3b1", func := "ablaut/ablautlaw27.TallyUses", spec := "tallyUses", unfollowed := true, recurses := true, plainKeys := false, apart := false }
def TallyUsesSaid : Prop := tallyUsesRow.holds Try.pinned (OpenSpec.ofChange tallyUsesSpec)

/-- ITS FALSE NEIGHBOUR: 'it returns false'. Refute it at one input. -/
def tallyUsesWrong : ChangeSpec := { name := "tallyUses", fn := fun _ => fun
  | [d1, d2, d3] => { results := [.lit (.bool false)], args := [d1, d2, d3] }
  | _ => none }
def TallyUsesWrongFalsely : Prop := tallyUsesRow.holds Try.pinned (OpenSpec.ofChange tallyUsesWrong)

/-- 'ablautlaw27.TallySmooths': WHATEVER THE INPUT: true; the input reads as it did. -/
def tallySmoothsSpec : ChangeSpec := { name := "tallySmooths", fn := fun _ => fun
  | [d1, d2] => { results := [.lit (.bool true)], args := [d1, d2] }
  | _ => none }
def tallySmoothsRow : OpenClaim := { program := "ytedbjmonfbpefaa", sum := "390fcbd5f8204fe016399d5b5ad15fd0b7130bb8180f3cc889457dbab85ef3b1", func := "ablaut/ablautlaw27.TallySmooths", spec := "tallySmooths", unfollowed := true, recurses := true, plainKeys := false, apart := false }
def TallySmoothsSaid : Prop := tallySmoothsRow.holds Try.pinned (OpenSpec.ofChange tallySmoothsSpec)

/-- ITS FALSE NEIGHBOUR: 'it returns false'. Refute it at one input. -/
def tallySmoothsWrong : ChangeSpec := { name := "tallySmooths", fn := fun _ => fun
  | [d1, d2] => { results := [.lit (.bool false)], args := [d1, d2] }
  | _ => none }
def TallySmoothsWrongFalsely : Prop := tallySmoothsRow.holds Try.pinned (OpenSpec.ofChange tallySmoothsWrong)

/-- 'ablautlaw27.TallyKeywords': WHATEVER THE INPUT: true; the input reads as it did. -/
def tallyKeywordsSpec : ChangeSpec := { name := "tallyKeywords", fn := fun _ => fun
  | [d1, d2] => { results := [.lit (.bool true)], args := [d1, d2] }
  | _ => none }
def tallyKeywordsRow : OpenClaim := { program := "ytedbjmonfbpefaa", sum := "390fcbd5f8204fe016399d5b5ad15fd0b7130bb8180f3cc889457dbab85ef3b1", func := "ablaut/ablautlaw27.TallyKeywords", spec := "tallyKeywords", unfollowed := true, recurses := true, plainKeys := false, apart := false }
def TallyKeywordsSaid : Prop := tallyKeywordsRow.holds Try.pinned (OpenSpec.ofChange tallyKeywordsSpec)

/-- ITS FALSE NEIGHBOUR: 'it returns false'. Refute it at one input. -/
def tallyKeywordsWrong : ChangeSpec := { name := "tallyKeywords", fn := fun _ => fun
  | [d1, d2] => { results := [.lit (.bool false)], args := [d1, d2] }
  | _ => none }
def TallyKeywordsWrongFalsely : Prop := tallyKeywordsRow.holds Try.pinned (OpenSpec.ofChange tallyKeywordsWrong)

/-- 'ablautlaw27.TallyGrams': WHATEVER THE INPUT: true; the input reads as it did. -/
def tallyGramsSpec : ChangeSpec := { name := "tallyGrams", fn := fun _ => fun
  | [d1, d2] => { results := [.lit (.bool true)], args := [d1, d2] }
  | _ => none }
def tallyGramsRow : OpenClaim := { program := "ytedbjmonfbpefaa", sum := "390fcbd5f8204fe016399d5b5ad15fd0b7130bb8180f3cc889457dbab85ef3b1", func := "ablaut/ablautlaw27.TallyGrams", spec := "tallyGrams", unfollowed := true, recurses := true, plainKeys := false, apart := false }
def TallyGramsSaid : Prop := tallyGramsRow.holds Try.pinned (OpenSpec.ofChange tallyGramsSpec)

/-- ITS FALSE NEIGHBOUR: 'it returns false'. Refute it at one input. -/
def tallyGramsWrong : ChangeSpec := { name := "tallyGrams", fn := fun _ => fun
  | [d1, d2] => { results := [.lit (.bool false)], args := [d1, d2] }
  | _ => none }
def TallyGramsWrongFalsely : Prop := tallyGramsRow.holds Try.pinned (OpenSpec.ofChange tallyGramsWrong)

/-- 'ablautlaw27.TallyMerges': WHATEVER THE INPUT: true; the input reads as it did. -/
def tallyMergesSpec : ChangeSpec := { name := "tallyMerges", fn := fun _ => fun
  | [d1, d2] => { results := [.lit (.bool true)], args := [d1, d2] }
  | _ => none }
def tallyMergesRow : OpenClaim := { program := "ytedbjmonfbpefaa", sum := "390fcbd5f8204fe016399d5b5ad15fd0b7130bb8180f3cc889457dbab85ef3b1", func := "ablaut/ablautlaw27.TallyMerges", spec := "tallyMerges", unfollowed := true, recurses := true, plainKeys := false, apart := false }
def TallyMergesSaid : Prop := tallyMergesRow.holds Try.pinned (OpenSpec.ofChange tallyMergesSpec)

/-- ITS FALSE NEIGHBOUR: 'it returns false'. Refute it at one input. -/
def tallyMergesWrong : ChangeSpec := { name := "tallyMerges", fn := fun _ => fun
  | [d1, d2] => { results := [.lit (.bool false)], args := [d1, d2] }
  | _ => none }
def TallyMergesWrongFalsely : Prop := tallyMergesRow.holds Try.pinned (OpenSpec.ofChange tallyMergesWrong)

/-- 'ablautlaw27.TallyOrders': WHATEVER THE INPUT: true; the input reads as it did. -/
def tallyOrdersSpec : ChangeSpec := { name := "tallyOrders", fn := fun _ => fun
  | [d1, d2, d3] => { results := [.lit (.bool true)], args := [d1, d2, d3] }
  | _ => none }
def tallyOrdersRow : OpenClaim := { program := "ytedbjmonfbpefaa", sum := "390fcbd5f8204fe016399d5b5ad15fd0b7130bb8180f3cc889457dbab85ef3b1", func := "ablaut/ablautlaw27.TallyOrders", spec := "tallyOrders", unfollowed := true, recurses := true, plainKeys := false, apart := false }
def TallyOrdersSaid : Prop := tallyOrdersRow.holds Try.pinned (OpenSpec.ofChange tallyOrdersSpec)

/-- ITS FALSE NEIGHBOUR: 'it returns false'. Refute it at one input. -/
def tallyOrdersWrong : ChangeSpec := { name := "tallyOrders", fn := fun _ => fun
  | [d1, d2, d3] => { results := [.lit (.bool false)], args := [d1, d2, d3] }
  | _ => none }
def TallyOrdersWrongFalsely : Prop := tallyOrdersRow.holds Try.pinned (OpenSpec.ofChange tallyOrdersWrong)

/-- 'ablautlaw27.TallyPairs': WHATEVER THE INPUT: true; the input reads as it did. -/
def tallyPairsSpec : ChangeSpec := { name := "tallyPairs", fn := fun _ => fun
  | [d1, d2, d3] => { results := [.lit (.bool true)], args := [d1, d2, d3] }
  | _ => none }
def tallyPairsRow : OpenClaim := { program := "ytedbjmonfbpefaa", sum := "390fcbd5f8204fe016399d5b5ad15fd0b7130bb8180f3cc889457dbab85ef3b1", func := "ablaut/ablautlaw27.TallyPairs", spec := "tallyPairs", unfollowed := true, recurses := true, plainKeys := false, apart := false }
def TallyPairsSaid : Prop := tallyPairsRow.holds Try.pinned (OpenSpec.ofChange tallyPairsSpec)

/-- ITS FALSE NEIGHBOUR: 'it returns false'. Refute it at one input. -/
def tallyPairsWrong : ChangeSpec := { name := "tallyPairs", fn := fun _ => fun
  | [d1, d2, d3] => { results := [.lit (.bool false)], args := [d1, d2, d3] }
  | _ => none }
def TallyPairsWrongFalsely : Prop := tallyPairsRow.holds Try.pinned (OpenSpec.ofChange tallyPairsWrong)

/- THE SECOND FORM. 'bulk': how many values and letters a reading holds, each counted each time it is reached (what is shared counts as often as it is met; a slice's spare places count too). A statement '..UptoSaid' is the law's where the arguments, and the package variables that the reading takes, are together of bulk at most 1048576: NARROWER than '..Said'. Prove '..Said' where nothing that the law and all that it calls make is longer than what came in: it says more and counts as full. Else prove '..UptoSaid'. A law counts once. -/
mutual
def uptoBulk {H : Type} : DataW H → Nat
  | .lit (.string bytes) => bytes.length + 1
  | .lit _ => 1
  | .nil => 1
  | .ptr d => uptoBulk d + 1
  | .slice elems spare => uptoBulkAll elems + uptoBulkAll spare + 1
  | .agg parts => uptoBulkAll parts + 1
  | .iface _ d => uptoBulk d + 1
  | .map entries => uptoBulkEntries entries + 1
  | .held _ => 1
def uptoBulkAll {H : Type} : List (DataW H) → Nat
  | [] => 0
  | d :: r => uptoBulk d + uptoBulkAll r
def uptoBulkEntries {H : Type} : List (Lit × DataW H) → Nat
  | [] => 0
  | x :: r => uptoBulkEntry x + uptoBulkEntries r
def uptoBulkEntry {H : Type} : Lit × DataW H → Nat
  | (.string bytes, d) => bytes.length + uptoBulk d + 1
  | (_, d) => uptoBulk d + 1
 end
def uptoSmall : (H : Type) → List (DataW H) → Bool := fun _ ds => decide (uptoBulkAll ds ≤ 1048576)
def OpenSpec.upto (s : _root_.Go.ChangeSpec) : _root_.Go.OpenSpec := { _root_.Go.OpenSpec.ofChange s with cond := some uptoSmall }

/-- 'ablautlaw27.TallySums', WHERE WHAT IT READS IS OF BULK AT MOST 1048576: true; the input reads as it did. -/
def tallySumsUptoRow : OpenClaim := { program := "ytedbjmonfbpefaa", sum := "390fcbd5f8204fe016399d5b5ad15fd0b7130bb8180f3cc889457dbab85ef3b1", func := "ablaut/ablautlaw27.TallySums", spec := "tallySums", plainKeys := false, apart := false, narrowed := true }
def TallySumsUptoSaid : Prop := tallySumsUptoRow.holds Try.pinned (OpenSpec.upto tallySumsSpec)

/-- 'ablautlaw27.TallyChances', WHERE WHAT IT READS IS OF BULK AT MOST 1048576: true; the input reads as it did. -/
def tallyChancesUptoRow : OpenClaim := { program := "ytedbjmonfbpefaa", sum := "390fcbd5f8204fe016399d5b5ad15fd0b7130bb8180f3cc889457dbab85ef3b1", func := "ablaut/ablautlaw27.TallyChances", spec := "tallyChances", plainKeys := false, apart := false, narrowed := true }
def TallyChancesUptoSaid : Prop := tallyChancesUptoRow.holds Try.pinned (OpenSpec.upto tallyChancesSpec)

/-- 'ablautlaw27.TallyCompares', WHERE WHAT IT READS IS OF BULK AT MOST 1048576: true; the input reads as it did. -/
def tallyComparesUptoRow : OpenClaim := { program := "ytedbjmonfbpefaa", sum := "390fcbd5f8204fe016399d5b5ad15fd0b7130bb8180f3cc889457dbab85ef3b1", func := "ablaut/ablautlaw27.TallyCompares", spec := "tallyCompares", plainKeys := false, apart := false, narrowed := true }
def TallyComparesUptoSaid : Prop := tallyComparesUptoRow.holds Try.pinned (OpenSpec.upto tallyComparesSpec)

/-- 'ablautlaw27.TallyAligns', WHERE WHAT IT READS IS OF BULK AT MOST 1048576: true; the input reads as it did. -/
def tallyAlignsUptoRow : OpenClaim := { program := "ytedbjmonfbpefaa", sum := "390fcbd5f8204fe016399d5b5ad15fd0b7130bb8180f3cc889457dbab85ef3b1", func := "ablaut/ablautlaw27.TallyAligns", spec := "tallyAligns", unfollowed := true, recurses := true, plainKeys := false, apart := false, narrowed := true }
def TallyAlignsUptoSaid : Prop := tallyAlignsUptoRow.holds Try.pinned (OpenSpec.upto tallyAlignsSpec)

/-- 'ablautlaw27.TallyUses', WHERE WHAT IT READS IS OF BULK AT MOST 1048576: true; the input reads as it did. -/
def tallyUsesUptoRow : OpenClaim := { program := "ytedbjmonfbpefaa", sum := "390fcbd5f8204fe016399d5b5ad15fd0b7130bb8180f3cc889457dbab85ef3b1", func := "ablaut/ablautlaw27.TallyUses", spec := "tallyUses", unfollowed := true, recurses := true, plainKeys := false, apart := false, narrowed := true }
def TallyUsesUptoSaid : Prop := tallyUsesUptoRow.holds Try.pinned (OpenSpec.upto tallyUsesSpec)

/-- 'ablautlaw27.TallySmooths', WHERE WHAT IT READS IS OF BULK AT MOST 1048576: true; the input reads as it did. -/
def tallySmoothsUptoRow : OpenClaim := { program := "ytedbjmonfbpefaa", sum := "390fcbd5f8204fe016399d5b5ad15fd0b7130bb8180f3cc889457dbab85ef3b1", func := "ablaut/ablautlaw27.TallySmooths", spec := "tallySmooths", unfollowed := true, recurses := true, plainKeys := false, apart := false, narrowed := true }
def TallySmoothsUptoSaid : Prop := tallySmoothsUptoRow.holds Try.pinned (OpenSpec.upto tallySmoothsSpec)

/-- 'ablautlaw27.TallyKeywords', WHERE WHAT IT READS IS OF BULK AT MOST 1048576: true; the input reads as it did. -/
def tallyKeywordsUptoRow : OpenClaim := { program := "ytedbjmonfbpefaa", sum := "390fcbd5f8204fe016399d5b5ad15fd0b7130bb8180f3cc889457dbab85ef3b1", func := "ablaut/ablautlaw27.TallyKeywords", spec := "tallyKeywords", unfollowed := true, recurses := true, plainKeys := false, apart := false, narrowed := true }
def TallyKeywordsUptoSaid : Prop := tallyKeywordsUptoRow.holds Try.pinned (OpenSpec.upto tallyKeywordsSpec)

/-- 'ablautlaw27.TallyGrams', WHERE WHAT IT READS IS OF BULK AT MOST 1048576: true; the input reads as it did. -/
def tallyGramsUptoRow : OpenClaim := { program := "ytedbjmonfbpefaa", sum := "390fcbd5f8204fe016399d5b5ad15fd0b7130bb8180f3cc889457dbab85ef3b1", func := "ablaut/ablautlaw27.TallyGrams", spec := "tallyGrams", unfollowed := true, recurses := true, plainKeys := false, apart := false, narrowed := true }
def TallyGramsUptoSaid : Prop := tallyGramsUptoRow.holds Try.pinned (OpenSpec.upto tallyGramsSpec)

/-- 'ablautlaw27.TallyMerges', WHERE WHAT IT READS IS OF BULK AT MOST 1048576: true; the input reads as it did. -/
def tallyMergesUptoRow : OpenClaim := { program := "ytedbjmonfbpefaa", sum := "390fcbd5f8204fe016399d5b5ad15fd0b7130bb8180f3cc889457dbab85ef3b1", func := "ablaut/ablautlaw27.TallyMerges", spec := "tallyMerges", unfollowed := true, recurses := true, plainKeys := false, apart := false, narrowed := true }
def TallyMergesUptoSaid : Prop := tallyMergesUptoRow.holds Try.pinned (OpenSpec.upto tallyMergesSpec)

/-- 'ablautlaw27.TallyOrders', WHERE WHAT IT READS IS OF BULK AT MOST 1048576: true; the input reads as it did. -/
def tallyOrdersUptoRow : OpenClaim := { program := "ytedbjmonfbpefaa", sum := "390fcbd5f8204fe016399d5b5ad15fd0b7130bb8180f3cc889457dbab85ef3b1", func := "ablaut/ablautlaw27.TallyOrders", spec := "tallyOrders", unfollowed := true, recurses := true, plainKeys := false, apart := false, narrowed := true }
def TallyOrdersUptoSaid : Prop := tallyOrdersUptoRow.holds Try.pinned (OpenSpec.upto tallyOrdersSpec)

/-- 'ablautlaw27.TallyPairs', WHERE WHAT IT READS IS OF BULK AT MOST 1048576: true; the input reads as it did. -/
def tallyPairsUptoRow : OpenClaim := { program := "ytedbjmonfbpefaa", sum := "390fcbd5f8204fe016399d5b5ad15fd0b7130bb8180f3cc889457dbab85ef3b1", func := "ablaut/ablautlaw27.TallyPairs", spec := "tallyPairs", unfollowed := true, recurses := true, plainKeys := false, apart := false, narrowed := true }
def TallyPairsUptoSaid : Prop := tallyPairsUptoRow.holds Try.pinned (OpenSpec.upto tallyPairsSpec)

end Rows
end Go.Proofs.Ytedbjmonfbpefaa
