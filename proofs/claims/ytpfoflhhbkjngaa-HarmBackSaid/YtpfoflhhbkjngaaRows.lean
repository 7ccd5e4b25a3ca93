/-
  No cell of these rows narrows 'for every input' (looked for: loops, veiled, ifaces, maps, wideKeys, modest, calm, conditions, laid).
  DERIVED. THE GIVEN ROWS OF THIS SEAT. 13 by the template 'for every input the law returns true; each argument reads behind the call as it read before'; 0 by the template 'total and deterministic' (their statements: YtpfoflhhbkjngaaTotals.lean).
  GIVEN WITH THE SEED: the statements are not yours to turn. If you find one false, say at which input.
  Laid BY PROGRAM, IN A SANDBOX (cutbox-rows.mjs): the forced cells as the released guide's own fill.sh prints them over the translation a92b6b7ff2931dd9… (all of the seat's roots in one cut). By AI agents, Wed Nov 11 2026. No macro, syntax, notation, axiom, sorry.
-/
import Derived.Test.YtpfoflhhbkjngaaChecked
import GoSem.Claim
import GoSem.ClaimJoined
import GoSem.ClaimMapViews
import Derived.JoinedTies
import Derived.KernelRfl
namespace Go.Proofs.Ytpfoflhhbkjngaa
/- THE CELL 'sum', in the pinned program and in every row, IS THE sha256 OF THE DUMP (.gsa) THAT YtpfoflhhbkjngaaProg.lean LOADS. Nothing in Lean hashes anything: it is a label: what it is worth is what the hold of that sum in a sandbox is worth. -/
noncomputable def Try.pinned : Pinned := { name := "ytpfoflhhbkjngaa", sum := "a92b6b7ff2931dd9ccdb9fbc0a7014a6db508107f4504b399bf1e431405290a1", checked := Try.checked }
namespace Rows
def none {H : Type} : Left H := { results := [], args := [] }

/-- 'ablautlaw13.HarmWeaves': WHATEVER THE INPUT: true; the input reads as it did. -/
def harmWeavesSpec : ChangeSpec := { name := "harmWeaves", fn := fun _ => fun
  | [d1, d2, d3] => { results := [.lit (.bool true)], args := [d1, d2, d3] }
  | _ => none }
def harmWeavesRow : OpenClaim := { program := "ytpfoflhhbkjngaa", sum := "a92b6b7ff2931dd9ccdb9fbc0a7014a6db508107f4504b399bf1e431405290a1", func := "ablaut/ablautlaw13.HarmWeaves", spec := "harmWeaves", unfollowed := true, recurses := true, apart := false }
def HarmWeavesSaid : Prop := harmWeavesRow.holds Try.pinned (OpenSpec.ofChange harmWeavesSpec)

/-- ITS FALSE NEIGHBOUR: 'it returns false'. Refute it at one input. -/
def harmWeavesWrong : ChangeSpec := { name := "harmWeaves", fn := fun _ => fun
  | [d1, d2, d3] => { results := [.lit (.bool false)], args := [d1, d2, d3] }
  | _ => none }
def HarmWeavesWrongFalsely : Prop := harmWeavesRow.holds Try.pinned (OpenSpec.ofChange harmWeavesWrong)

/-- 'ablautlaw13.HarmUnweaves': WHATEVER THE INPUT: true; the input reads as it did. -/
def harmUnweavesSpec : ChangeSpec := { name := "harmUnweaves", fn := fun _ => fun
  | [d1, d2] => { results := [.lit (.bool true)], args := [d1, d2] }
  | _ => none }
def harmUnweavesRow : OpenClaim := { program := "ytpfoflhhbkjngaa", sum := "a92b6b7ff2931dd9ccdb9fbc0a7014a6db508107f4504b399bf1e431405290a1", func := "ablaut/ablautlaw13.HarmUnweaves", spec := "harmUnweaves", unfollowed := true, recurses := true, apart := false }
def HarmUnweavesSaid : Prop := harmUnweavesRow.holds Try.pinned (OpenSpec.ofChange harmUnweavesSpec)

/-- ITS FALSE NEIGHBOUR: 'it returns false'. Refute it at one input. -/
def harmUnweavesWrong : ChangeSpec := { name := "harmUnweaves", fn := fun _ => fun
  | [d1, d2] => { results := [.lit (.bool false)], args := [d1, d2] }
  | _ => none }
def HarmUnweavesWrongFalsely : Prop := harmUnweavesRow.holds Try.pinned (OpenSpec.ofChange harmUnweavesWrong)

/-- 'ablautlaw13.HarmSyllables': WHATEVER THE INPUT: true; the input reads as it did. -/
def harmSyllablesSpec : ChangeSpec := { name := "harmSyllables", fn := fun _ => fun
  | [d1, d2] => { results := [.lit (.bool true)], args := [d1, d2] }
  | _ => none }
def harmSyllablesRow : OpenClaim := { program := "ytpfoflhhbkjngaa", sum := "a92b6b7ff2931dd9ccdb9fbc0a7014a6db508107f4504b399bf1e431405290a1", func := "ablaut/ablautlaw13.HarmSyllables", spec := "harmSyllables", unfollowed := true, recurses := true, apart := false }
def HarmSyllablesSaid : Prop := harmSyllablesRow.holds Try.pinned (OpenSpec.ofChange harmSyllablesSpec)

/-- ITS FALSE NEIGHBOUR: 'it returns false'. Refute it at one input. -/
def harmSyllablesWrong : ChangeSpec := { name := "harmSyllables", fn := fun _ => fun
  | [d1, d2] => { results := [.lit (.bool false)], args := [d1, d2] }
  | _ => none }
def HarmSyllablesWrongFalsely : Prop := harmSyllablesRow.holds Try.pinned (OpenSpec.ofChange harmSyllablesWrong)

/-- 'ablautlaw13.HarmCuts': WHATEVER THE INPUT: true; the input reads as it did. -/
def harmCutsSpec : ChangeSpec := { name := "harmCuts", fn := fun _ => fun
  | [d1, d2] => { results := [.lit (.bool true)], args := [d1, d2] }
  | _ => none }
def harmCutsRow : OpenClaim := { program := "ytpfoflhhbkjngaa", sum := "a92b6b7ff2931dd9ccdb9fbc0a7014a6db508107f4504b399bf1e431405290a1", func := "ablaut/ablautlaw13.HarmCuts", spec := "harmCuts", unfollowed := true, recurses := true, apart := false }
def HarmCutsSaid : Prop := harmCutsRow.holds Try.pinned (OpenSpec.ofChange harmCutsSpec)

/-- ITS FALSE NEIGHBOUR: 'it returns false'. Refute it at one input. -/
def harmCutsWrong : ChangeSpec := { name := "harmCuts", fn := fun _ => fun
  | [d1, d2] => { results := [.lit (.bool false)], args := [d1, d2] }
  | _ => none }
def HarmCutsWrongFalsely : Prop := harmCutsRow.holds Try.pinned (OpenSpec.ofChange harmCutsWrong)

/-- 'ablautlaw13.HarmJoins': WHATEVER THE INPUT: true; the input reads as it did. -/
def harmJoinsSpec : ChangeSpec := { name := "harmJoins", fn := fun _ => fun
  | [d1, d2, d3] => { results := [.lit (.bool true)], args := [d1, d2, d3] }
  | _ => none }
def harmJoinsRow : OpenClaim := { program := "ytpfoflhhbkjngaa", sum := "a92b6b7ff2931dd9ccdb9fbc0a7014a6db508107f4504b399bf1e431405290a1", func := "ablaut/ablautlaw13.HarmJoins", spec := "harmJoins", unfollowed := true, recurses := true, apart := false }
def HarmJoinsSaid : Prop := harmJoinsRow.holds Try.pinned (OpenSpec.ofChange harmJoinsSpec)

/-- ITS FALSE NEIGHBOUR: 'it returns false'. Refute it at one input. -/
def harmJoinsWrong : ChangeSpec := { name := "harmJoins", fn := fun _ => fun
  | [d1, d2, d3] => { results := [.lit (.bool false)], args := [d1, d2, d3] }
  | _ => none }
def HarmJoinsWrongFalsely : Prop := harmJoinsRow.holds Try.pinned (OpenSpec.ofChange harmJoinsWrong)

/-- 'ablautlaw13.HarmInfixes': WHATEVER THE INPUT: true; the input reads as it did. -/
def harmInfixesSpec : ChangeSpec := { name := "harmInfixes", fn := fun _ => fun
  | [d1, d2, d3] => { results := [.lit (.bool true)], args := [d1, d2, d3] }
  | _ => none }
def harmInfixesRow : OpenClaim := { program := "ytpfoflhhbkjngaa", sum := "a92b6b7ff2931dd9ccdb9fbc0a7014a6db508107f4504b399bf1e431405290a1", func := "ablaut/ablautlaw13.HarmInfixes", spec := "harmInfixes", unfollowed := true, recurses := true, apart := false }
def HarmInfixesSaid : Prop := harmInfixesRow.holds Try.pinned (OpenSpec.ofChange harmInfixesSpec)

/-- ITS FALSE NEIGHBOUR: 'it returns false'. Refute it at one input. -/
def harmInfixesWrong : ChangeSpec := { name := "harmInfixes", fn := fun _ => fun
  | [d1, d2, d3] => { results := [.lit (.bool false)], args := [d1, d2, d3] }
  | _ => none }
def HarmInfixesWrongFalsely : Prop := harmInfixesRow.holds Try.pinned (OpenSpec.ofChange harmInfixesWrong)

/-- 'ablautlaw13.HarmGrades': WHATEVER THE INPUT: true; the input reads as it did. -/
def harmGradesSpec : ChangeSpec := { name := "harmGrades", fn := fun _ => fun
  | [d1, d2, d3] => { results := [.lit (.bool true)], args := [d1, d2, d3] }
  | _ => none }
def harmGradesRow : OpenClaim := { program := "ytpfoflhhbkjngaa", sum := "a92b6b7ff2931dd9ccdb9fbc0a7014a6db508107f4504b399bf1e431405290a1", func := "ablaut/ablautlaw13.HarmGrades", spec := "harmGrades", unfollowed := true, recurses := true, apart := false }
def HarmGradesSaid : Prop := harmGradesRow.holds Try.pinned (OpenSpec.ofChange harmGradesSpec)

/-- ITS FALSE NEIGHBOUR: 'it returns false'. Refute it at one input. -/
def harmGradesWrong : ChangeSpec := { name := "harmGrades", fn := fun _ => fun
  | [d1, d2, d3] => { results := [.lit (.bool false)], args := [d1, d2, d3] }
  | _ => none }
def HarmGradesWrongFalsely : Prop := harmGradesRow.holds Try.pinned (OpenSpec.ofChange harmGradesWrong)

/-- 'ablautlaw13.HarmDoubles': WHATEVER THE INPUT: true; the input reads as it did. -/
def harmDoublesSpec : ChangeSpec := { name := "harmDoubles", fn := fun _ => fun
  | [d1, d2, d3] => { results := [.lit (.bool true)], args := [d1, d2, d3] }
  | _ => none }
def harmDoublesRow : OpenClaim := { program := "ytpfoflhhbkjngaa", sum := "a92b6b7ff2931dd9ccdb9fbc0a7014a6db508107f4504b399bf1e431405290a1", func := "ablaut/ablautlaw13.HarmDoubles", spec := "harmDoubles", unfollowed := true, recurses := true, apart := false }
def HarmDoublesSaid : Prop := harmDoublesRow.holds Try.pinned (OpenSpec.ofChange harmDoublesSpec)

/-- ITS FALSE NEIGHBOUR: 'it returns false'. Refute it at one input. -/
def harmDoublesWrong : ChangeSpec := { name := "harmDoubles", fn := fun _ => fun
  | [d1, d2, d3] => { results := [.lit (.bool false)], args := [d1, d2, d3] }
  | _ => none }
def HarmDoublesWrongFalsely : Prop := harmDoublesRow.holds Try.pinned (OpenSpec.ofChange harmDoublesWrong)

/-- 'ablautlaw13.HarmUndoubles': WHATEVER THE INPUT: true; the input reads as it did. -/
def harmUndoublesSpec : ChangeSpec := { name := "harmUndoubles", fn := fun _ => fun
  | [d1, d2, d3] => { results := [.lit (.bool true)], args := [d1, d2, d3] }
  | _ => none }
def harmUndoublesRow : OpenClaim := { program := "ytpfoflhhbkjngaa", sum := "a92b6b7ff2931dd9ccdb9fbc0a7014a6db508107f4504b399bf1e431405290a1", func := "ablaut/ablautlaw13.HarmUndoubles", spec := "harmUndoubles", unfollowed := true, recurses := true, apart := false }
def HarmUndoublesSaid : Prop := harmUndoublesRow.holds Try.pinned (OpenSpec.ofChange harmUndoublesSpec)

/-- ITS FALSE NEIGHBOUR: 'it returns false'. Refute it at one input. -/
def harmUndoublesWrong : ChangeSpec := { name := "harmUndoubles", fn := fun _ => fun
  | [d1, d2, d3] => { results := [.lit (.bool false)], args := [d1, d2, d3] }
  | _ => none }
def HarmUndoublesWrongFalsely : Prop := harmUndoublesRow.holds Try.pinned (OpenSpec.ofChange harmUndoublesWrong)

/-- 'ablautlaw13.HarmUnjoins': WHATEVER THE INPUT: true; the input reads as it did. -/
def harmUnjoinsSpec : ChangeSpec := { name := "harmUnjoins", fn := fun _ => fun
  | [d1, d2] => { results := [.lit (.bool true)], args := [d1, d2] }
  | _ => none }
def harmUnjoinsRow : OpenClaim := { program := "ytpfoflhhbkjngaa", sum := "a92b6b7ff2931dd9ccdb9fbc0a7014a6db508107f4504b399bf1e431405290a1", func := "ablaut/ablautlaw13.HarmUnjoins", spec := "harmUnjoins", unfollowed := true, recurses := true, apart := false }
def HarmUnjoinsSaid : Prop := harmUnjoinsRow.holds Try.pinned (OpenSpec.ofChange harmUnjoinsSpec)

/-- ITS FALSE NEIGHBOUR: 'it returns false'. Refute it at one input. -/
def harmUnjoinsWrong : ChangeSpec := { name := "harmUnjoins", fn := fun _ => fun
  | [d1, d2] => { results := [.lit (.bool false)], args := [d1, d2] }
  | _ => none }
def HarmUnjoinsWrongFalsely : Prop := harmUnjoinsRow.holds Try.pinned (OpenSpec.ofChange harmUnjoinsWrong)

/-- 'ablautlaw13.HarmHarmonies': WHATEVER THE INPUT: true; the input reads as it did. -/
def harmHarmoniesSpec : ChangeSpec := { name := "harmHarmonies", fn := fun _ => fun
  | [d1, d2, d3] => { results := [.lit (.bool true)], args := [d1, d2, d3] }
  | _ => none }
def harmHarmoniesRow : OpenClaim := { program := "ytpfoflhhbkjngaa", sum := "a92b6b7ff2931dd9ccdb9fbc0a7014a6db508107f4504b399bf1e431405290a1", func := "ablaut/ablautlaw13.HarmHarmonies", spec := "harmHarmonies", unfollowed := true, recurses := true, apart := false }
def HarmHarmoniesSaid : Prop := harmHarmoniesRow.holds Try.pinned (OpenSpec.ofChange harmHarmoniesSpec)

/-- ITS FALSE NEIGHBOUR: 'it returns false'. Refute it at one input. -/
def harmHarmoniesWrong : ChangeSpec := { name := "harmHarmonies", fn := fun _ => fun
  | [d1, d2, d3] => { results := [.lit (.bool false)], args := [d1, d2, d3] }
  | _ => none }
def HarmHarmoniesWrongFalsely : Prop := harmHarmoniesRow.holds Try.pinned (OpenSpec.ofChange harmHarmoniesWrong)

/-- 'ablautlaw13.HarmBack': WHATEVER THE INPUT: true; the input reads as it did. -/
def harmBackSpec : ChangeSpec := { name := "harmBack", fn := fun _ => fun
  | [d1, d2, d3] => { results := [.lit (.bool true)], args := [d1, d2, d3] }
  | _ => none }
def harmBackRow : OpenClaim := { program := "ytpfoflhhbkjngaa", sum := "a92b6b7ff2931dd9ccdb9fbc0a7014a6db508107f4504b399bf1e431405290a1", func := "ablaut/ablautlaw13.HarmBack", spec := "harmBack", unfollowed := true, recurses := true, apart := false }
def HarmBackSaid : Prop := harmBackRow.holds Try.pinned (OpenSpec.ofChange harmBackSpec)

/-- ITS FALSE NEIGHBOUR: 'it returns false'. Refute it at one input. -/
def harmBackWrong : ChangeSpec := { name := "harmBack", fn := fun _ => fun
  | [d1, d2, d3] => { results := [.lit (.bool false)], args := [d1, d2, d3] }
  | _ => none }
def HarmBackWrongFalsely : Prop := harmBackRow.holds Try.pinned (OpenSpec.ofChange harmBackWrong)

/-- 'ablautlaw13.HarmThere': WHATEVER THE INPUT: true; the input reads as it did. -/
def harmThereSpec : ChangeSpec := { name := "harmThere", fn := fun _ => fun
  | [d1, d2, d3] => { results := [.lit (.bool true)], args := [d1, d2, d3] }
  | _ => none }
def harmThereRow : OpenClaim := { program := "ytpfoflhhbkjngaa", sum := "a92b6b7ff2931dd9ccdb9fbc0a7014a6db508107f4504b399bf1e431405290a1", func := "ablaut/ablautlaw13.HarmThere", spec := "harmThere", unfollowed := true, recurses := true, apart := false }
def HarmThereSaid : Prop := harmThereRow.holds Try.pinned (OpenSpec.ofChange harmThereSpec)

/-- ITS FALSE NEIGHBOUR: 'it returns false'. Refute it at one input. -/
def harmThereWrong : ChangeSpec := { name := "harmThere", fn := fun _ => fun
  | [d1, d2, d3] => { results := [.lit (.bool false)], args := [d1, d2, d3] }
  | _ => none }
def HarmThereWrongFalsely : Prop := harmThereRow.holds Try.pinned (OpenSpec.ofChange harmThereWrong)

/- THE SECOND FORM. 'bulk': how many values and letters a reading holds, each counted each time it is reached (what is shared counts as often as it is met; a slice's spare places count too). A statement '..UptoSaid' is the law's where the arguments, and the package variables that the reading takes, are together of bulk at most 1048576: NARROWER than '..Said'. Prove '..Said' where nothing that the law and all that it calls make is longer than what came in: it says more and counts as full. Else prove '..UptoSaid'. A law counts once. -/
mutual
def uptoBulk {H : Type} : DataW H → Nat
  | .lit (.string bytes) => bytes.length + 1
  | .lit _ => 1
  | .nil => 1
  | .ptr d => uptoBulk d + 1
  | .slice elems spare => uptoBulkAll elems + uptoBulkAll spare + 1
  | .agg parts => uptoBulkAll parts + 1
  | .iface _ d => uptoBulk d + 1
  | .map entries => uptoBulkEntries entries + 1
  | .held _ => 1
def uptoBulkAll {H : Type} : List (DataW H) → Nat
  | [] => 0
  | d :: r => uptoBulk d + uptoBulkAll r
def uptoBulkEntries {H : Type} : List (Lit × DataW H) → Nat
  | [] => 0
  | x :: r => uptoBulkEntry x + uptoBulkEntries r
def uptoBulkEntry {H : Type} : Lit × DataW H → Nat
  | (.string bytes, d) => bytes.length + uptoBulk d + 1
  | (_, d) => uptoBulk d + 1
 end
def uptoSmall : (H : Type) → List (DataW H) → Bool := fun _ ds => decide (uptoBulkAll ds ≤ 1048576)
def OpenSpec.upto (s : _root_.Go.ChangeSpec) : _root_.Go.OpenSpec := { _root_.Go.OpenSpec.ofChange s with cond := some uptoSmall }

/-- 'ablautlaw13.HarmWeaves', WHERE WHAT IT READS IS OF BULK AT MOST 1048576: true; the input reads as it did. -/
def harmWeavesUptoRow : OpenClaim := { program := "ytpfoflhhbkjngaa", sum := "a92b6b7ff2931dd9ccdb9fbc0a7014a6db508107f4504b399bf1e431405290a1", func := "ablaut/ablautlaw13.HarmWeaves", spec := "harmWeaves", unfollowed := true, recurses := true, apart := false, narrowed := true }
def HarmWeavesUptoSaid : Prop := harmWeavesUptoRow.holds Try.pinned (OpenSpec.upto harmWeavesSpec)

/-- 'ablautlaw13.HarmUnweaves', WHERE WHAT IT READS IS OF BULK AT MOST 1048576: true; the input reads as it did. -/
def harmUnweavesUptoRow : OpenClaim := { program := "ytpfoflhhbkjngaa", sum := "a92b6b7ff2931dd9ccdb9fbc0a7014a6db508107f4504b399bf1e431405290a1", func := "ablaut/ablautlaw13.HarmUnweaves", spec := "harmUnweaves", unfollowed := true, recurses := true, apart := false, narrowed := true }
def HarmUnweavesUptoSaid : Prop := harmUnweavesUptoRow.holds Try.pinned (OpenSpec.upto harmUnweavesSpec)

/-- 'ablautlaw13.HarmSyllables', WHERE WHAT IT READS IS OF BULK AT MOST 1048576: true; the input reads as it did. -/
def harmSyllablesUptoRow : OpenClaim := { program := "ytpfoflhhbkjngaa", sum := "a92b6b7ff2931dd9ccdb9fbc0a7014a6db508107f4504b399bf1e431405290a1", func := "ablaut/ablautlaw13.HarmSyllables", spec := "harmSyllables", unfollowed := true, recurses := true, apart := false, narrowed := true }
def HarmSyllablesUptoSaid : Prop := harmSyllablesUptoRow.holds Try.pinned (OpenSpec.upto harmSyllablesSpec)

/-- 'ablautlaw13.HarmCuts', WHERE WHAT IT READS IS OF BULK AT MOST 1048576: true; the input reads as it did. -/
def harmCutsUptoRow : OpenClaim := { program := "ytpfoflhhbkjngaa", sum := "a92b6b7ff2931dd9ccdb9fbc0a7014a6db508107f4504b399bf1e431405290a1", func := "ablaut/ablautlaw13.HarmCuts", spec := "harmCuts", unfollowed := true, recurses := true, apart := false, narrowed := true }
def HarmCutsUptoSaid : Prop := harmCutsUptoRow.holds Try.pinned (OpenSpec.upto harmCutsSpec)

/-- 'ablautlaw13.HarmJoins', WHERE WHAT IT READS IS OF BULK AT MOST 1048576: true; the input reads as it did. -/
def harmJoinsUptoRow : OpenClaim := { program := "ytpfoflhhbkjngaa", sum := "a92b6b7ff2931dd9ccdb9fbc0a7014a6db508107f4504b399bf1e431405290a1", func := "ablaut/ablautlaw13.HarmJoins", spec := "harmJoins", unfollowed := true, recurses := true, apart := false, narrowed := true }
def HarmJoinsUptoSaid : Prop := harmJoinsUptoRow.holds Try.pinned (OpenSpec.upto harmJoinsSpec)

/-- 'ablautlaw13.HarmInfixes', WHERE WHAT IT READS IS OF BULK AT MOST 1048576: true; the input reads as it did. -/
def harmInfixesUptoRow : OpenClaim := { program := "ytpfoflhhbkjngaa", sum := "a92b6b7ff2931dd9ccdb9fbc0a7014a6db508107f4504b399bf1e431405290a1", func := "ablaut/ablautlaw13.HarmInfixes", spec := "harmInfixes", unfollowed := true, recurses := true, apart := false, narrowed := true }
def HarmInfixesUptoSaid : Prop := harmInfixesUptoRow.holds Try.pinned (OpenSpec.upto harmInfixesSpec)

/-- 'ablautlaw13.HarmGrades', WHERE WHAT IT READS IS OF BULK AT MOST 1048576: true; the input reads as it did. -/
def harmGradesUptoRow : OpenClaim := { program := "ytpfoflhhbkjngaa", sum := "a92b6b7ff2931dd9ccdb9fbc0a7014a6db508107f4504b399bf1e431405290a1", func := "ablaut/ablautlaw13.HarmGrades", spec := "harmGrades", unfollowed := true, recurses := true, apart := false, narrowed := true }
def HarmGradesUptoSaid : Prop := harmGradesUptoRow.holds Try.pinned (OpenSpec.upto harmGradesSpec)

/-- 'ablautlaw13.HarmDoubles', WHERE WHAT IT READS IS OF BULK AT MOST 1048576: true; the input reads as it did. -/
def harmDoublesUptoRow : OpenClaim := { program := "ytpfoflhhbkjngaa", sum := "a92b6b7ff2931dd9ccdb9fbc0a7014a6db508107f4504b399bf1e431405290a1", func := "ablaut/ablautlaw13.HarmDoubles", spec := "harmDoubles", unfollowed := true, recurses := true, apart := false, narrowed := true }
def HarmDoublesUptoSaid : Prop := harmDoublesUptoRow.holds Try.pinned (OpenSpec.upto harmDoublesSpec)

/-- 'ablautlaw13.HarmUndoubles', WHERE WHAT IT READS IS OF BULK AT MOST 1048576: true; the input reads as it did. -/
def harmUndoublesUptoRow : OpenClaim := { program := "ytpfoflhhbkjngaa", sum := "a92b6b7ff2931dd9ccdb9fbc0a7014a6db508107f4504b399bf1e431405290a1", func := "ablaut/ablautlaw13.HarmUndoubles", spec := "harmUndoubles", unfollowed := true, recurses := true, apart := false, narrowed := true }
def HarmUndoublesUptoSaid : Prop := harmUndoublesUptoRow.holds Try.pinned (OpenSpec.upto harmUndoublesSpec)

/-- 'ablautlaw13.HarmUnjoins', WHERE WHAT IT READS IS OF BULK AT MOST 1048576: true; the input reads as it did. -/
def harmUnjoinsUptoRow : OpenClaim := { program := "ytpfoflhhbkjngaa", sum := "a92b6b7ff2931dd9ccdb9fbc0a7014a6db508107f4504b399bf1e431405290a1", func := "ablaut/ablautlaw13.HarmUnjoins", spec := "harmUnjoins", unfollowed := true, recurses := true, apart := false, narrowed := true }
def HarmUnjoinsUptoSaid : Prop := harmUnjoinsUptoRow.holds Try.pinned (OpenSpec.upto harmUnjoinsSpec)

/-- 'ablautlaw13.HarmHarmonies', WHERE WHAT IT READS IS OF BULK AT MOST 1048576: true; the input reads as it did. -/
def harmHarmoniesUptoRow : OpenClaim := { program := "ytpfoflhhbkjngaa", sum := "a92b6b7ff2931dd9ccdb9fbc0a7014a6db508107f4504b399bf1e431405290a1", func := "ablaut/ablautlaw13.HarmHarmonies", spec := "harmHarmonies", unfollowed := true, recurses := true, apart := false, narrowed := true }
def HarmHarmoniesUptoSaid : Prop := harmHarmoniesUptoRow.holds Try.pinned (OpenSpec.upto harmHarmoniesSpec)

/-- 'ablautlaw13.HarmBack', WHERE WHAT IT READS IS OF BULK AT MOST 1048576: true; the input reads as it did. -/
def harmBackUptoRow : OpenClaim := { program := "ytpfoflhhbkjngaa", sum := "a92b6b7ff2931dd9ccdb9fbc0a7014a6db508107f4504b399bf1e431405290a1", func := "ablaut/ablautlaw13.HarmBack", spec := "harmBack", unfollowed := true, recurses := true, apart := false, narrowed := true }
def HarmBackUptoSaid : Prop := harmBackUptoRow.holds Try.pinned (OpenSpec.upto harmBackSpec)

/-- 'ablautlaw13.HarmThere', WHERE WHAT IT READS IS OF BULK AT MOST 1048576: true; the input reads as it did. -/
def harmThereUptoRow : OpenClaim := { program := "ytpfoflhhbkjngaa", sum := "a92b6b7ff2931dd9ccdb9fbc0a7014a6db508107f4504b399bf1e431405290a1", func := "ablaut/ablautlaw13.HarmThere", spec := "harmThere", unfollowed := true, recurses := true, apart := false, narrowed := true }
def HarmThereUptoSaid : Prop := harmThereUptoRow.holds Try.pinned (OpenSpec.upto harmThereSpec)

end Rows
end Go.Proofs.Ytpfoflhhbkjngaa
