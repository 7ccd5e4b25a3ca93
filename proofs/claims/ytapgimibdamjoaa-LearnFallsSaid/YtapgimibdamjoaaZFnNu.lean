/- Four laws: LearnValidates, LearnGains, LearnApplies, LearnRuns. -/
import Derived.Test.YtapgimibdamjoaaZFnNt
set_option linter.unusedVariables false
set_option linter.unusedSimpArgs false
namespace Go.Proofs.Ytapgimibdamjoaa.Ev
open Go Go.Proofs Go.RowKit

/-- ablaut/ablautlaw22.LearnValidates: 2 parameters, 0 captured -/
def s3 : SC := .seq (.reg [o1 4 (.mv (cB false))])
  (.seq (.seq (.reg [o1 5 (.mv (.t 0)),
     o1 6 (.call (.f 10) [(.t 5)]),
     o1 7 (.mv (.t 6)),
     oF 8 (.mv (.t 1)) 7,
     oF 9 (.call (.f 11) [(.t 8)]) 7,
     o1 10 (.pick (.t 7) (cB true) (.t 9))])
    (.cond (.t 10) (.seq (.reg [o1 11 (.call (.f 12) []),
       o1 4 (.mv (.t 11))])
      (.ret)) (.skip)))
   (.seq (.reg [o1 12 (.mv (.t 0)),
     o1 13 (.call (.f 13) [(.t 12)]),
     o1 14 (.mv (.t 0)),
     o1 15 (.call (.f 14) [(.t 14)]),
     o1 16 (.bin .eql (.t 13) (.t 15)),
     o1 17 (.mv (.t 16)),
     oT 18 (.mv (.t 1)) 17,
     oT 19 (.call (.f 15) [(.t 18)]) 17,
     oT 20 (.mv (.t 1)) 17,
     oT 21 (.call (.f 16) [(.t 20)]) 17,
     oT 22 (.bin .eql (.t 19) (.t 21)) 17,
     o1 23 (.pick (.t 17) (.t 22) (cB false)),
     o1 24 (.mv (.t 23)),
     oT 25 (.call (.f 12) []) 24,
     o1 26 (.pick (.t 24) (.t 25) (cB false)),
     o1 4 (.mv (.t 26))])
    (.ret)))
/-! ### what comes in is small -/
theorem smT_of {l : List Str} {n : Nat} (h : l.length * n ≤ 140737488351232 ∧ ∀ s ∈ l, s.size ≤ 140737488351232) : ∀ s ∈ l, s.size ≤ 4611686018427387904 := fun s hs => by have := h.2 s hs; omega
theorem smL_of {l : List Lesson} {m n1 n2 n3 : Nat} (h : l.length * m ≤ 140737488351232 ∧ ∀ a ∈ l, (a.1.length * n1 ≤ 140737488351232 ∧ ∀ s ∈ a.1, s.size ≤ 140737488351232) ∧ (a.2.1.length * n2 ≤ 140737488351232 ∧ ∀ s ∈ a.2.1, s.size ≤ 140737488351232) ∧ (a.2.2.length * n3 ≤ 140737488351232 ∧ ∀ s ∈ a.2.2, s.size ≤ 140737488351232)) : SmLs l := fun x hx =>
  ⟨smT_of (h.2 x hx).1, smT_of (h.2 x hx).2.1, smT_of (h.2 x hx).2.2⟩
end Go.Proofs.Ytapgimibdamjoaa.Ev
