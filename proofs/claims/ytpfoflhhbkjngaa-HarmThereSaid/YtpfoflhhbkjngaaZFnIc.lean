/- Two words are among the pairs that are joined to what they are joined to: plainly. -/
import Derived.Test.YtpfoflhhbkjngaaZFnIb
set_option linter.unusedVariables false
set_option linter.unusedSimpArgs false
namespace Go.Proofs.Ytpfoflhhbkjngaa.Ev
open Go Go.Proofs

theorem bestJ_ends (a b : List Str) : ∀ (l : List Joint), endB a (bestJ a b l).1 = true ∧ begB b (bestJ a b l).2.1 = true ∧ (bestJ a b l = zJ ∨ bestJ a b l ∈ l) := by
  refine snoc_rec ?_ fun l x ih => ?_
  · refine ⟨?_, ?_, .inl rfl⟩
    · show endB a [] = true
      rw [endB]; simp
    · show begB b [] = true
      rw [begB]; simp
  · have e : bestJ a b (l ++ [x]) = pickJ a b (bestJ a b l) x := by simp [bestJ]
    rw [e, pickJ]
    split
    · rename_i h
      simp only [Bool.and_eq_true] at h
      exact ⟨h.1.1, h.1.2, .inr (by simp)⟩
    · exact ⟨ih.1, ih.2.1, ih.2.2.imp id fun h => by simp [h]⟩
theorem there_in {l : List Joint} {a b w : List Str} (hw : w = joinL l a b) (ha : 0 < a.length) (hb : 0 < b.length) (ha2 : a.length ≤ 60) (hb2 : b.length ≤ 60) : (a, b) ∈ insAll cmpPr (candR l w) := by
  obtain ⟨h1, h2, h3⟩ := bestJ_ends a b l
  rw [(insAll_ok cmp_cmpPr _).2]
  simp only [candR, onePr, List.mem_flatMap, List.mem_map, List.mem_filter, List.mem_range, List.mem_append, List.mem_singleton]
  have hj : w = a.take (a.length - (bestJ a b l).1.length) ++ ((bestJ a b l).2.2 ++ b.drop (bestJ a b l).2.1.length) := hw
  generalize bestJ a b l = j at *
  simp only [endB, begB, Bool.and_eq_true, decide_eq_true_eq] at h1 h2
  have hp : (a.take (a.length - j.1.length)).length = a.length - j.1.length := by rw [List.length_take]; omega
  have e1 : w.take (a.length - j.1.length) = a.take (a.length - j.1.length) := by rw [hj]; exact List.take_left' hp
  have e2 : w.drop (a.length - j.1.length) = j.2.2 ++ b.drop j.2.1.length := by rw [hj]; exact List.drop_left' hp
  have e3 : w.drop (a.length - j.1.length + j.2.2.length) = b.drop j.2.1.length := by rw [← List.drop_drop, e2]; exact List.drop_left' rfl
  have hl : w.length = (a.length - j.1.length) + (j.2.2.length + (b.length - j.2.1.length)) := by rw [hj, List.length_append, hp, List.length_append, List.length_drop]
  have ec : cutPr j w (a.length - j.1.length) = (a, b) := by
    rw [cutPr, e1, e3]
    refine Prod.ext ?_ ?_
    · show a.take (a.length - j.1.length) ++ j.1 = a
      conv => rhs; rw [← List.take_append_drop (a.length - j.1.length) a]
      rw [h1.2]
    · show j.2.1 ++ b.drop j.2.1.length = b
      conv => rhs; rw [← List.take_append_drop j.2.1.length b]
      rw [h2.2]
  refine ⟨j, h3.symm, a.length - j.1.length, ⟨by omega, ?_⟩, ec⟩
  rw [Bool.and_eq_true]
  refine ⟨?_, ?_⟩
  · simp only [fitsPr, Bool.and_eq_true, decide_eq_true_eq]
    exact ⟨by omega, by rw [e2]; exact List.take_left' rfl⟩
  · rw [ec]
    simp only [okPr, Bool.and_eq_true, decide_eq_true_eq]
    exact ⟨⟨⟨⟨ha, hb⟩, ha2⟩, hb2⟩, hw.symm⟩
end Go.Proofs.Ytpfoflhhbkjngaa.Ev
