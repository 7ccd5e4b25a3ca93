/- What slices.CompactFunc does, plainly. -/
import Derived.Test.YtpfoflhhbkjngaaZFnIb
set_option linter.unusedVariables false
set_option linter.unusedSimpArgs false
namespace Go.Proofs.Ytpfoflhhbkjngaa.Ev
open Go Go.Proofs
section
variable {α : Type} {kk : Nat} [Enc α kk] {c : α → α → Int}
theorem dedC_succ {l : List α} {i : Nat} (h1 : 1 ≤ i) (h : i < l.length) : dedC c (l.take (i + 1)) = dedC c (l.take i) ++ if c (nth l i) (nth l (i - 1)) = 0 then [] else [nth l i] := by
  obtain ⟨i, rfl⟩ : ∃ j, i = j + 1 := ⟨i - 1, by omega⟩
  cases l with
  | nil => simp at h
  | cons x l =>
    have hi : i < l.length := by simpa using h
    rw [List.take_succ_cons, List.take_succ_cons, dedC, dedC, List.take_add_one, nth_get? hi]
    have e : lastD x (l.take i) = nth (x :: l) i := by
      cases i with
      | zero => rfl
      | succ i =>
        rw [lastD_get, nth_succ]
        rw [List.getLast_eq_getElem]
        rw [nth_eq (by omega)]
        simp only [List.length_cons, List.length_take, Nat.add_sub_cancel]
        have : min (i + 1) l.length = i + 1 := by omega
        simp [this]
    rw [Option.toList_some, ddC_snoc, e, nth_succ, Nat.add_sub_cancel]
    rfl
theorem dedC_short {l : List α} (h : l.length < 2) : dedC c l = l := by
  match l, h with
  | [], _ => rfl
  | [x], _ => rfl
  | _ :: _ :: _, h => simp at h; omega
def cmpX (c : α → α → Int) (s : List α) (i0 : Nat) : Nat → List α × Nat
  | 0 => (s, i0)
  | k + 1 => if c (nth s (i0 + k + 1)) (nth s (i0 + k)) = 0 then cmpX c s i0 k else ((cmpX c s i0 k).1.set (cmpX c s i0 k).2 (nth s (i0 + k + 1)), (cmpX c s i0 k).2 + 1)
theorem cmpX_ok {s : List α} {i0 : Nat} (h0 : 1 ≤ i0) (hd : dedC c (s.take i0) = s.take i0) (hq : c (nth s i0) (nth s (i0 - 1)) = 0) : ∀ k, i0 + k < s.length →
    (cmpX c s i0 k).1.length = s.length ∧ (cmpX c s i0 k).2 ≤ i0 + k ∧ 1 ≤ (cmpX c s i0 k).2 ∧ (cmpX c s i0 k).1.take (cmpX c s i0 k).2 = dedC c (s.take (i0 + k + 1)) ∧ (cmpX c s i0 k).1.drop (i0 + k) = s.drop (i0 + k)
  | 0, hk => by
    have := dedC_succ (c := c) h0 hk
    rw [if_pos hq, List.append_nil, hd] at this
    exact ⟨rfl, Nat.le_refl _, h0, this.symm, rfl⟩
  | k + 1, hk => by
    obtain ⟨a1, a2, a3, a4, a5⟩ := cmpX_ok h0 hd hq k (by omega)
    have hs := dedC_succ (c := c) (l := s) (i := i0 + k + 1) (by omega) (by omega)
    rw [show i0 + k + 1 - 1 = i0 + k from rfl] at hs
    have a6 : (cmpX c s i0 k).1.drop (i0 + (k + 1)) = s.drop (i0 + (k + 1)) := by
      have := congrArg (List.drop 1) a5
      rwa [List.drop_drop, List.drop_drop] at this
    by_cases h : c (nth s (i0 + k + 1)) (nth s (i0 + k)) = 0
    · rw [if_pos h, List.append_nil] at hs
      rw [cmpX, if_pos h]
      exact ⟨a1, by omega, a3, by rw [a4]; exact hs.symm, a6⟩
    · rw [if_neg h] at hs
      rw [cmpX, if_neg h]
      refine ⟨by rw [List.length_set]; exact a1, by show _ + 1 ≤ _; omega, Nat.succ_le_succ (Nat.zero_le _), ?_, ?_⟩
      · show ((cmpX c s i0 k).1.set _ _).take ((cmpX c s i0 k).2 + 1) = dedC c (s.take (i0 + k + 1 + 1))
        rw [hs, ← a4, List.take_add_one, List.take_set_of_le (Nat.le_refl _), List.getElem?_set_self (by rw [a1]; omega)]; rfl
      · show ((cmpX c s i0 k).1.set _ _).drop _ = _
        rw [List.drop_set_of_lt (by omega)]; exact a6
theorem cmpX_nth {s : List α} {i0 : Nat} (h0 : 1 ≤ i0) (hd : dedC c (s.take i0) = s.take i0) (hq : c (nth s i0) (nth s (i0 - 1)) = 0) (k : Nat) (hk : i0 + k < s.length) {j : Nat} (hj : i0 + k ≤ j) : nth (cmpX c s i0 k).1 j = nth s j := by
  obtain ⟨a1, a2, a3, a4, a5⟩ := cmpX_ok h0 hd hq k hk
  have : ∀ t : List α, nth t j = nth (t.drop (i0 + k)) (j - (i0 + k)) := fun t => by
    simp only [nth, List.getD_eq_getElem?_getD, List.getElem?_drop]
    congr 2; omega
  rw [this, a5, ← this]
end
end Go.Proofs.Ytpfoflhhbkjngaa.Ev
