/- The syllables of a word. -/
import Derived.Test.YtpfoflhhbkjngaaZFnHb
set_option linter.unusedVariables false
set_option linter.unusedSimpArgs false
namespace Go.Proofs.Ytpfoflhhbkjngaa.Ev
open Go Go.Proofs

section
variable (v : Str → Bool) (lo : Str → Int) (w : List Str)
/-- Where the syllable begins whose vowel stands further on, from k downwards. -/
def cutD (last : Int) : Nat → Nat
  | 0 => 0
  | k + 1 => if last < k ∧ lo (nth w k) < lo (nth w (k + 1)) then cutD last k else k + 1
def cutF (last : Int) (i : Nat) : Nat := if last < (i : Int) - 1 then cutD lo w last (i - 1) else i
/-- Where syllables begin from place i on, n places. -/
def cutsF (i : Nat) (last : Int) : Nat → List Nat
  | 0 => []
  | n + 1 => if v (nth w i) = true then (if 0 ≤ last then cutF lo w last i :: cutsF (i + 1) i n else cutsF (i + 1) i n) else cutsF (i + 1) last n
def pieces (at_ : Nat) : List Nat → List (List Str)
  | [] => [w.drop at_]
  | c :: cs => (w.take c).drop at_ :: pieces c cs
theorem cutD_range (last : Int) : ∀ k : Nat, last < k → last < cutD lo w last k ∧ cutD lo w last k ≤ k
  | 0, h => by simp only [cutD]; omega
  | k + 1, h => by
    simp only [cutD]
    split
    · have := cutD_range last k (by omega); omega
    · omega
theorem cutF_range {last : Int} {i : Nat} (h : last < i) : last < cutF lo w last i ∧ cutF lo w last i ≤ i := by
  unfold cutF
  split
  · have := cutD_range lo w last (i - 1) (by omega); omega
  · omega
end

structure Split (v : Str → Bool) (lo : Str → Int) (w : List Str) (i : Nat) (last : Int) (fr : Nat) (out : List (List Str)) : Prop where
  le : i ≤ w.length
  l1 : -1 ≤ last
  l2 : last < i
  f1 : 0 ≤ last → (fr : Int) ≤ last
  f2 : fr ≤ i
  len : out.length ≤ i
  eq : pieces w 0 (cutsF v lo w 0 (-1) w.length) = out ++ pieces w fr (cutsF v lo w i last (w.length - i))
theorem Split.no {v : Str → Bool} {lo : Str → Int} {w : List Str} {i : Nat} {last : Int} {fr : Nat} {out : List (List Str)} (h : Split v lo w i last fr out) (hi : i < w.length) (hv : v (nth w i) = false) : Split v lo w (i + 1) last fr out := by
  refine ⟨by omega, h.l1, by have := h.l2; omega, h.f1, by have := h.f2; omega, by have := h.len; omega, ?_⟩
  rw [h.eq, show w.length - i = (w.length - (i + 1)) + 1 by omega, cutsF, if_neg (by rw [hv]; simp)]
theorem Split.first {v : Str → Bool} {lo : Str → Int} {w : List Str} {i : Nat} {last : Int} {fr : Nat} {out : List (List Str)} (h : Split v lo w i last fr out) (hi : i < w.length) (hv : v (nth w i) = true) (hl : ¬ 0 ≤ last) : Split v lo w (i + 1) i fr out := by
  refine ⟨by omega, by omega, by omega, fun _ => by have := h.f2; omega, by have := h.f2; omega, by have := h.len; omega, ?_⟩
  rw [h.eq, show w.length - i = (w.length - (i + 1)) + 1 by omega, cutsF, if_pos hv, if_neg hl]
theorem Split.cut {v : Str → Bool} {lo : Str → Int} {w : List Str} {i : Nat} {last : Int} {fr : Nat} {out : List (List Str)} (h : Split v lo w i last fr out) (hi : i < w.length) (hv : v (nth w i) = true) (hl : 0 ≤ last) :
    Split v lo w (i + 1) i (cutF lo w last i) (out ++ [(w.take (cutF lo w last i)).drop fr]) := by
  have hr := cutF_range lo w h.l2
  refine ⟨by omega, by omega, by omega, fun _ => by omega, by omega, by have := h.len; simp; omega, ?_⟩
  rw [h.eq, show w.length - i = (w.length - (i + 1)) + 1 by omega, cutsF, if_pos hv, if_pos hl, pieces]; simp
/-- The cut on its way down. -/
def Down (lo : Str → Int) (w : List Str) (last : Int) (i c : Nat) : Prop := last < c ∧ c ≤ i ∧ (c = i ∨ cutF lo w last i = cutD lo w last c)
theorem Down.step {lo : Str → Int} {w : List Str} {last : Int} {i c : Nat} (h : Down lo w last i c) (hl : 0 ≤ last) (hi : last < i) (h1 : last < (c : Int) - 1) (h2 : c = i ∨ lo (nth w (c - 1)) < lo (nth w c)) : Down lo w last i (c - 1) := by
  obtain ⟨a, b, d⟩ := h
  refine ⟨by omega, by omega, .inr ?_⟩
  by_cases e : c = i
  · subst e; rw [cutF, if_pos h1]
  · rcases d with d | d
    · exact absurd d e
    · rcases h2 with h2 | h2
      · exact absurd h2 e
      · obtain ⟨m, rfl⟩ : ∃ m, c = m + 1 := ⟨c - 1, by omega⟩
        rw [d, cutD, if_pos ⟨by omega, by simpa using h2⟩]; rfl
/-! ### the reference -/
end Go.Proofs.Ytpfoflhhbkjngaa.Ev
