/- What it costs to put two lists of lengths together: the table, plainly. -/
import Derived.Test.YtedbjmonfbpefaaZFnTd
set_option linter.unusedVariables false
set_option linter.unusedSimpArgs false
namespace Go.Proofs.Ytedbjmonfbpefaa.Ev
open Go Go.Proofs Go.RowKit

theorem put_fold1 {α : Type} {q : Nat} [Enc α q] (l : List α) (i : Nat) (x : α) : l.take i ++ [x] ++ l.drop (i + 1) = putAt l i x := by simp [putAt]
theorem nth_putC {α : Type} {k : Nat} [Enc α k] {l : List α} {i j : Nat} (h : i < l.length) (x : α) : nth (putAt l i x) j = if j = i then x else nth l j := by
  rw [putAt_set h]
  unfold nth
  rw [List.getD_eq_getElem?_getD, List.getElem?_set, List.getD_eq_getElem?_getD]
  by_cases e : i = j
  · subst e; simp [h]
  · rw [if_neg e, if_neg (Ne.symm e)]
/-- Whether a bead fits at two places. -/
def fitsB (a b : List Int) (i k : Nat) (x : Bead) : Prop := i + x.1.toNat ≤ a.length ∧ k + x.2.toNat ≤ b.length
instance (a b : List Int) (i k : Nat) (x : Bead) : Decidable (fitsB a b i k x) := by unfold fitsB; exact inferInstance
def absI (n : Int) : Int := max n (-n)
def diffB (a b : List Int) (i k : Nat) (x : Bead) : Int := totI ((a.drop i).take x.1.toNat) - totI ((b.drop k).take x.2.toNat)
def costB (a b : List Int) (s : Int) (i k : Nat) (x : Bead) : Int := if x.1 ≠ 1 ∨ x.2 ≠ 1 then absI (diffB a b i k x) + s else absI (diffB a b i k x)
/-- The least, in turn. -/
def minB (r c : Int) : Int := if r < 0 ∨ c < r then c else r
def foldB (a b : List Int) (s : Int) (t : Nat → Nat → Int) (i k : Nat) : List Bead → Int → Int
  | [], r => r
  | x :: l, r => foldB a b s t i k l (if fitsB a b i k x then minB r (costB a b s i k x + t (i + x.1.toNat) (k + x.2.toNat)) else r)
def begB (a b : List Int) (i k : Nat) : Int := if i = a.length ∧ k = b.length then 0 else -1
def stepB (a b : List Int) (s : Int) (t : Nat → Nat → Int) (i k : Nat) : Int := foldB a b s t i k beads (begB a b i k)
def tabN (a b : List Int) (s : Int) : Nat → Nat → Nat → Int
  | 0 => fun _ _ => -1
  | n + 1 => stepB a b s (tabN a b s n)
def tab (a b : List Int) (s : Int) (i k : Nat) : Int := tabN a b s ((a.length - i) + (b.length - k) + 1) i k
theorem foldB_eq {a b : List Int} {s : Int} {t u : Nat → Nat → Int} {i k : Nat} : ∀ {l : List Bead} {r : Int}, (∀ x ∈ l, fitsB a b i k x → t (i + x.1.toNat) (k + x.2.toNat) = u (i + x.1.toNat) (k + x.2.toNat)) → foldB a b s t i k l r = foldB a b s u i k l r
  | [], _, _ => rfl
  | x :: l, r, h => by
    rw [foldB, foldB, foldB_eq fun y hy => h y (List.mem_cons_of_mem _ hy)]
    by_cases hf : fitsB a b i k x
    · rw [if_pos hf, if_pos hf, h x List.mem_cons_self hf]
    · rw [if_neg hf, if_neg hf]
theorem beads_pos {x : Bead} (h : x ∈ beads) : 1 ≤ x.1.toNat + x.2.toNat ∧ x.1.toNat ≤ 2 ∧ x.2.toNat ≤ 2 ∧ 0 ≤ x.1 ∧ 0 ≤ x.2 := by
  simp only [beads, List.mem_cons, List.not_mem_nil, or_false] at h
  rcases h with rfl | rfl | rfl | rfl | rfl | rfl <;> decide
theorem tabN_eq {a b : List Int} {s : Int} : ∀ (n m i k : Nat), i ≤ a.length → k ≤ b.length → (a.length - i) + (b.length - k) < n → (a.length - i) + (b.length - k) < m → tabN a b s n i k = tabN a b s m i k
  | 0, _, _, _, _, _, h, _ => absurd h (Nat.not_lt_zero _)
  | n + 1, 0, _, _, _, _, _, h => absurd h (Nat.not_lt_zero _)
  | n + 1, m + 1, i, k, hi, hk, h1, h2 => by
    show foldB a b s (tabN a b s n) i k beads _ = foldB a b s (tabN a b s m) i k beads _
    refine foldB_eq fun x hx hf => ?_
    obtain ⟨p1, p2, p3, _⟩ := beads_pos hx
    obtain ⟨f1, f2⟩ := hf
    exact tabN_eq n m _ _ f1 f2 (by omega) (by omega)
theorem tab_eq {a b : List Int} {s : Int} {i k : Nat} (hi : i ≤ a.length) (hk : k ≤ b.length) : tab a b s i k = stepB a b s (tab a b s) i k := by
  show foldB a b s (tabN a b s ((a.length - i) + (b.length - k))) i k beads _ = foldB a b s (tab a b s) i k beads _
  refine foldB_eq fun x hx hf => ?_
  obtain ⟨p1, p2, p3, _⟩ := beads_pos hx
  obtain ⟨f1, f2⟩ := hf
  exact tabN_eq _ _ _ _ f1 f2 (by omega) (by omega)
end Go.Proofs.Ytedbjmonfbpefaa.Ev
