/- What tally.Align costs: bounds. -/
import Derived.Test.YtedbjmonfbpefaaZFnTe
set_option linter.unusedVariables false
set_option linter.unusedSimpArgs false
namespace Go.Proofs.Ytedbjmonfbpefaa.Ev
open Go Go.Proofs Go.RowKit

/-- What of the table stands in the row. -/
def TabR (a b : List Int) (s : Int) (R : List Int) (i k : Nat) : Prop :=
  R.length = 40401 ∧ ∀ p q, p ≤ a.length → q ≤ b.length → (i < p ∨ (p = i ∧ k ≤ q)) → nth R (201 * p + q) = tab a b s p q
theorem foldB_le {a b : List Int} {s : Int} {t : Nat → Nat → Int} {i k : Nat} {M : Int} (h : ∀ x ∈ beads, fitsB a b i k x → -1 ≤ costB a b s i k x + t (i + x.1.toNat) (k + x.2.toNat) ∧ costB a b s i k x + t (i + x.1.toNat) (k + x.2.toNat) ≤ M) : ∀ {l : List Bead} {r : Int}, (∀ x ∈ l, x ∈ beads) → -1 ≤ r → r ≤ M → -1 ≤ foldB a b s t i k l r ∧ foldB a b s t i k l r ≤ M
  | [], _, _, h1, h2 => ⟨h1, h2⟩
  | x :: l, r, hl, h1, h2 => by
    rw [foldB]
    refine foldB_le h (fun y hy => hl y (List.mem_cons_of_mem _ hy)) ?_ ?_
    · split
      · have := h x (hl x List.mem_cons_self) (by assumption)
        rw [minB]; split <;> omega
      · exact h1
    · split
      · have := h x (hl x List.mem_cons_self) (by assumption)
        rw [minB]; split <;> omega
      · exact h2
theorem totI_part {l : List Int} (h : ∀ x ∈ l, 0 ≤ x ∧ x ≤ 1000) (i n : Nat) (hn : n ≤ 2) : 0 ≤ totI ((l.drop i).take n) ∧ totI ((l.drop i).take n) ≤ 2000 := by
  have := totI_le (l := (l.drop i).take n) fun x hx => h x (List.mem_of_mem_drop (List.mem_of_mem_take hx))
  rw [List.length_take] at this
  omega
theorem costB_le {a b : List Int} {s : Int} (ha : ∀ x ∈ a, 0 ≤ x ∧ x ≤ 1000) (hb : ∀ x ∈ b, 0 ≤ x ∧ x ≤ 1000) (hs : 0 ≤ s ∧ s ≤ 1000) (i k : Nat) {x : Bead} (hx : x ∈ beads) : 0 ≤ costB a b s i k x ∧ costB a b s i k x ≤ 3000 := by
  obtain ⟨p1, p2, p3, _⟩ := beads_pos hx
  have h1 := totI_part ha i x.1.toNat p2
  have h2 := totI_part hb k x.2.toNat p3
  rw [costB]
  unfold absI diffB
  split <;> omega
theorem tabN_le {a b : List Int} {s : Int} (ha : ∀ x ∈ a, 0 ≤ x ∧ x ≤ 1000) (hb : ∀ x ∈ b, 0 ≤ x ∧ x ≤ 1000) (hs : 0 ≤ s ∧ s ≤ 1000) : ∀ (n i k : Nat), -1 ≤ tabN a b s n i k ∧ tabN a b s n i k ≤ 3000 * n
  | 0, _, _ => ⟨Int.le_refl _, by show (-1 : Int) ≤ _; omega⟩
  | n + 1, i, k => by
    refine foldB_le (M := 3000 * ((n + 1 : Nat) : Int)) (fun x hx hf => ?_) (fun x hx => hx) ?_ ?_
    · have h1 := costB_le ha hb hs i k hx
      have h2 := tabN_le ha hb hs n (i + x.1.toNat) (k + x.2.toNat)
      omega
    · rw [begB]; split <;> omega
    · rw [begB]; split <;> omega
theorem tab_le {a b : List Int} {s : Int} (ha : ∀ x ∈ a, 0 ≤ x ∧ x ≤ 1000) (hb : ∀ x ∈ b, 0 ≤ x ∧ x ≤ 1000) (hs : 0 ≤ s ∧ s ≤ 1000) (hla : a.length ≤ 200) (hlb : b.length ≤ 200) (i k : Nat) : -1 ≤ tab a b s i k ∧ tab a b s i k ≤ 1203000 := by
  have := tabN_le ha hb hs (a.length - i + (b.length - k) + 1) i k
  rw [tab]
  omega
theorem any_ok {l : List Int} (h : l.any badN = false) : ∀ x ∈ l, 0 ≤ x ∧ x ≤ 1000 := fun x hx => by
  rw [List.any_eq_false] at h
  have := h x hx
  rw [badN, decide_eq_true_eq] at this
  omega
theorem beads_at {m : Nat} (h : m < 6) : ∃ u v : Nat, nth beads m = ((u : Int), (v : Int)) ∧ u ≤ 2 ∧ v ≤ 2 ∧ 1 ≤ u + v := by
  rcases (show m = 0 ∨ m = 1 ∨ m = 2 ∨ m = 3 ∨ m = 4 ∨ m = 5 by omega) with rfl | rfl | rfl | rfl | rfl | rfl
  · exact ⟨0, 1, rfl, by decide, by decide, by decide⟩
  · exact ⟨1, 0, rfl, by decide, by decide, by decide⟩
  · exact ⟨1, 1, rfl, by decide, by decide, by decide⟩
  · exact ⟨1, 2, rfl, by decide, by decide, by decide⟩
  · exact ⟨2, 1, rfl, by decide, by decide, by decide⟩
  · exact ⟨2, 2, rfl, by decide, by decide, by decide⟩
theorem beads_len : beads.length = 6 := rfl
theorem foldB_app (a b : List Int) (s : Int) (t : Nat → Nat → Int) (i k : Nat) (x : Bead) : ∀ (l : List Bead) (r : Int), foldB a b s t i k (l ++ [x]) r = if fitsB a b i k x then minB (foldB a b s t i k l r) (costB a b s i k x + t (i + x.1.toNat) (k + x.2.toNat)) else foldB a b s t i k l r
  | [], r => rfl
  | y :: l, r => by
    rw [List.cons_append, foldB, foldB_app a b s t i k x l]; rfl
theorem foldB_step {a b : List Int} {s : Int} {t : Nat → Nat → Int} {i k m u v : Nat} {r : Int} (h : m < 6) (hx : nth beads m = ((u : Int), (v : Int))) : foldB a b s t i k (beads.take (m + 1)) r = if i + u ≤ a.length ∧ k + v ≤ b.length then minB (foldB a b s t i k (beads.take m) r) (costB a b s i k ((u : Int), (v : Int)) + t (i + u) (k + v)) else foldB a b s t i k (beads.take m) r := by
  rw [List.take_add_one, nth_get? (by rw [beads_len]; exact h), hx]
  exact foldB_app a b s t i k _ _ r
theorem z2_2 : zcells [Value.int .i64 0, Value.int .i64 0] 2 = [intA 0, intA 0] := rfl
end Go.Proofs.Ytedbjmonfbpefaa.Ev
