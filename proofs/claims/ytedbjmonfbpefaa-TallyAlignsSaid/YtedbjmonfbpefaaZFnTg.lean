/- The way through the table of tally.Align, plainly. -/
import Derived.Test.YtedbjmonfbpefaaZFnTf
set_option linter.unusedVariables false
set_option linter.unusedSimpArgs false
namespace Go.Proofs.Ytedbjmonfbpefaa.Ev
open Go Go.Proofs Go.RowKit

theorem foldB_hit {a b : List Int} {s : Int} {t : Nat → Nat → Int} {i k : Nat} : ∀ {l : List Bead} {r : Int}, (∀ x ∈ l, fitsB a b i k x → 0 ≤ costB a b s i k x + t (i + x.1.toNat) (k + x.2.toNat)) → (0 ≤ r ∨ ∃ x ∈ l, fitsB a b i k x) →
    0 ≤ foldB a b s t i k l r ∧ ((foldB a b s t i k l r = r ∧ 0 ≤ r) ∨ ∃ x ∈ l, fitsB a b i k x ∧ foldB a b s t i k l r = costB a b s i k x + t (i + x.1.toNat) (k + x.2.toNat))
  | [], r, _, h => by
    rcases h with h | ⟨x, hx, _⟩
    · exact ⟨h, .inl ⟨rfl, h⟩⟩
    · cases hx
  | y :: l, r, hc, h => by
    rw [foldB]
    have hc' : ∀ x ∈ l, fitsB a b i k x → 0 ≤ costB a b s i k x + t (i + x.1.toNat) (k + x.2.toNat) := fun x hx => hc x (List.mem_cons_of_mem _ hx)
    by_cases hf : fitsB a b i k y
    · rw [if_pos hf]
      have h0 := hc y List.mem_cons_self hf
      obtain ⟨h1, h2⟩ := foldB_hit (l := l) (r := minB r (costB a b s i k y + t (i + y.1.toNat) (k + y.2.toNat))) hc' (.inl (by rw [minB]; split <;> omega))
      refine ⟨h1, ?_⟩
      rcases h2 with ⟨h2, h3⟩ | ⟨x, hx, h2, h3⟩
      · rw [h2]
        rw [minB]
        split
        · exact .inr ⟨y, List.mem_cons_self, hf, rfl⟩
        · exact .inl ⟨rfl, by omega⟩
      · exact .inr ⟨x, List.mem_cons_of_mem _ hx, h2, h3⟩
    · rw [if_neg hf]
      obtain ⟨h1, h2⟩ := foldB_hit (l := l) (r := r) hc' (by
        rcases h with h | ⟨x, hx, h⟩
        · exact .inl h
        · rcases List.mem_cons.1 hx with rfl | hx
          · exact absurd h hf
          · exact .inr ⟨x, hx, h⟩)
      refine ⟨h1, ?_⟩
      rcases h2 with h2 | ⟨x, hx, h2, h3⟩
      · exact .inl h2
      · exact .inr ⟨x, List.mem_cons_of_mem _ hx, h2, h3⟩
theorem tab_hit {a b : List Int} {s : Int} (ha : ∀ x ∈ a, 0 ≤ x ∧ x ≤ 1000) (hb : ∀ x ∈ b, 0 ≤ x ∧ x ≤ 1000) (hs : 0 ≤ s ∧ s ≤ 1000) : ∀ (n i k : Nat), i ≤ a.length → k ≤ b.length → (a.length - i) + (b.length - k) < n →
    0 ≤ tab a b s i k ∧ (i < a.length ∨ k < b.length → ∃ x ∈ beads, fitsB a b i k x ∧ tab a b s i k = costB a b s i k x + tab a b s (i + x.1.toNat) (k + x.2.toNat))
  | 0, _, _, _, _, h => absurd h (Nat.not_lt_zero _)
  | n + 1, i, k, hi, hk, hn => by
    have hc : ∀ x ∈ beads, fitsB a b i k x → 0 ≤ costB a b s i k x + tab a b s (i + x.1.toNat) (k + x.2.toNat) := fun x hx hf => by
      obtain ⟨p1, p2, p3, _⟩ := beads_pos hx
      have h1 := (costB_le ha hb hs i k hx).1
      have h2 := (tab_hit ha hb hs n (i + x.1.toNat) (k + x.2.toNat) hf.1 hf.2 (by obtain ⟨f1, f2⟩ := hf; omega)).1
      omega
    rw [tab_eq hi hk, stepB]
    by_cases he : i = a.length ∧ k = b.length
    · have hz := foldB_hit (l := beads) (r := begB a b i k) hc (.inl (by rw [begB, if_pos he]; decide))
      exact ⟨hz.1, fun h => by omega⟩
    · have hex : ∃ x ∈ beads, fitsB a b i k x := by
        by_cases h : k < b.length
        · exact ⟨(0, 1), by decide, ⟨by show i + 0 ≤ _; omega, by show k + 1 ≤ _; omega⟩⟩
        · exact ⟨(1, 0), by decide, ⟨by show i + 1 ≤ _; omega, by show k + 0 ≤ _; omega⟩⟩
      have hz := foldB_hit (l := beads) (r := begB a b i k) hc (.inr hex)
      refine ⟨hz.1, fun _ => ?_⟩
      rcases hz.2 with ⟨h1, h2⟩ | h
      · rw [begB, if_neg he] at h2
        omega
      · exact h
/-- Whether a bead leads on. -/
def goodB (a b : List Int) (s : Int) (i k : Nat) (x : Bead) : Bool := decide (fitsB a b i k x) && decide (costB a b s i k x + tab a b s (i + x.1.toNat) (k + x.2.toNat) = tab a b s i k)
def pathN (a b : List Int) (s : Int) : Nat → Nat → Nat → List Bead
  | 0, _, _ => []
  | n + 1, i, k => if i < a.length ∨ k < b.length then match beads.find? (goodB a b s i k) with
      | some x => x :: pathN a b s n (i + x.1.toNat) (k + x.2.toNat)
      | none => []
    else []
def pathB (a b : List Int) (s : Int) (i k : Nat) : List Bead := pathN a b s ((a.length - i) + (b.length - k)) i k
def alT (a b : List Int) (s : Int) : (List Bead × Int) × Int :=
  if 200 < a.length ∨ 200 < b.length then (([], 0), 3) else if a.any badN = true ∨ b.any badN = true ∨ badN s = true then (([], 0), 1) else ((pathB a b s 0 0, tab a b s 0 0), 0)
theorem find_good {a b : List Int} {s : Int} (ha : ∀ x ∈ a, 0 ≤ x ∧ x ≤ 1000) (hb : ∀ x ∈ b, 0 ≤ x ∧ x ≤ 1000) (hs : 0 ≤ s ∧ s ≤ 1000) {i k : Nat} (hi : i ≤ a.length) (hk : k ≤ b.length) (h : i < a.length ∨ k < b.length) : ∃ x, beads.find? (goodB a b s i k) = some x ∧ x ∈ beads ∧ fitsB a b i k x ∧ costB a b s i k x + tab a b s (i + x.1.toNat) (k + x.2.toNat) = tab a b s i k := by
  obtain ⟨y, hy, h1, h2⟩ := (tab_hit ha hb hs _ i k hi hk (Nat.lt_succ_self _)).2 h
  cases hf : beads.find? (goodB a b s i k) with
  | none =>
    have := List.find?_eq_none.1 hf y hy
    rw [goodB, decide_eq_true h1, decide_eq_true h2.symm] at this
    exact absurd rfl this
  | some x =>
    have hx := List.find?_some hf
    rw [goodB, Bool.and_eq_true, decide_eq_true_eq, decide_eq_true_eq] at hx
    exact ⟨x, rfl, List.mem_of_find?_eq_some hf, hx.1, hx.2⟩
theorem pathB_step {a b : List Int} {s : Int} {i k : Nat} {x : Bead} (h : i < a.length ∨ k < b.length) (hx : beads.find? (goodB a b s i k) = some x) (hi : i ≤ a.length) (hk : k ≤ b.length) : pathB a b s i k = x :: pathB a b s (i + x.1.toNat) (k + x.2.toNat) := by
  have key : ∀ (n m i k : Nat), i ≤ a.length → k ≤ b.length → (a.length - i) + (b.length - k) ≤ n → (a.length - i) + (b.length - k) ≤ m → pathN a b s n i k = pathN a b s m i k := by
    intro n
    induction n with
    | zero =>
      intro m i k hi hk h1 h2
      cases m with
      | zero => rfl
      | succ m => rw [pathN, pathN, if_neg (by omega)]
    | succ n ih =>
      intro m i k hi hk h1 h2
      cases m with
      | zero => rw [pathN, pathN, if_neg (by omega)]
      | succ m =>
        rw [pathN, pathN]
        split
        · split
          · rename_i x hx
            have hx1 := List.mem_of_find?_eq_some hx
            have hx2 := List.find?_some hx
            rw [goodB, Bool.and_eq_true, decide_eq_true_eq] at hx2
            obtain ⟨p1, _⟩ := beads_pos hx1
            obtain ⟨f1, f2⟩ := hx2.1
            rw [ih m _ _ f1 f2 (by omega) (by omega)]
          · rfl
        · rfl
  have hx1 := List.mem_of_find?_eq_some hx
  have hx2 := List.find?_some hx
  rw [goodB, Bool.and_eq_true, decide_eq_true_eq] at hx2
  obtain ⟨p1, _⟩ := beads_pos hx1
  obtain ⟨f1, f2⟩ := hx2.1
  rw [pathB]
  obtain ⟨n, hn⟩ : ∃ n, (a.length - i) + (b.length - k) = n + 1 := ⟨(a.length - i) + (b.length - k) - 1, by omega⟩
  rw [hn, pathN, if_pos h, hx]
  show x :: _ = x :: _
  rw [pathB, key n _ _ _ f1 f2 (by omega) (Nat.le_refl _)]
theorem pathB_end {a b : List Int} {s : Int} {i k : Nat} (h : ¬(i < a.length ∨ k < b.length)) : pathB a b s i k = [] := by
  rw [pathB]
  cases (a.length - i) + (b.length - k) with
  | zero => rfl
  | succ n => rw [pathN, if_neg h]
end Go.Proofs.Ytedbjmonfbpefaa.Ev
