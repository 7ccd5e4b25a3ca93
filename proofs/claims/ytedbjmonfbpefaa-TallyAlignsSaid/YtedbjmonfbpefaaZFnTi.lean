/- Two lists of lengths cost the same the other way round, and what the beads of a way cost together, plainly. -/
import Derived.Test.YtedbjmonfbpefaaZFnTg
set_option linter.unusedVariables false
set_option linter.unusedSimpArgs false
namespace Go.Proofs.Ytedbjmonfbpefaa.Ev
open Go Go.Proofs Go.RowKit

def swapB (x : Bead) : Bead := (x.2, x.1)
theorem fitsB_sw {a b : List Int} {i k : Nat} {x : Bead} : fitsB b a k i (swapB x) ↔ fitsB a b i k x := by
  unfold fitsB swapB; exact And.comm
theorem absI_neg (n : Int) : absI (-n) = absI n := by unfold absI; omega
theorem costB_sw (a b : List Int) (s : Int) (i k : Nat) (x : Bead) : costB b a s k i (swapB x) = costB a b s i k x := by
  have h : diffB b a k i (swapB x) = -diffB a b i k x := by unfold diffB swapB; dsimp only; omega
  unfold costB
  rw [h, absI_neg]
  by_cases hc : x.1 ≠ 1 ∨ x.2 ≠ 1
  · rw [if_pos hc, if_pos (show (swapB x).1 ≠ 1 ∨ (swapB x).2 ≠ 1 from hc.symm)]
  · rw [if_neg hc, if_neg (show ¬((swapB x).1 ≠ 1 ∨ (swapB x).2 ≠ 1) from fun h => hc h.symm)]
theorem foldB_sw {a b : List Int} {s : Int} {t u : Nat → Nat → Int} {i k : Nat} : ∀ {l : List Bead} {r : Int}, (∀ x ∈ l, fitsB a b i k x → u (k + x.2.toNat) (i + x.1.toNat) = t (i + x.1.toNat) (k + x.2.toNat)) → foldB b a s u k i (l.map swapB) r = foldB a b s t i k l r
  | [], _, _ => rfl
  | x :: l, r, h => by
    rw [List.map_cons, foldB, foldB, foldB_sw fun y hy => h y (List.mem_cons_of_mem _ hy)]
    by_cases hf : fitsB a b i k x
    · rw [if_pos hf, if_pos (fitsB_sw.2 hf), costB_sw, show u (k + (swapB x).1.toNat) (i + (swapB x).2.toNat) = _ from h x List.mem_cons_self hf]
    · rw [if_neg hf, if_neg (fun e => hf (fitsB_sw.1 e))]
theorem minB_comm {r c d : Int} (hc : 0 ≤ c) (hd : 0 ≤ d) : minB (minB r c) d = minB (minB r d) c := by
  unfold minB; repeat' split
  all_goals omega
theorem foldB_two {a b : List Int} {s : Int} {t : Nat → Nat → Int} {i k : Nat} {x y : Bead} (hx : fitsB a b i k x → 0 ≤ costB a b s i k x + t (i + x.1.toNat) (k + x.2.toNat)) (hy : fitsB a b i k y → 0 ≤ costB a b s i k y + t (i + y.1.toNat) (k + y.2.toNat)) (l : List Bead) (r : Int) : foldB a b s t i k (x :: y :: l) r = foldB a b s t i k (y :: x :: l) r := by
  simp only [foldB]
  by_cases h1 : fitsB a b i k x
  · by_cases h2 : fitsB a b i k y
    · rw [if_pos h1, if_pos h1, if_pos h2, if_pos h2, minB_comm (hx h1) (hy h2)]
    · rw [if_pos h1, if_pos h1, if_neg h2, if_neg h2]
  · rw [if_neg h1, if_neg h1]
theorem begB_sw (a b : List Int) (i k : Nat) : begB b a k i = begB a b i k := by
  unfold begB
  by_cases h : i = a.length ∧ k = b.length
  · rw [if_pos h, if_pos h.symm]
  · rw [if_neg h, if_neg fun e => h e.symm]
theorem tab_sw {a b : List Int} {s : Int} (ha : ∀ x ∈ a, 0 ≤ x ∧ x ≤ 1000) (hb : ∀ x ∈ b, 0 ≤ x ∧ x ≤ 1000) (hs : 0 ≤ s ∧ s ≤ 1000) : ∀ (n i k : Nat), i ≤ a.length → k ≤ b.length → (a.length - i) + (b.length - k) < n → tab b a s k i = tab a b s i k
  | 0, _, _, _, _, h => absurd h (Nat.not_lt_zero _)
  | n + 1, i, k, hi, hk, hn => by
    have hc : ∀ x ∈ beads, fitsB b a k i x → 0 ≤ costB b a s k i x + tab b a s (k + x.1.toNat) (i + x.2.toNat) := fun x hx hf => by
      have h1 := (costB_le hb ha hs k i hx).1
      have h2 := (tab_hit hb ha hs _ (k + x.1.toNat) (i + x.2.toNat) hf.1 hf.2 (Nat.lt_succ_self _)).1
      omega
    rw [tab_eq hk hi, tab_eq hi hk, stepB, stepB, begB_sw]
    have e1 : foldB b a s (tab b a s) k i (beads.map swapB) (begB a b i k) = foldB a b s (tab a b s) i k beads (begB a b i k) := foldB_sw fun x hx hf => by
      obtain ⟨p1, _⟩ := beads_pos hx
      obtain ⟨f1, f2⟩ := hf
      exact tab_sw ha hb hs n _ _ f1 f2 (by omega)
    rw [← e1, show beads.map swapB = [(1, 0), (0, 1), (1, 1), (2, 1), (1, 2), (2, 2)] from rfl, show beads = [(0, 1), (1, 0), (1, 1), (1, 2), (2, 1), (2, 2)] from rfl]
    rw [foldB_two (hc _ (by decide)) (hc _ (by decide))]
    have e2 : ∀ r, foldB b a s (tab b a s) k i [((1 : Int), (2 : Int)), (2, 1), (2, 2)] r = foldB b a s (tab b a s) k i [(2, 1), (1, 2), (2, 2)] r := fun r => foldB_two (hc _ (by decide)) (hc _ (by decide)) _ _
    have e3 : ∀ (x y z : Bead) (l : List Bead) r, foldB b a s (tab b a s) k i (x :: y :: z :: l) r = foldB b a s (tab b a s) k i l (foldB b a s (tab b a s) k i [x, y, z] r) := fun x y z l r => rfl
    rw [e3, e2, ← e3]
theorem tab_end {a b : List Int} {s : Int} : tab a b s a.length b.length = 0 := by
  rw [tab_eq (Nat.le_refl _) (Nat.le_refl _), stepB]
  have key : ∀ (l : List Bead), (∀ x ∈ l, x ∈ beads) → ∀ r, foldB a b s (tab a b s) a.length b.length l r = r := by
    intro l
    induction l with
    | nil => intro _ r; rfl
    | cons x l ih =>
      intro h r
      rw [foldB, if_neg, ih fun y hy => h y (List.mem_cons_of_mem _ hy)]
      intro hf
      obtain ⟨p1, _⟩ := beads_pos (h x List.mem_cons_self)
      obtain ⟨f1, f2⟩ := hf
      omega
  rw [key beads (fun x h => h), begB, if_pos ⟨rfl, rfl⟩]
theorem alT_sw (a b : List Int) (s : Int) : (alT b a s).2 = (alT a b s).2 ∧ (alT b a s).1.2 = (alT a b s).1.2 := by
  unfold alT
  by_cases h1 : 200 < a.length ∨ 200 < b.length
  · rw [if_pos h1, if_pos h1.symm]; exact ⟨rfl, rfl⟩
  by_cases h2 : a.any badN = true ∨ b.any badN = true ∨ badN s = true
  · rw [if_neg h1, if_neg fun e => h1 e.symm, if_pos h2, if_pos (by rcases h2 with h | h | h; exact .inr (.inl h); exact .inl h; exact .inr (.inr h))]; exact ⟨rfl, rfl⟩
  rw [if_neg h1, if_neg fun e => h1 e.symm, if_neg h2, if_neg (by rintro (h | h | h); exact h2 (.inr (.inl h)); exact h2 (.inl h); exact h2 (.inr (.inr h)))]
  refine ⟨rfl, tab_sw (any_ok ?_) (any_ok ?_) (any_ok (l := [s]) ?_ s (by simp)) _ 0 0 (Nat.zero_le _) (Nat.zero_le _) (Nat.lt_succ_self _)⟩
  · cases h : a.any badN; rfl; exact absurd (.inl h) h2
  · cases h : b.any badN; rfl; exact absurd (.inr (.inl h)) h2
  · cases h : badN s; simp [h]; exact absurd (.inr (.inr h)) h2
/-- One step of the way. -/
theorem way_step {a b : List Int} {s : Int} (ha : ∀ x ∈ a, 0 ≤ x ∧ x ≤ 1000) (hb : ∀ x ∈ b, 0 ≤ x ∧ x ≤ 1000) (hs : 0 ≤ s ∧ s ≤ 1000) {i k p : Nat} {l : List Bead} (hi : i ≤ a.length) (hk : k ≤ b.length) (hl : l.drop p = pathB a b s i k) (hp : p < l.length) :
    ∃ u v : Nat, nth l p = ((u : Int), (v : Int)) ∧ u ≤ 2 ∧ v ≤ 2 ∧ i + u ≤ a.length ∧ k + v ≤ b.length ∧ l.drop (p + 1) = pathB a b s (i + u) (k + v) ∧ costB a b s i k ((u : Int), (v : Int)) + tab a b s (i + u) (k + v) = tab a b s i k := by
  have hgo : i < a.length ∨ k < b.length := by
    rcases Classical.em (i < a.length ∨ k < b.length) with h | h
    · exact h
    · rw [pathB_end h] at hl
      have := congrArg List.length hl
      simp at this
      omega
  obtain ⟨x, x1, x2, x3, x4⟩ := find_good ha hb hs hi hk hgo
  rw [pathB_step hgo x1 hi hk, List.drop_eq_getElem_cons hp, List.cons.injEq] at hl
  obtain ⟨p1, p2, p3, p4, p5⟩ := beads_pos x2
  obtain ⟨f1, f2⟩ := x3
  refine ⟨x.1.toNat, x.2.toNat, ?_, p2, p3, f1, f2, hl.2, ?_⟩
  · rw [nth_eq hp, hl.1, Int.toNat_of_nonneg p4, Int.toNat_of_nonneg p5]
  · rw [Int.toNat_of_nonneg p4, Int.toNat_of_nonneg p5]; exact x4
theorem way_end {a b : List Int} {s : Int} (ha : ∀ x ∈ a, 0 ≤ x ∧ x ≤ 1000) (hb : ∀ x ∈ b, 0 ≤ x ∧ x ≤ 1000) (hs : 0 ≤ s ∧ s ≤ 1000) {i k : Nat} (hi : i ≤ a.length) (hk : k ≤ b.length) (h : pathB a b s i k = []) : i = a.length ∧ k = b.length ∧ tab a b s i k = 0 := by
  rcases Classical.em (i < a.length ∨ k < b.length) with hgo | hgo
  · obtain ⟨x, x1, _⟩ := find_good ha hb hs hi hk hgo
    rw [pathB_step hgo x1 hi hk] at h
    cases h
  · obtain rfl : i = a.length := by omega
    obtain rfl : k = b.length := by omega
    exact ⟨rfl, rfl, tab_end⟩
end Go.Proofs.Ytedbjmonfbpefaa.Ev
