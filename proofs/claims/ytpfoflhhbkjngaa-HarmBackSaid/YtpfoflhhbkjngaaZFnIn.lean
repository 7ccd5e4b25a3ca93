/- Of which words harmony makes one: what the program gathers, plainly. -/
import Derived.Test.YtpfoflhhbkjngaaZFnIh
import Derived.Test.YtpfoflhhbkjngaaZEvZn
set_option linter.unusedVariables false
set_option linter.unusedSimpArgs false
namespace Go.Proofs.Ytpfoflhhbkjngaa.Ev
open Go Go.Proofs

/-- One symbol more, if it is written so and not there yet. -/
def hasT (acc : List Str) (x : Str) : Bool := acc.any fun z => decide (x = z)
theorem hasT_iff {acc : List Str} {x : Str} : hasT acc x = true ↔ x ∈ acc := by
  simp only [hasT, List.any_eq_true, decide_eq_true_eq]
  exact ⟨fun ⟨z, h, e⟩ => e ▸ h, fun h => ⟨x, h, rfl⟩⟩
def frS (l : List Arch) (y : Str) (c : Nat) (acc : List Str) (x : Str) : List Str := if hasT acc x = false ∧ wrT l x c = y then acc ++ [x] else acc
def frA (l : List Arch) (y : Str) (c : Nat) (X : List Str) : List Str := X.foldl (frS l y c) []
theorem frA_snoc (l : List Arch) (y : Str) (c : Nat) (X : List Str) (x : Str) : frA l y c (X ++ [x]) = frS l y c (frA l y c X) x := by
  simp [frA]
theorem frA_len (l : List Arch) (y : Str) (c : Nat) (X : List Str) : (frA l y c X).length ≤ X.length := by
  refine snoc_rec (p := fun X => (frA l y c X).length ≤ X.length) (by simp [frA]) (fun X x ih => ?_) X
  rw [frA_snoc, frS, List.length_append]
  split
  · rw [List.length_append]; exact Nat.add_le_add_right ih _
  · exact Nat.le_add_right_of_le ih
theorem frS_fold (l : List Arch) (y : Str) (c : Nat) : ∀ (hs acc : List Str), hs.Nodup → (∀ x ∈ hs, x ∈ acc → x = y) → (wrT l y c = y → y ∈ acc) →
    hs.foldl (frS l y c) acc = acc ++ hs.filter fun x => decide (x ≠ y) && decide (wrT l x c = y)
  | [], acc, _, _, _ => by simp
  | x :: hs, acc, hn, h1, h2 => by
    obtain ⟨n1, n2⟩ := List.nodup_cons.1 hn
    rw [List.foldl_cons, List.filter_cons]
    by_cases hc : hasT acc x = false ∧ wrT l x c = y
    · have hna : x ∉ acc := fun hm => by rw [hasT_iff.2 hm] at hc; cases hc.1
      have hxy : x ≠ y := fun e => hna (e ▸ h2 (e ▸ hc.2))
      rw [show frS l y c acc x = acc ++ [x] by rw [frS, if_pos hc], frS_fold l y c hs _ n2 (fun z hz hm => ?_) (fun e => List.mem_append_left _ (h2 e))]
      · simp [hxy, hc.2]
      · rcases List.mem_append.1 hm with hm | hm
        · exact h1 z (List.mem_cons_of_mem _ hz) hm
        · rw [List.mem_singleton] at hm
          exact absurd (hm ▸ hz) n1
    · rw [show frS l y c acc x = acc by rw [frS, if_neg hc], frS_fold l y c hs _ n2 (fun z hz hm => h1 z (List.mem_cons_of_mem _ hz) hm) h2]
      have : (decide (x ≠ y) && decide (wrT l x c = y)) = false := by
        rw [← Bool.not_eq_true]
        simp only [Bool.and_eq_true, decide_eq_true_eq]
        rintro ⟨e1, e2⟩
        refine hc ⟨?_, e2⟩
        rw [← Bool.not_eq_true]
        exact fun hm => e1 (h1 x (by simp) (hasT_iff.1 hm))
      rw [this]; simp
theorem frA_eq {l : List Arch} (hd : l.Pairwise fun a b => a.1 ≠ b.1) (y : Str) (c : Nat) : frA l y c (y :: l.map (·.1)) = chT l y c := by
  have h0 : frS l y c [] y = if wrT l y c = y then [y] else [] := by simp [frS, hasT]
  have hn : (l.map (·.1)).Nodup := List.pairwise_map.2 hd
  rw [frA, List.foldl_cons, h0, frS_fold l y c _ _ hn (fun x _ hx => ?_) (fun e => by rw [if_pos e]; simp), chT, headsW, List.filter_map]
  · rfl
  · split at hx
    · exact List.mem_singleton.1 hx
    · cases hx
/-- Whether there is a word at all. -/
def reachS (s : List Sound) (l : List Arch) : List Str → Nat → Bool
  | [], _ => true
  | y :: w, c => anyT l y c && reachS s l w (aftT s y c)
theorem prod_reach (s : List Sound) (l : List Arch) : ∀ (w : List Str) (c : Nat) (L : List (List Str)), (prodT s l w c L).length = 0 ↔ L.length = 0 ∨ reachS s l w c = false
  | [], c, L => by simp [prodT, reachS]
  | y :: w, c, L => by
    rw [prodT, prod_reach s l w, reachS, flatMap_len _ _ (chT l y c).length fun u => by rw [List.length_map], Bool.and_eq_false_iff, ← or_assoc]
    refine or_congr ?_ Iff.rfl
    rw [Nat.mul_eq_zero]
    refine or_congr Iff.rfl ?_
    have h := anyT_iff (l := l) (y := y) (c := c)
    cases e : anyT l y c
    · rw [e] at h
      simp only [Bool.false_eq_true, false_iff, Decidable.not_not] at h
      simp [h]
    · rw [e] at h
      have := h.1 rfl
      simp [this]
/-- The first u of a list of words with each of some symbols, and the next one with the first k of them. -/
def nxT (L : List (List Str)) (C : List Str) (j : Nat) : List (List Str) := (L.take j).flatMap fun u => C.map fun z => u ++ [z]
def nxK (L : List (List Str)) (C : List Str) (j k : Nat) : List (List Str) := nxT L C j ++ (C.take k).map fun z => nth L j ++ [z]
theorem nxT_len (L : List (List Str)) (C : List Str) (j : Nat) (hj : j ≤ L.length) : (nxT L C j).length = j * C.length := by
  rw [nxT, flatMap_len _ _ C.length fun u => by rw [List.length_map], List.length_take, Nat.min_eq_left hj]
theorem nxK_len (L : List (List Str)) (C : List Str) (j k : Nat) (hj : j ≤ L.length) : (nxK L C j k).length ≤ j * C.length + k := by
  rw [nxK, List.length_append, nxT_len _ _ _ hj, List.length_map, List.length_take]; omega
theorem nxK_zero (L : List (List Str)) (C : List Str) (j : Nat) : nxK L C j 0 = nxT L C j := by simp [nxK]
theorem nxK_succ (L : List (List Str)) (C : List Str) (j k : Nat) (hk : k < C.length) : nxK L C j (k + 1) = nxK L C j k ++ [nth L j ++ [nth C k]] := by
  rw [nxK, nxK, List.take_add_one, nth_get? hk]; simp
theorem nxK_end (L : List (List Str)) (C : List Str) (j : Nat) (hj : j < L.length) : nxK L C j C.length = nxT L C (j + 1) := by
  rw [nxK, nxT, nxT, List.take_add_one (i := j), nth_get? hj, List.take_length]; simp
theorem nxT_all (L : List (List Str)) (C : List Str) : nxT L C L.length = L.flatMap fun u => C.map fun z => u ++ [z] := by rw [nxT, List.take_length]
end Go.Proofs.Ytpfoflhhbkjngaa.Ev
