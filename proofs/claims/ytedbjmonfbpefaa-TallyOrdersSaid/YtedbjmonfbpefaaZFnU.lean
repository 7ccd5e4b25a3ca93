/- The chance of a word behind others: Smooth, by the program and by the reference. -/
import Derived.Test.YtedbjmonfbpefaaZFnT
import Derived.Test.YtedbjmonfbpefaaZFnD
import Derived.Test.YtedbjmonfbpefaaZFnG
set_option linter.unusedVariables false
set_option linter.unusedSimpArgs false
namespace Go.Proofs.Ytedbjmonfbpefaa.Ev
open Go Go.Proofs

structure GoodL (l : List Gram) : Prop where
  len : l.length ≤ 200
  ws : ∀ j, j < l.length → (nth l j).1.length = (nth l 0).1.length ∧ 1 ≤ (nth l j).1.length ∧ (nth l j).1.length ≤ 4 ∧ 1 ≤ (nth l j).2 ∧ (nth l j).2 ≤ 1000
theorem good_of {l : List Gram} (h : givenF l = 0) : GoodL l := by
  unfold givenF at h
  split at h
  · cases h
  · rename_i h1
    refine ⟨by omega, fun j hj => ?_⟩
    unfold givenE at h
    split at h
    · cases h
    · rename_i h2
      have h3 : badG l j = false := by
        rw [← Bool.not_eq_true]; intro h4
        exact h2 (List.any_eq_true.2 ⟨j, List.mem_range.2 hj, h4⟩)
      simp only [badG, Bool.or_eq_false_iff, Bool.and_eq_false_iff, decide_eq_false_iff_not, Bool.not_eq_false', decide_eq_true_eq] at h3
      omega
/-! ### the program's: a map of the last words -/
def keysM {α : Type} (m : List (Str × α)) : List Str := m.map (·.1)
theorem keys_putM {α : Type} {m : List (Str × α)} {a : Str} {y : α} : (keysM m).Nodup → (keysM (putM m a y)).Nodup ∧ ∀ z, z ∈ keysM (putM m a y) ↔ z = a ∨ z ∈ keysM m := by
  induction m with
  | nil => intro _; simp [putM, keysM]
  | cons p m ih =>
    obtain ⟨c, x⟩ := p
    intro h
    simp only [keysM, List.map_cons, List.nodup_cons] at h
    obtain ⟨i1, i2⟩ := ih h.2
    simp only [putM]
    by_cases e : a = c
    · subst e; simp only [if_true, keysM, List.map_cons, List.nodup_cons, List.mem_cons]; exact ⟨h, fun z => by simp⟩
    · simp only [if_neg e, keysM, List.map_cons, List.nodup_cons, List.mem_cons]
      refine ⟨⟨fun h2 => ?_, i1⟩, fun z => ?_⟩
      · rcases (i2 c).1 h2 with h3 | h3
        · exact e h3.symm
        · exact h.1 h3
      · have := i2 z
        simp only [keysM] at this
        rw [this]
        constructor <;> (rintro (h | h | h) <;> simp [h])
theorem nodup_sub_len : ∀ {a b : List Str}, a.Nodup → (∀ x ∈ a, x ∈ b) → a.length ≤ b.length
  | [], _, _, _ => by simp
  | x :: a, b, h, hs => by
    obtain ⟨h1, h2⟩ := List.nodup_cons.1 h
    have hx := hs x (by simp)
    have i := nodup_sub_len (b := b.filter fun y => decide (y ≠ x)) h2 fun y hy => List.mem_filter.2 ⟨hs y (by simp [hy]), by simp; rintro rfl; exact h1 hy⟩
    have j := filter_lt (l := b) (p := fun y => decide (y ≠ x)) (q := fun _ => true) (fun _ _ _ => rfl) ⟨x, hx, rfl, by simp⟩
    have k : b.filter (fun _ => true) = b := by simp
    rw [k] at j
    simp only [List.length_cons]; omega
theorem asc_nodup {l : List Str} (h : l.Pairwise (fun a b => ltB a b = true)) : l.Nodup := by
  refine List.Pairwise.imp (fun {a b} h e => ?_) h
  subst e; rw [ltB_irrefl] at h; cases h
structure MapOk (m : List (Str × Bool)) (l : List Str) : Prop where
  nd : (keysM m).Nodup
  mem : ∀ z, z ∈ keysM m ↔ z ∈ l
theorem MapOk.step {m : List (Str × Bool)} {l : List Str} (h : MapOk m l) (x : Str) : MapOk (putM m x true) (l ++ [x]) := by
  obtain ⟨h1, h2⟩ := keys_putM (a := x) (y := true) h.nd
  exact ⟨h1, fun z => by rw [h2, h.mem]; simp; exact Or.comm⟩
theorem MapOk.len {m : List (Str × Bool)} {l : List Str} (h : MapOk m l) : m.length = (setL l).length := by
  have e : m.length = (keysM m).length := by simp [keysM]
  rw [e]
  exact Nat.le_antisymm (nodup_sub_len h.nd fun x hx => mem_setL.2 ((h.mem x).1 hx)) (nodup_sub_len (asc_nodup (asc_setL l)) fun x hx => (h.mem x).2 (mem_setL.1 hx))

end Go.Proofs.Ytedbjmonfbpefaa.Ev
