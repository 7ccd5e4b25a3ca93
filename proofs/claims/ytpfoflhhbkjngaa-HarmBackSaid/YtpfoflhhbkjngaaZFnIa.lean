/- Words in shortlex order, each once: plainly. -/
import Derived.Test.YtpfoflhhbkjngaaZFnHh
import Derived.Test.YtpfoflhhbkjngaaZFnHd
set_option linter.unusedVariables false
set_option linter.unusedSimpArgs false
namespace Go.Proofs.Ytpfoflhhbkjngaa.Ev
open Go Go.Proofs

def ordT (a b : Str) : Int := if ltB a b = true then -1 else if ltB b a = true then 1 else 0
theorem ordT_anti (a b : Str) : ordT b a = - ordT a b := by
  unfold ordT
  cases h1 : ltB a b <;> cases h2 : ltB b a
  · simp
  · simp
  · simp
  · have := ltB_asymm h1; rw [h2] at this; cases this
theorem ordT_zero {a b : Str} (h : ordT a b = 0) : a = b := by
  unfold ordT at h
  split at h
  · omega
  · split at h
    · omega
    · rename_i h1 h2; exact ltB_tri (by simpa using h1) (by simpa using h2)
theorem ordT_neg {a b : Str} : ordT a b < 0 ↔ ltB a b = true := by
  unfold ordT
  constructor
  · intro h; split at h
    · assumption
    · split at h <;> omega
  · intro h; rw [if_pos h]; omega
theorem orderL_cons (a b : Str) (x y : List Str) : orderL (a :: x) (b :: y) = if ordT a b ≠ 0 then ordT a b else orderL x y := by
  rw [orderL]; unfold ordT
  cases h1 : ltB a b <;> cases h2 : ltB b a <;> simp
theorem orderL_anti : ∀ (a b : List Str), orderL b a = - orderL a b
  | [], [] => by simp [orderL]
  | [], _ :: _ => by simp [orderL]
  | _ :: _, [] => by simp [orderL]
  | a :: x, b :: y => by
    have h := ordT_anti a b
    have i := orderL_anti x y
    rw [orderL_cons, orderL_cons]
    by_cases e : ordT a b = 0
    · rw [if_neg (by omega), if_neg (by omega)]; exact i
    · rw [if_pos (by omega), if_pos e]; exact h
theorem orderL_trans : ∀ {a b c : List Str}, orderL a b < 0 → orderL b c < 0 → orderL a c < 0
  | [], [], c, h, _ => by simp [orderL] at h
  | [], _ :: _, [], _, h => by simp [orderL] at h
  | [], _ :: _, _ :: _, _, _ => by simp [orderL]
  | _ :: _, [], c, h, _ => by simp [orderL] at h
  | _ :: _, _ :: _, [], _, h => by simp [orderL] at h
  | a :: x, b :: y, c :: z, h1, h2 => by
    rw [orderL_cons] at h1 h2 ⊢
    by_cases e1 : ordT a b = 0
    · rw [if_neg (by omega)] at h1
      have := ordT_zero e1; subst this
      by_cases e2 : ordT a c = 0
      · rw [if_neg (by omega)] at h2 ⊢; exact orderL_trans h1 h2
      · rw [if_pos e2] at h2 ⊢; exact h2
    · rw [if_pos e1] at h1
      by_cases e2 : ordT b c = 0
      · have := ordT_zero e2; subst this
        rw [if_pos e1]; exact h1
      · rw [if_pos e2] at h2
        have h3 : ordT a c < 0 := ordT_neg.2 (ltB_trans (ordT_neg.1 h1) (ordT_neg.1 h2))
        rw [if_pos (by omega)]; exact h3
theorem compL_anti (a b : List Str) : compL b a = - compL a b := by
  unfold compL
  have := orderL_anti a b
  split <;> split <;> (try split) <;> omega
theorem compL_trans {a b c : List Str} (h1 : compL a b < 0) (h2 : compL b c < 0) : compL a c < 0 := by
  unfold compL at *
  have h3 := @orderL_trans a b c
  split at h1 <;> split at h2 <;> split <;> (try omega)
  all_goals (try (split at h1 <;> (try omega)))
  all_goals (try (split at h2 <;> (try omega)))
  all_goals (try (split <;> (try omega)))
  all_goals exact h3 h1 h2
theorem compL_zero {a b : List Str} : compL a b = 0 ↔ a = b := by
  unfold compL
  constructor
  · intro h
    split at h
    · omega
    · split at h
      · omega
      · exact orderL_zero.1 h
  · rintro rfl
    rw [if_neg (by omega), if_neg (by omega)]; exact orderL_zero.2 rfl
/-! ### a total order -/
/-- A comparison that orders, strictly. -/
structure Cmp {α : Type} (c : α → α → Int) : Prop where
  anti : ∀ a b, c b a = - c a b
  trans : ∀ {x y z}, c x y < 0 → c y z < 0 → c x z < 0
  zero : ∀ {a b}, c a b = 0 ↔ a = b
theorem cmp_compL : Cmp compL := ⟨compL_anti, compL_trans, compL_zero⟩
section
variable {α : Type} {c : α → α → Int}
def AscC (c : α → α → Int) (l : List α) : Prop := l.Pairwise fun a b => c a b < 0
def insC (c : α → α → Int) (x : α) : List α → List α
  | [] => [x]
  | y :: l => if c y x = 0 then y :: l else if c y x < 0 then y :: insC c x l else x :: y :: l
theorem Cmp.self (h : Cmp c) (a : α) : c a a = 0 := h.zero.2 rfl
theorem mem_insC (h : Cmp c) {x z : α} : ∀ {l : List α}, z ∈ insC c x l ↔ z = x ∨ z ∈ l
  | [] => by simp [insC]
  | y :: l => by
    have ih := mem_insC h (x := x) (z := z) (l := l)
    unfold insC
    split
    · rename_i e
      have := h.zero.1 e
      subst this
      simp
    · split
      · simp only [List.mem_cons, ih]
        constructor
        · rintro (h | h | h)
          · exact .inr (.inl h)
          · exact .inl h
          · exact .inr (.inr h)
        · rintro (h | h | h)
          · exact .inr (.inl h)
          · exact .inl h
          · exact .inr (.inr h)
      · simp
theorem asc_insC (h : Cmp c) {x : α} : ∀ {l : List α}, AscC c l → AscC c (insC c x l)
  | [], _ => by simp [insC, AscC]
  | y :: l, ha => by
    obtain ⟨h1, h2⟩ := List.pairwise_cons.1 ha
    unfold insC
    split
    · exact ha
    · rename_i e
      split
      · rename_i e2
        refine List.pairwise_cons.2 ⟨fun z hz => ?_, asc_insC h h2⟩
        rcases (mem_insC h).1 hz with rfl | hz
        · exact e2
        · exact h1 z hz
      · rename_i e2
        have := h.anti y x
        refine List.pairwise_cons.2 ⟨fun z hz => ?_, ha⟩
        rcases List.mem_cons.1 hz with rfl | hz
        · omega
        · exact h.trans (by omega) (h1 z hz)
theorem asc_same (h : Cmp c) : ∀ {a b : List α}, AscC c a → AscC c b → (∀ z, z ∈ a ↔ z ∈ b) → a = b
  | [], [], _, _, _ => rfl
  | [], y :: b, _, _, hz => by have := (hz y).2 (by simp); simp at this
  | x :: a, [], _, _, hz => by have := (hz x).1 (by simp); simp at this
  | x :: a, y :: b, h1, h2, hz => by
    obtain ⟨p1, p2⟩ := List.pairwise_cons.1 h1
    obtain ⟨q1, q2⟩ := List.pairwise_cons.1 h2
    have e : x = y := by
      rcases List.mem_cons.1 ((hz x).1 (by simp)) with e | hx
      · exact e
      · rcases List.mem_cons.1 ((hz y).2 (by simp)) with e | hy
        · exact e.symm
        · have a1 := q1 x hx
          have a2 := p1 y hy
          have := h.anti x y
          omega
    subst e
    congr 1
    refine asc_same h p2 q2 fun z => ?_
    have h3 := hz z
    constructor
    · intro hm
      rcases List.mem_cons.1 (h3.1 (by simp [hm])) with rfl | hb
      · have := p1 z hm; rw [h.self] at this; omega
      · exact hb
    · intro hm
      rcases List.mem_cons.1 (h3.2 (by simp [hm])) with rfl | hb
      · have := q1 z hm; rw [h.self] at this; omega
      · exact hb
/-- All put in, one by one. -/
def insAll (c : α → α → Int) (l : List α) : List α := l.foldl (fun out x => insC c x out) []
theorem insAll_snoc (l : List α) (x : α) : insAll c (l ++ [x]) = insC c x (insAll c l) := by simp [insAll]
theorem snoc_rec {p : List α → Prop} (h0 : p []) (h1 : ∀ l x, p l → p (l ++ [x])) (l : List α) : p l := by
  have : ∀ n, ∀ l : List α, l.length = n → p l := by
    intro n
    induction n with
    | zero => intro l h; rw [List.eq_nil_of_length_eq_zero h]; exact h0
    | succ n ih =>
      intro l h
      have hne : l ≠ [] := by intro e; rw [e] at h; cases h
      rw [← List.dropLast_concat_getLast hne]
      exact h1 _ _ (ih _ (by simp; omega))
  exact this _ l rfl
theorem insAll_ok (h : Cmp c) : ∀ (l : List α), AscC c (insAll c l) ∧ ∀ z, z ∈ insAll c l ↔ z ∈ l := by
  refine snoc_rec ⟨by simp [insAll, AscC], by simp [insAll]⟩ fun l x ih => ?_
  rw [insAll_snoc]
  refine ⟨asc_insC h ih.1, fun z => ?_⟩
  rw [mem_insC h, ih.2]
  simp [or_comm]
/-- What a sort leaves of values that stand once each. -/
theorem asc_sorted (h : Cmp c) {l : List α} (hn : l.Nodup) (hs : l.Pairwise fun x y => ¬c y x < 0) : AscC c l := by
  unfold AscC
  refine List.Pairwise.imp₂ (R := fun x y => ¬c y x < 0) (S := fun x y => x ≠ y) (fun a b h1 h2 => ?_) hs hn
  have := h.anti a b
  have h3 : c a b ≠ 0 := fun e => h2 (h.zero.1 e)
  omega
end
end Go.Proofs.Ytpfoflhhbkjngaa.Ev
