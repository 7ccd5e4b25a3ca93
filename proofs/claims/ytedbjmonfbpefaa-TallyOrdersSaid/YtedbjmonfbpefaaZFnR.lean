/- Sets of texts: the reference's Set. -/
import Derived.Test.YtedbjmonfbpefaaZFnO
import Derived.Test.YtedbjmonfbpefaaZEvU
set_option linter.unusedVariables false
set_option linter.unusedSimpArgs false
namespace Go.Proofs.Ytedbjmonfbpefaa.Ev
open Go Go.Proofs

def insS (x : Str) : List Str → List Str
  | [] => [x]
  | y :: ys => if ltB x y = true then x :: y :: ys else if ltB y x = true then y :: insS x ys else y :: ys
/-- The texts of l, ascending, each once. -/
def setL (l : List Str) : List Str := l.foldr insS []
theorem mem_insS {x z : Str} : ∀ {l : List Str}, z ∈ insS x l ↔ z = x ∨ z ∈ l
  | [] => by simp [insS]
  | y :: ys => by
    simp only [insS]
    split
    · simp
    · rename_i h1
      split
      · simp only [List.mem_cons, mem_insS (l := ys)]
        constructor
        · rintro (h | h | h) <;> simp [h]
        · rintro (h | h | h) <;> simp [h]
      · rename_i h2
        have := ltB_tri (by simpa using h1) (by simpa using h2)
        subst this; simp
theorem asc_insS {x : Str} : ∀ {l : List Str}, l.Pairwise (fun a b => ltB a b = true) → (insS x l).Pairwise (fun a b => ltB a b = true)
  | [], _ => by simp [insS]
  | y :: ys, h => by
    obtain ⟨h1, h2⟩ := List.pairwise_cons.1 h
    simp only [insS]
    split
    · rename_i h3
      exact List.pairwise_cons.2 ⟨fun z hz => by
        rcases List.mem_cons.1 hz with rfl | hz
        · exact h3
        · exact ltB_trans h3 (h1 z hz), h⟩
    · split
      · rename_i h3
        exact List.pairwise_cons.2 ⟨fun z hz => by
          rcases mem_insS.1 hz with rfl | hz
          · exact h3
          · exact h1 z hz, asc_insS h2⟩
      · exact h
theorem mem_setL {z : Str} : ∀ {l : List Str}, z ∈ setL l ↔ z ∈ l
  | [] => by simp [setL]
  | x :: l => by
    have := mem_setL (z := z) (l := l)
    simp only [setL, List.foldr_cons, mem_insS, List.mem_cons] at this ⊢
    rw [this]
theorem asc_setL : ∀ (l : List Str), (setL l).Pairwise (fun a b => ltB a b = true)
  | [] => by simp [setL]
  | x :: l => asc_insS (asc_setL l)
def candB (out : List Str) (x : Str) : Bool := decide (out.length = 0) || ltB (nth out (out.length - 1)) x
theorem nth_last (out : List Str) (x : Str) : nth (out ++ [x]) ((out ++ [x]).length - 1) = x := by simp [nth]
theorem candB_app (out : List Str) (b x : Str) : candB (out ++ [b]) x = ltB b x := by
  rw [candB, nth_last]; simp
theorem filter_lt {α : Type} {p q : α → Bool} : ∀ {l : List α}, (∀ x ∈ l, p x = true → q x = true) → (∃ x ∈ l, q x = true ∧ p x = false) → (l.filter p).length < (l.filter q).length
  | [], _, h => by obtain ⟨x, h, _⟩ := h; simp at h
  | y :: l, h1, h2 => by
    have mono : ∀ {l : List α}, (∀ x ∈ l, p x = true → q x = true) → (l.filter p).length ≤ (l.filter q).length := by
      intro l
      induction l with
      | nil => intro _; simp
      | cons z l ih =>
        intro h
        have i := ih fun x hx => h x (by simp [hx])
        have hz := h z (by simp)
        cases hp : p z <;> cases hq : q z <;> simp [List.filter_cons, hp, hq] <;> first | omega | (rw [hp, hq] at hz; simp at hz)
    obtain ⟨x, hx, hq, hp⟩ := h2
    rcases List.mem_cons.1 hx with rfl | hx
    · have := mono (l := l) fun z hz => h1 z (by simp [hz])
      simp [List.filter_cons, hp, hq]; omega
    · have i := filter_lt (l := l) (fun z hz => h1 z (by simp [hz])) ⟨x, hx, hq, hp⟩
      have hz := h1 y (by simp)
      cases hp' : p y <;> cases hq' : q y <;> simp [List.filter_cons, hp', hq'] <;> first | omega | (rw [hp', hq'] at hz; simp at hz)
structure Inn (l out : List Str) (best : Str) (found : Bool) (i : Nat) : Prop where
  le : i ≤ l.length
  yes : found = true → best ∈ l ∧ candB out best = true
  all : ∀ j, j < i → candB out (nth l j) = true → found = true ∧ ltB (nth l j) best = false
structure Out (l out : List Str) : Prop where
  asc : out.Pairwise (fun a b => ltB a b = true)
  sub : ∀ x ∈ out, x ∈ l
  all : ∀ x ∈ l, x ∈ out ∨ candB out x = true
  len : out.length + (l.filter (candB out)).length ≤ l.length
theorem asc_last {out : List Str} (h : out.Pairwise (fun a b => ltB a b = true)) {x : Str} (hx : x ∈ out) : x = nth out (out.length - 1) ∨ ltB x (nth out (out.length - 1)) = true := by
  obtain ⟨j, hj, rfl⟩ := List.getElem_of_mem hx
  rw [nth_eq (by omega)]
  by_cases e : j = out.length - 1
  · left; congr
  · right; exact List.pairwise_iff_getElem.1 h j (out.length - 1) hj (by omega) (by omega)
theorem Out.step {l out : List Str} {best : Str} {i : Nat} (h : Out l out) (hi : Inn l out best true i) (hl : l.length ≤ i) : Out l (out ++ [best]) ∧ (l.filter (candB (out ++ [best]))).length < (l.filter (candB out)).length := by
  obtain ⟨hb1, hb2⟩ := hi.yes rfl
  have hb3 : ∀ x ∈ out, ltB x best = true := fun x hx => by
    have h0 : 0 < out.length := List.length_pos_of_mem hx
    have hc : ltB (nth out (out.length - 1)) best = true := by
      simp only [candB, Bool.or_eq_true, decide_eq_true_eq] at hb2
      rcases hb2 with hb2 | hb2
      · omega
      · exact hb2
    rcases asc_last h.asc hx with e | e
    · rw [e]; exact hc
    · exact ltB_trans e hc
  have hlt : (l.filter (candB (out ++ [best]))).length < (l.filter (candB out)).length := by
    refine filter_lt (fun x hx hc => ?_) ⟨best, hb1, hb2, by rw [candB_app, ltB_irrefl]⟩
    rw [candB_app] at hc
    simp only [candB, Bool.or_eq_true, decide_eq_true_eq] at hb2 ⊢
    rcases hb2 with hb2 | hb2
    · exact .inl hb2
    · exact .inr (ltB_trans hb2 hc)
  refine ⟨⟨?_, ?_, ?_, ?_⟩, hlt⟩
  · rw [List.pairwise_append]
    exact ⟨h.asc, by simp, fun a ha b hb => by simp at hb; subst hb; exact hb3 a ha⟩
  · intro x hx
    rcases List.mem_append.1 hx with hx | hx
    · exact h.sub x hx
    · simp at hx; subst hx; exact hb1
  · intro x hx
    rcases h.all x hx with h1 | h1
    · left; simp [h1]
    · obtain ⟨j, hj, rfl⟩ := List.getElem_of_mem hx
      have h2 := (hi.all j (by omega) (by rw [nth_eq hj]; exact h1)).2
      rw [nth_eq hj] at h2
      cases h3 : ltB best l[j] with
      | true => right; rw [candB_app]; exact h3
      | false => left; have := ltB_tri h3 h2; simp [this]
  · have := h.len; simp only [List.length_append, List.length_singleton]; omega
end Go.Proofs.Ytedbjmonfbpefaa.Ev
