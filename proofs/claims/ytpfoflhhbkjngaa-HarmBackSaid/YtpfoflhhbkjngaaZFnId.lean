/- What harmony makes of a word, and of which words: plainly. -/
import Derived.Test.YtpfoflhhbkjngaaZFnIb
set_option linter.unusedVariables false
set_option linter.unusedSimpArgs false
namespace Go.Proofs.Ytpfoflhhbkjngaa.Ev
open Go Go.Proofs

abbrev Arch := Str × List (List Str)
/-- What an archsound is written as at a class. -/
def asAt (a : Arch) (c : Nat) (x : Str) : Str := match a.2[c]? with
  | some (y :: _) => y
  | _ => x
def wrT (l : List Arch) (x : Str) (c : Nat) : Str := match l.find? (fun a => decide (a.1 = x)) with
  | some a => asAt a c x
  | none => x
def clsR (s : List Sound) (x : Str) : Int := (rowR s x).2.2.2
def aftT (s : List Sound) (x : Str) (c : Nat) : Nat := if vowR s x = true ∧ 0 < clsR s x then (clsR s x).toNat else c
def harmT (s : List Sound) (l : List Arch) : List Str → Nat → List Str
  | [], _ => []
  | x :: w, c => wrT l x c :: harmT s l w (aftT s (wrT l x c) c)
/-- The class behind a word that is written. -/
def clsT (s : List Sound) : List Str → Nat → Nat
  | [], c => c
  | y :: w, c => clsT s w (aftT s y c)
theorem clsT_snoc (s : List Sound) : ∀ (w : List Str) (y : Str) (c : Nat), clsT s (w ++ [y]) c = aftT s y (clsT s w c)
  | [], _, _ => rfl
  | z :: w, y, c => clsT_snoc s w y (aftT s z c)
theorem harmT_snoc (s : List Sound) (l : List Arch) : ∀ (w : List Str) (x : Str) (c : Nat), harmT s l (w ++ [x]) c = harmT s l w c ++ [wrT l x (clsT s (harmT s l w c) c)]
  | [], _, _ => rfl
  | z :: w, x, c => by
    rw [List.cons_append, harmT, harmT, harmT_snoc s l w x, List.cons_append]; rfl
theorem harmT_len (s : List Sound) (l : List Arch) : ∀ (w : List Str) (c : Nat), (harmT s l w c).length = w.length
  | [], _ => rfl
  | x :: w, c => by rw [harmT, List.length_cons, List.length_cons, harmT_len s l w]
/-- Which symbols are written as y at a class. -/
def headsW (l : List Arch) (y : Str) (c : Nat) : List Str := (l.filter fun a => decide (a.1 ≠ y) && decide (wrT l a.1 c = y)).map (·.1)
def chT (l : List Arch) (y : Str) (c : Nat) : List Str := (if wrT l y c = y then [y] else []) ++ headsW l y c
theorem wrT_head {l : List Arch} {x : Str} {c : Nat} (h : wrT l x c ≠ x) : ∃ a ∈ l, a.1 = x := by
  unfold wrT at h
  split at h
  · rename_i a ha
    have h1 := List.find?_some ha
    simp only [decide_eq_true_eq] at h1
    exact ⟨a, List.mem_of_find?_eq_some ha, h1⟩
  · exact absurd rfl h
theorem mem_chT {l : List Arch} {x y : Str} {c : Nat} : x ∈ chT l y c ↔ wrT l x c = y := by
  simp only [chT, headsW, List.mem_append, List.mem_map, List.mem_filter, Bool.and_eq_true, decide_eq_true_eq]
  constructor
  · rintro (h | ⟨a, ⟨_, _, h⟩, rfl⟩)
    · split at h
      · rename_i e
        simp at h
        rw [h]; exact e
      · cases h
    · exact h
  · intro h
    by_cases e : x = y
    · left
      subst e
      rw [if_pos h]; simp
    · right
      obtain ⟨a, ha, e2⟩ := wrT_head (l := l) (x := x) (c := c) (by rw [h]; exact Ne.symm e)
      exact ⟨a, ⟨ha, by rw [e2]; exact e, by rw [e2]; exact h⟩, e2⟩
theorem nodup_chT {l : List Arch} (hd : l.Pairwise fun a b => a.1 ≠ b.1) (y : Str) (c : Nat) : (chT l y c).Nodup := by
  have h1 : (headsW l y c).Nodup := by
    unfold headsW
    exact List.pairwise_map.2 (hd.filter _)
  unfold chT
  split
  · show (y :: headsW l y c).Nodup
    refine List.nodup_cons.2 ⟨fun hm => ?_, h1⟩
    simp only [headsW, List.mem_map, List.mem_filter, Bool.and_eq_true, decide_eq_true_eq] at hm
    obtain ⟨a, ⟨_, h2, _⟩, h3⟩ := hm
    exact h2 h3
  · exact h1
/-- All words of which harmony makes the begin of a word. -/
def prodT (s : List Sound) (l : List Arch) : List Str → Nat → List (List Str) → List (List Str)
  | [], _, L => L
  | y :: w, c, L => prodT s l w (aftT s y c) (L.flatMap fun u => (chT l y c).map fun z => u ++ [z])
theorem prodT_snoc (s : List Sound) (l : List Arch) : ∀ (w : List Str) (y : Str) (c : Nat) (L : List (List Str)), prodT s l (w ++ [y]) c L = (prodT s l w c L).flatMap fun u => (chT l y (clsT s w c)).map fun z => u ++ [z]
  | [], _, _, _ => rfl
  | x :: w, y, c, L => by rw [List.cons_append, prodT, prodT, prodT_snoc s l w y]; rfl
theorem flatMap_len {α β : Type} (L : List α) (f : α → List β) (k : Nat) (h : ∀ x, (f x).length = k) : (L.flatMap f).length = L.length * k := by
  induction L with
  | nil => simp
  | cons x L ih => rw [List.flatMap_cons, List.length_append, ih, h, List.length_cons, Nat.add_mul, Nat.one_mul, Nat.add_comm]
theorem prodT_len_snoc (s : List Sound) (l : List Arch) (w : List Str) (y : Str) (c : Nat) (L : List (List Str)) : (prodT s l (w ++ [y]) c L).length = (prodT s l w c L).length * (chT l y (clsT s w c)).length := by
  rw [prodT_snoc, flatMap_len _ _ (chT l y (clsT s w c)).length fun u => by rw [List.length_map]]
theorem mem_prodT (s : List Sound) (l : List Arch) : ∀ (w u : List Str), u ∈ prodT s l w 0 [[]] ↔ harmT s l u 0 = w := by
  refine snoc_rec ?_ fun w y ih => ?_
  · intro u
    simp only [prodT, List.mem_singleton]
    constructor
    · rintro rfl; rfl
    · intro h
      have := congrArg List.length h
      rw [harmT_len] at this
      exact List.eq_nil_of_length_eq_zero this
  · intro u
    rw [prodT_snoc]
    simp only [List.mem_flatMap, List.mem_map]
    constructor
    · rintro ⟨v, hv, z, hz, rfl⟩
      have h1 := (ih v).1 hv
      have h2 := mem_chT.1 hz
      rw [harmT_snoc, h1, h2]
    · intro h
      have hne : u ≠ [] := by rintro rfl; simp [harmT] at h
      have e := (List.dropLast_concat_getLast hne).symm
      rw [e, harmT_snoc] at h
      have h1 := List.append_inj' h rfl
      have h2 : wrT l (u.getLast hne) (clsT s (harmT s l u.dropLast 0) 0) = y := by simpa using h1.2
      rw [h1.1] at h2
      exact ⟨u.dropLast, (ih _).2 h1.1, u.getLast hne, mem_chT.2 h2, e.symm⟩
theorem nodup_snoc_map {L : List (List Str)} {C : List Str} (hL : L.Nodup) (hC : C.Nodup) : (L.flatMap fun u => C.map fun z => u ++ [z]).Nodup := by
  induction L with
  | nil => simp
  | cons u L ih =>
    obtain ⟨h1, h2⟩ := List.nodup_cons.1 hL
    rw [List.flatMap_cons]
    refine List.nodup_append.2 ⟨?_, ih h2, ?_⟩
    · exact List.pairwise_map.2 (hC.imp fun {a b} h e => h (by have := List.append_inj' e rfl; simpa using this.2))
    · intro a ha b hb e
      simp only [List.mem_map, List.mem_flatMap] at ha hb
      obtain ⟨z, _, rfl⟩ := ha
      obtain ⟨v, hv, z', _, rfl⟩ := hb
      have := List.append_inj' e rfl
      exact h1 (this.1 ▸ hv)
theorem nodup_prodT {l : List Arch} (hd : l.Pairwise fun a b => a.1 ≠ b.1) (s : List Sound) : ∀ (w : List Str), (prodT s l w 0 [[]]).Nodup := by
  refine snoc_rec (by simp [prodT]) fun w y ih => ?_
  rw [prodT_snoc]
  exact nodup_snoc_map ih (nodup_chT hd _ _)
/-! ### errors -/
def archL (a : Arch) : Bool := decide (6 < a.2.length)
def archW : List Arch → Int
  | [] => 0
  | a :: l => if wordsErr a.2 ≠ 0 then wordsErr a.2 else archW l
/-- What is wrong with the archsound at a place. -/
def badA (l : List Arch) (i : Nat) : Bool := !goodS (nth l i).1 || (nth l i).2.any (fun w => decide (1 < w.length)) || (l.take i).any fun b => decide (b.1 = (nth l i).1)
def archErr (l : List Arch) : Int := if 24 < l.length ∨ l.any archL = true then 3 else if archW l ≠ 0 then archW l else if (List.range l.length).any (badA l) = true then 1 else 0
theorem archErr_zero {l : List Arch} (h : archErr l = 0) : l.length ≤ 24 ∧ (∀ a ∈ l, a.2.length ≤ 6) ∧ archW l = 0 ∧ ∀ i, i < l.length → badA l i = false := by
  unfold archErr at h
  split at h
  · cases h
  rename_i h1
  split at h
  · rename_i h2; exact absurd h h2
  rename_i h2
  split at h
  · cases h
  rename_i h3
  refine ⟨by omega, fun a ha => ?_, by omega, fun i hi => ?_⟩
  · by_cases e : a.2.length ≤ 6
    · exact e
    · exact absurd (.inr (List.any_eq_true.2 ⟨a, ha, decide_eq_true (by omega)⟩)) h1
  · rw [← Bool.not_eq_true]; intro h4
    exact h3 (List.any_eq_true.2 ⟨i, List.mem_range.2 hi, h4⟩)
theorem arch_distinct {l : List Arch} (h : ∀ i, i < l.length → badA l i = false) : l.Pairwise fun a b => a.1 ≠ b.1 := by
  rw [List.pairwise_iff_getElem]
  intro i j hi hj hij e
  have h1 := h j hj
  simp only [badA, Bool.or_eq_false_iff] at h1
  have h2 := List.any_eq_false.1 h1.2 l[i] (List.mem_take_iff_getElem.2 ⟨i, by omega, rfl⟩)
  rw [nth_eq hj] at h2
  exact h2 (decide_eq_true e)
theorem arch_short {l : List Arch} (h : ∀ i, i < l.length → badA l i = false) : ∀ a ∈ l, goodS a.1 = true ∧ ∀ w ∈ a.2, w.length ≤ 1 := fun a ha => by
  obtain ⟨i, hi, rfl⟩ := List.getElem_of_mem ha
  have h1 := h i hi
  simp only [badA, Bool.or_eq_false_iff, Bool.not_eq_false'] at h1
  rw [nth_eq hi] at h1
  refine ⟨h1.1.1, fun w hw => ?_⟩
  have := List.any_eq_false.1 h1.1.2 w hw
  simp only [decide_eq_true_eq] at this
  omega
def hrE (s : List Sound) (l : List Arch) (w : List Str) : Int := firstE [sndErr s, archErr l, wordsErr [w]]
def hrT (s : List Sound) (l : List Arch) (w : List Str) : List Str × Int := if hrE s l w ≠ 0 then ([], hrE s l w) else (harmT s l w 0, 0)
def uhT (s : List Sound) (l : List Arch) (w : List Str) : List (List Str) × Int :=
  if hrE s l w ≠ 0 then ([], hrE s l w) else if 12 < w.length then ([], 3) else if 200 < (prodT s l w 0 [[]]).length then ([], 3) else (insAll compL (prodT s l w 0 [[]]), 0)
theorem prod_zero (s : List Sound) (l : List Arch) : ∀ (v w : List Str), (prodT s l w 0 [[]]).length = 0 → (prodT s l (w ++ v) 0 [[]]).length = 0
  | [], w, h => by rw [List.append_nil]; exact h
  | y :: v, w, h => by
    rw [show w ++ y :: v = (w ++ [y]) ++ v by simp]
    exact prod_zero s l v _ (by rw [prodT_len_snoc, h, Nat.zero_mul])
/-- More symbols make no fewer words, or none at all. -/
theorem prod_grows (s : List Sound) (l : List Arch) : ∀ (v w : List Str), (prodT s l (w ++ v) 0 [[]]).length = 0 ∨ (prodT s l w 0 [[]]).length ≤ (prodT s l (w ++ v) 0 [[]]).length
  | [], w => .inr (by rw [List.append_nil]; exact Nat.le_refl _)
  | y :: v, w => by
    rw [show w ++ y :: v = (w ++ [y]) ++ v by simp]
    rcases prod_grows s l v (w ++ [y]) with h | h
    · exact .inl h
    · rw [prodT_len_snoc] at h
      by_cases e : (chT l y (clsT s w 0)).length = 0
      · exact .inl (prod_zero s l v _ (by rw [prodT_len_snoc, e, Nat.mul_zero]))
      · right
        refine Nat.le_trans ?_ h
        exact Nat.le_mul_of_pos_right _ (by omega)
end Go.Proofs.Ytpfoflhhbkjngaa.Ev
