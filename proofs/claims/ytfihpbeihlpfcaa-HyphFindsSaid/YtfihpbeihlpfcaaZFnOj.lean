/- Levels of places: the program's are the reference's. -/
import Derived.Test.YtfihpbeihlpfcaaZFnOi
set_option linter.unusedVariables false
set_option linter.unusedSimpArgs false
namespace Go.Proofs.Ytfihpbeihlpfcaa.Ev
open Go Go.Proofs

theorem ordT_zero {a b : Str} (h : ordT a b = 0) : a = b := by
  unfold ordT at h
  split at h
  · omega
  · split at h
    · omega
    · rename_i h1 h2; exact ltB_tri (by simpa using h1) (by simpa using h2)
theorem ordT_neg {a b : Str} : ordT a b < 0 ↔ ltB a b = true := by
  unfold ordT
  constructor
  · intro h; split at h
    · assumption
    · split at h <;> omega
  · intro h; rw [if_pos h]; omega
theorem orderL_trans : ∀ {a b c : List Str}, orderL a b < 0 → orderL b c < 0 → orderL a c < 0
  | [], [], c, h, _ => by simp [orderL] at h
  | [], _ :: _, [], _, h => by simp [orderL] at h
  | [], _ :: _, _ :: _, _, _ => by simp [orderL]
  | _ :: _, [], c, h, _ => by simp [orderL] at h
  | _ :: _, _ :: _, [], _, h => by simp [orderL] at h
  | a :: x, b :: y, c :: z, h1, h2 => by
    rw [orderL_cons] at h1 h2 ⊢
    by_cases e1 : ordT a b = 0
    · rw [if_neg (by omega)] at h1
      have := ordT_zero e1; subst this
      by_cases e2 : ordT a c = 0
      · rw [if_neg (by omega)] at h2 ⊢; exact orderL_trans h1 h2
      · rw [if_pos e2] at h2 ⊢; exact h2
    · rw [if_pos e1] at h1
      by_cases e2 : ordT b c = 0
      · have := ordT_zero e2; subst this
        rw [if_pos e1]; exact h1
      · rw [if_pos e2] at h2
        have h3 : ordT a c < 0 := ordT_neg.2 (ltB_trans (ordT_neg.1 h1) (ordT_neg.1 h2))
        rw [if_pos (by omega)]; exact h3
theorem snoc_rec {α : Type} {p : List α → Prop} (h0 : p []) (h1 : ∀ l x, p l → p (l ++ [x])) (l : List α) : p l := by
  have : ∀ n, ∀ l : List α, l.length = n → p l := by
    intro n
    induction n with
    | zero => intro l h; rw [List.eq_nil_of_length_eq_zero h]; exact h0
    | succ n ih =>
      intro l h
      have hne : l ≠ [] := by intro e; rw [e] at h; cases h
      rw [← List.dropLast_concat_getLast hne]
      exact h1 _ _ (ih _ (by simp; omega))
  exact this _ l rfl
/-! ### what stands in the tree of a book's patterns -/
def Dist (L : List Pat) : Prop := L.Pairwise fun p q => p.1 ≠ q.1
theorem treeF_pre (L : List Pat) : PreF (treeF L) := by
  refine snoc_rec (p := fun L => PreF (treeF L)) ?_ (fun M p ih => ?_) L
  · intro π ρ h
    show (if π ++ ρ = [] then some [] else none) = none
    rw [if_neg]
    intro e
    have e2 : π = [] := (List.append_eq_nil_iff.1 e).1
    have : (if π = [] then some ([] : List Int) else none) = none := h
    rw [if_pos e2] at this; cases this
  · intro π ρ h
    rw [treeF_snoc] at h ⊢
    unfold putF at h ⊢
    split at h
    · cases h
    rename_i e1
    split at h
    · cases h
    rename_i e2
    rw [if_neg, if_neg]
    · exact ih π ρ h
    · exact fun q => e2 ((List.prefix_append π ρ).trans q)
    · exact fun q => e2 (q ▸ List.prefix_append π ρ)
theorem treeF_val (L : List Pat) : ∀ π lv, treeF L π = some lv → lv = [] ∨ ∃ p ∈ L, p.1 = π ∧ p.2 = lv := by
  refine snoc_rec (p := fun L => ∀ π lv, treeF L π = some lv → lv = [] ∨ ∃ p ∈ L, p.1 = π ∧ p.2 = lv) ?_ (fun M p ih => ?_) L
  · intro π lv h
    have : (if π = [] then some ([] : List Int) else none) = some lv := h
    split at this
    · cases this; exact .inl rfl
    · cases this
  · intro π lv h
    rw [treeF_snoc] at h
    unfold putF at h
    split at h
    · rename_i e; cases h; exact .inr ⟨p, by simp, e.symm, rfl⟩
    · split at h
      · cases hm : treeF M π with
        | none => rw [hm] at h; cases h; exact .inl rfl
        | some x =>
          rw [hm] at h; cases h
          rcases ih π x hm with e | ⟨q, hq, e1, e2⟩
          · exact .inl e
          · exact .inr ⟨q, by simp [hq], e1, e2⟩
      · rcases ih π lv h with e | ⟨q, hq, e1, e2⟩
        · exact .inl e
        · exact .inr ⟨q, by simp [hq], e1, e2⟩
theorem treeF_has (L : List Pat) : Dist L → ∀ p ∈ L, treeF L p.1 = some p.2 := by
  refine snoc_rec (p := fun L => Dist L → ∀ p ∈ L, treeF L p.1 = some p.2) (fun _ p hp => by cases hp) (fun M q ih hd p hp => ?_) L
  obtain ⟨d1, _, d3⟩ := List.pairwise_append.1 hd
  rw [treeF_snoc]
  unfold putF
  rcases List.mem_append.1 hp with hp | hp
  · rw [if_neg (d3 p hp q (by simp)), ih d1 p hp]
    split <;> rfl
  · rw [List.mem_singleton] at hp; subst hp
    rw [if_pos rfl]
theorem treeF_new {L : List Pat} (hd : Dist L) {i : Nat} (hi : i < L.length) : (treeF (L.take i) (nth L i).1).getD [] = [] := by
  cases h : treeF (L.take i) (nth L i).1 with
  | none => rfl
  | some lv =>
    rcases treeF_val _ _ _ h with e | ⟨p, hp, e, _⟩
    · rw [e]; rfl
    · exfalso
      obtain ⟨j, hj, rfl⟩ := List.getElem_of_mem hp
      rw [List.length_take] at hj
      rw [List.getElem_take] at e
      have := List.pairwise_iff_getElem.1 hd j i (by omega) hi (by omega)
      rw [nth_eq hi] at e
      exact this e
/-- Patterns as a book has them. -/
def PatOk (p : Pat) : Prop := p.1 ≠ [] ∧ p.2.length = p.1.length + 1 ∧ ∀ x ∈ p.2, 0 ≤ x
/-! ### the reference -/
def standB (s w : List Str) (p : Nat) : Bool := (List.range s.length).all fun i => decide (p + i ≤ w.length + 1) && decide (exS w (p + i) = some (nth s i))
theorem stand_exL (w : List Str) : ∀ (s : List Str) (p : Nat), (∀ i, i < s.length → exS w (p + i) = some (nth s i)) ↔ exL w p s.length = some s
  | [], p => by simp [exL]
  | x :: s, p => by
    rw [List.length_cons, exL]
    have ih := stand_exL w s (p + 1)
    have h0 : nth (x :: s) 0 = x := rfl
    have hs : ∀ i, nth (x :: s) (i + 1) = nth s i := fun i => rfl
    constructor
    · intro h
      have h1 := h 0 (by simp)
      rw [Nat.add_zero, h0] at h1
      rw [h1]
      have h2 := ih.1 fun i hi => by
        have := h (i + 1) (by simp; omega)
        rw [hs] at this
        rw [← this]; congr 1; omega
      simp [h2]
    · intro h i hi
      cases hx : exS w p with
      | none => rw [hx] at h; cases h
      | some y =>
        rw [hx] at h
        simp only [Option.bind_some, Option.map_eq_some_iff] at h
        obtain ⟨ρ, h1, h2⟩ := h
        cases h2
        have h3 := ih.2 h1
        rcases Nat.eq_zero_or_pos i with rfl | hpos
        · rw [Nat.add_zero, h0]; exact hx
        · obtain ⟨j, rfl⟩ : ∃ j, i = j + 1 := ⟨i - 1, by omega⟩
          rw [hs, ← h3 j (by simpa using hi)]; congr 1; omega
theorem exL_len {w : List Str} : ∀ {m i : Nat} {ρ : List Str}, exL w i m = some ρ → ρ.length = m
  | 0, i, ρ, h => by rw [exL] at h; cases h; rfl
  | m + 1, i, ρ, h => by
    rw [exL] at h
    cases hx : exS w i with
    | none => rw [hx] at h; cases h
    | some s =>
      rw [hx] at h
      simp only [Option.bind_some, Option.map_eq_some_iff] at h
      obtain ⟨ρ', h1, rfl⟩ := h
      rw [List.length_cons, exL_len h1]
theorem standB_iff {s w : List Str} {p : Nat} (hs : s ≠ []) : standB s w p = true ↔ p + s.length ≤ w.length + 2 ∧ exL w p s.length = some s := by
  have hl := List.length_pos_iff.2 hs
  rw [← stand_exL]
  unfold standB
  rw [List.all_eq_true]
  constructor
  · intro h
    have h1 := h (s.length - 1) (List.mem_range.2 (by omega))
    simp only [Bool.and_eq_true, decide_eq_true_eq] at h1
    refine ⟨by omega, fun i hi => ?_⟩
    have h2 := h i (List.mem_range.2 hi)
    simp only [Bool.and_eq_true, decide_eq_true_eq] at h2
    exact h2.2
  · rintro ⟨h1, h2⟩ i hi
    have hi := List.mem_range.1 hi
    simp only [Bool.and_eq_true, decide_eq_true_eq]
    exact ⟨by omega, h2 i hi⟩
/-- The first k levels of a pattern at place p (one behind the reference's). -/
def updR (n : Nat) (o lv : List Int) (p : Nat) : Nat → List Int
  | 0 => o
  | k + 1 => if 1 ≤ p + k ∧ p + k ≤ n + 1 then (updR n o lv p k).set (p + k - 1) (max (nth (updR n o lv p k) (p + k - 1)) (nth lv k)) else updR n o lv p k
theorem updR_len (n : Nat) (o lv : List Int) (p : Nat) : ∀ k, (updR n o lv p k).length = o.length
  | 0 => rfl
  | k + 1 => by
    rw [updR]
    split
    · rw [List.length_set, updR_len n o lv p k]
    · exact updR_len n o lv p k
def rowR (w : List Str) (q : Pat) (o : List Int) : Nat → List Int
  | 0 => o
  | p + 1 => if standB q.1 w p = true then updR w.length (rowR w q o p) q.2 p q.2.length else rowR w q o p
theorem rowR_len (w : List Str) (q : Pat) (o : List Int) : ∀ p, (rowR w q o p).length = o.length
  | 0 => rfl
  | p + 1 => by
    rw [rowR]
    split
    · rw [updR_len, rowR_len w q o p]
    · exact rowR_len w q o p
def allR (ps : List Pat) (w : List Str) : Nat → List Int
  | 0 => List.replicate (w.length + 1) 0
  | i + 1 => rowR w (nth ps i) (allR ps w i) (w.length + 2)
theorem allR_len (ps : List Pat) (w : List Str) : ∀ i, (allR ps w i).length = w.length + 1
  | 0 => by rw [allR, List.length_replicate]
  | i + 1 => by rw [allR, rowR_len, allR_len ps w i]
theorem updR_sup {n : Nat} {o lv : List Int} {p : Nat} {C : Nat → Int → Prop} (h : Sup o C) (hn : o.length = n + 1) (hp : ∀ x ∈ lv, 0 ≤ x) : ∀ k, k ≤ lv.length → Sup (updR n o lv p k) fun q x => C q x ∨ ∃ i, i < k ∧ q + 1 = p + i ∧ x = nth lv i
  | 0, _ => h.congr fun q _ x => ⟨.inl, fun h => h.elim id fun ⟨i, hi, _⟩ => absurd hi (Nat.not_lt_zero _)⟩
  | k + 1, hk => by
    have ih := updR_sup (p := p) h hn hp k (by omega)
    rw [updR]
    by_cases hc : 1 ≤ p + k ∧ p + k ≤ n + 1
    · rw [if_pos hc]
      refine (ih.upd (j := p + k - 1) (by rw [updR_len]; omega) (hp _ (nth_mem (by omega)))).congr fun q hq x => ?_
      constructor
      · rintro ((hc | ⟨i, hi, h1, h2⟩) | ⟨h1, h2⟩)
        · exact .inl hc
        · exact .inr ⟨i, by omega, h1, h2⟩
        · exact .inr ⟨k, by omega, by omega, h2⟩
      · rintro (hc | ⟨i, hi, h1, h2⟩)
        · exact .inl (.inl hc)
        · rcases Nat.lt_or_ge i k with h | h
          · exact .inl (.inr ⟨i, h, h1, h2⟩)
          · obtain rfl : i = k := by omega
            exact .inr ⟨by omega, h2⟩
    · rw [if_neg hc]
      refine ih.congr fun q hq x => ?_
      rw [updR_len] at hq
      constructor
      · rintro (hc | ⟨i, hi, h1, h2⟩)
        · exact .inl hc
        · exact .inr ⟨i, by omega, h1, h2⟩
      · rintro (hc2 | ⟨i, hi, h1, h2⟩)
        · exact .inl hc2
        · rcases Nat.lt_or_ge i k with h | h
          · exact .inr ⟨i, h, h1, h2⟩
          · obtain rfl : i = k := by omega
            omega
theorem rowR_sup {w : List Str} {q : Pat} {o : List Int} {C : Nat → Int → Prop} (h : Sup o C) (hn : o.length = w.length + 1) (hp : ∀ x ∈ q.2, 0 ≤ x) : ∀ n, Sup (rowR w q o n) fun j x => C j x ∨ ∃ p k, p < n ∧ standB q.1 w p = true ∧ k < q.2.length ∧ j + 1 = p + k ∧ x = nth q.2 k
  | 0 => h.congr fun _ _ x => ⟨.inl, fun h => h.elim id fun ⟨i, _, hi, _⟩ => absurd hi (Nat.not_lt_zero _)⟩
  | n + 1 => by
    have ih := rowR_sup h hn hp n
    rw [rowR]
    by_cases hs : standB q.1 w n = true
    · rw [if_pos hs]
      refine (updR_sup (p := n) ih (by rw [rowR_len]; exact hn) hp q.2.length (Nat.le_refl _)).congr fun j hj x => ?_
      constructor
      · rintro ((hc | ⟨p, k, h1, h2⟩) | ⟨k, h1, h2⟩)
        · exact .inl hc
        · exact .inr ⟨p, k, by omega, h2⟩
        · exact .inr ⟨n, k, by omega, hs, h1, h2⟩
      · rintro (hc | ⟨p, k, h1, h2, h3, h4⟩)
        · exact .inl (.inl hc)
        · rcases Nat.lt_or_ge p n with h | h
          · exact .inl (.inr ⟨p, k, h, h2, h3, h4⟩)
          · obtain rfl : p = n := by omega
            exact .inr ⟨k, h3, h4⟩
    · rw [if_neg hs]
      refine ih.congr fun j hj x => ?_
      constructor
      · rintro (hc | ⟨p, k, h1, h2⟩)
        · exact .inl hc
        · exact .inr ⟨p, k, by omega, h2⟩
      · rintro (hc | ⟨p, k, h1, h2, h3⟩)
        · exact .inl hc
        · rcases Nat.lt_or_ge p n with h | h
          · exact .inr ⟨p, k, h, h2, h3⟩
          · obtain rfl : p = n := by omega
            exact absurd h2 hs
theorem allR_sup {ps : List Pat} {w : List Str} (hp : ∀ q ∈ ps, ∀ x ∈ q.2, 0 ≤ x) : ∀ n, n ≤ ps.length → Sup (allR ps w n) fun j x => ∃ i p k, i < n ∧ p < w.length + 2 ∧ standB (nth ps i).1 w p = true ∧ k < (nth ps i).2.length ∧ j + 1 = p + k ∧ x = nth (nth ps i).2 k
  | 0, _ => (Sup.zero _).congr fun q _ x => ⟨False.elim, fun ⟨i, _, _, h, _⟩ => absurd h (Nat.not_lt_zero _)⟩
  | n + 1, hn => by
    rw [allR]
    refine (rowR_sup (allR_sup hp n (by omega)) (allR_len ps w n) (hp _ (nth_mem (by omega))) _).congr fun j hj x => ?_
    constructor
    · rintro (⟨i, p, k, h1, h2⟩ | ⟨p, k, h1, h2⟩)
      · exact ⟨i, p, k, by omega, h2⟩
      · exact ⟨n, p, k, by omega, h1, h2⟩
    · rintro ⟨i, p, k, h1, h2, h3⟩
      rcases Nat.lt_or_ge i n with h | h
      · exact .inl ⟨i, p, k, h, h2, h3⟩
      · obtain rfl : i = n := by omega
        exact .inr ⟨p, k, h2, h3⟩
/-- Both have the same levels. -/
theorem lvls_eq {ps : List Pat} {w : List Str} (hd : Dist ps) (hok : ∀ p ∈ ps, PatOk p) (hw : w.length ≤ 60) : lvlsF (treeF ps) w = allR ps w ps.length := by
  have hlen : ∀ π lv, treeF ps π = some lv → lv.length ≤ π.length + 1 := fun π lv h => by
    rcases treeF_val _ _ _ h with e | ⟨p, hp, e1, e2⟩
    · rw [e]; simp
    · rw [← e2, ← e1, (hok p hp).2.1]; exact Nat.le_refl _
  have hpos : ∀ π lv, treeF ps π = some lv → ∀ x ∈ lv, 0 ≤ x := fun π lv h => by
    rcases treeF_val _ _ _ h with e | ⟨p, hp, e1, e2⟩
    · rw [e]; intro x hx; cases hx
    · rw [← e2]; exact (hok p hp).2.2
  have h1 := outF_sup (treeF_pre ps) hlen hpos hw (w.length + 2) (Nat.le_refl _)
  have hol := outF_len (treeF ps) w (w.length + 2)
  have h2 := allR_sup (w := w) (fun q hq => (hok q hq).2.2) ps.length (Nat.le_refl _)
  have hll : (lvlsF (treeF ps) w).length = w.length + 1 := by rw [lvlsF, List.length_take, List.length_drop]; omega
  have hsh : ∀ q, q < w.length + 1 → nth (lvlsF (treeF ps) w) q = nth (outF (treeF ps) w (w.length + 2)) (q + 1) := fun q hq => by
    rw [nth_eq (by omega), nth_eq (by omega)]
    simp only [lvlsF, List.getElem_take, List.getElem_drop]
    congr 1; omega
  refine Sup.uniq (by rw [hll, allR_len]) (C := fun j x => ∃ i p k, i < ps.length ∧ p < w.length + 2 ∧ standB (nth ps i).1 w p = true ∧ k < (nth ps i).2.length ∧ j + 1 = p + k ∧ x = nth (nth ps i).2 k) ?_ h2
  intro q hq
  rw [hll] at hq
  rw [hsh q hq]
  obtain ⟨a1, a2, a3⟩ := h1 (q + 1) (by omega)
  have key : ∀ x, (∃ fr m ρ lv k, fr < w.length + 2 ∧ 1 ≤ m ∧ m ≤ w.length + 2 - fr ∧ exL w fr m = some ρ ∧ treeF ps ρ = some lv ∧ k < lv.length ∧ q + 1 = fr + k ∧ x = nth lv k) ↔
      ∃ i p k, i < ps.length ∧ p < w.length + 2 ∧ standB (nth ps i).1 w p = true ∧ k < (nth ps i).2.length ∧ q + 1 = p + k ∧ x = nth (nth ps i).2 k := fun x => by
    constructor
    · rintro ⟨fr, m, ρ, lv, k, g1, g2, g3, g4, g5, g6, g7, g8⟩
      rcases treeF_val _ _ _ g5 with e | ⟨p, hp, e1, e2⟩
      · rw [e] at g6; simp at g6
      · obtain ⟨i, hi, rfl⟩ := List.getElem_of_mem hp
        rw [← nth_eq hi] at e1 e2
        have hm := exL_len g4
        refine ⟨i, fr, k, hi, g1, (standB_iff (by rw [e1]; intro e; rw [e] at hm; simp at hm; omega)).2 ⟨by rw [e1]; omega, by rw [e1, hm]; exact g4⟩, by rw [e2]; exact g6, g7, by rw [e2]; exact g8⟩
    · rintro ⟨i, p, k, g1, g2, g3, g4, g5, g6⟩
      have hm := nth_mem g1
      obtain ⟨o1, o2, o3⟩ := hok _ hm
      obtain ⟨s1, s2⟩ := (standB_iff o1).1 g3
      have hl := List.length_pos_iff.2 o1
      exact ⟨p, (nth ps i).1.length, (nth ps i).1, (nth ps i).2, k, g2, hl, by omega, s2, treeF_has ps hd _ hm, g4, g5, g6⟩
  exact ⟨fun v hv => a1 v ((key v).2 hv), a2.imp id (key _).1, a3⟩
end Go.Proofs.Ytfihpbeihlpfcaa.Ev
