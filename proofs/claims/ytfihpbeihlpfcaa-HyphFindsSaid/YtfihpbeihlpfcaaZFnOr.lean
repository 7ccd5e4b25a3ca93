/- A pattern that is one whole word finds just its breaks: plainly. -/
import Derived.Test.YtfihpbeihlpfcaaZFnOo
set_option linter.unusedVariables false
set_option linter.unusedSimpArgs false
namespace Go.Proofs.Ytfihpbeihlpfcaa.Ev
open Go Go.Proofs

def finU (n : Nat) : Nat → List Int
  | 0 => List.replicate (n + 3) 0
  | i + 1 => if 1 ≤ i ∧ i % 3 ≠ 0 then (finU n i).set (i + 1) (1 + 2 * ((i : Int) % 4)) else finU n i
def finA : Nat → List Int
  | 0 => []
  | i + 1 => if 1 ≤ i ∧ i % 3 ≠ 0 then finA i ++ [(i : Int)] else finA i
theorem finU_len (n : Nat) : ∀ i, (finU n i).length = n + 3
  | 0 => by rw [finU, List.length_replicate]
  | i + 1 => by rw [finU]; split <;> (try rw [List.length_set]) <;> exact finU_len n i
theorem finA_len : ∀ i, (finA i).length ≤ i
  | 0 => Nat.le_refl _
  | i + 1 => by
    have := finA_len i
    rw [finA]; split
    · rw [List.length_append, List.length_singleton]; omega
    · omega
theorem finU_at (n : Nat) : ∀ i, i ≤ n → ∀ q, q < n + 3 → nth (finU n i) q = if 2 ≤ q ∧ q ≤ i ∧ (q - 1) % 3 ≠ 0 then 1 + 2 * (((q - 1 : Nat) : Int) % 4) else 0
  | 0, _, q, hq => by
    rw [if_neg (by omega), finU, nth_eq (by rw [List.length_replicate]; exact hq), List.getElem_replicate]
  | i + 1, hi, q, hq => by
    have ih := finU_at n i (by omega) q hq
    rw [finU]
    split
    · rename_i hc
      rw [nth_set (by rw [finU_len]; exact hq)]
      split
      · rename_i e
        subst e
        rw [if_pos (by omega)]; rfl
      · rename_i e
        rw [ih]
        by_cases h : 2 ≤ q ∧ q ≤ i ∧ (q - 1) % 3 ≠ 0
        · rw [if_pos h, if_pos (by omega)]
        · rw [if_neg h, if_neg (by omega)]
    · rename_i hc
      rw [ih]
      by_cases h : 2 ≤ q ∧ q ≤ i ∧ (q - 1) % 3 ≠ 0
      · rw [if_pos h, if_pos (by omega)]
      · rw [if_neg h, if_neg (by omega)]
theorem finU_bd (n i : Nat) (hi : i ≤ n) : ∀ x ∈ finU n i, 0 ≤ x ∧ x ≤ 7 := by
  intro x hx
  obtain ⟨q, hq, rfl⟩ := List.getElem_of_mem hx
  rw [finU_len] at hq
  rw [← nth_eq (by rw [finU_len]; exact hq), finU_at n i hi q hq]
  split <;> omega
def finP (w : List Str) : Pat := ([edgeS] ++ w ++ [edgeS], finU w.length w.length)
def finH (w : List Str) : Book := (1, 1, [finP w], [], [])
theorem finP_len (w : List Str) : (finP w).1.length = w.length + 2 := by simp [finP]
theorem finP_at {w : List Str} {i : Nat} (hi : i < w.length + 2) : nth (finP w).1 i = if i = 0 ∨ i = w.length + 1 then edgeS else nth w (i - 1) := by
  rw [show (finP w).1 = [edgeS] ++ w ++ [edgeS] from rfl, nth_eq (by simp; omega)]
  rw [List.getElem_append]
  split
  · rename_i h
    rw [List.getElem_append]
    split
    · rename_i h2
      simp only [List.length_singleton] at h2
      obtain rfl : i = 0 := by omega
      rw [if_pos (.inl rfl)]; rfl
    · rename_i h2
      simp only [List.length_singleton, List.length_append] at h h2 ⊢
      rw [if_neg (by omega), nth_eq (by omega)]
  · rename_i h
    simp only [List.length_singleton, List.length_append] at h ⊢
    rw [if_pos (by omega)]
    simp
theorem standB_no {s w : List Str} {p i : Nat} (hi : i < s.length) (h : ¬ (p + i ≤ w.length + 1 ∧ exS w (p + i) = some (nth s i))) : standB s w p = false := range_no hi (by
  rw [Bool.and_eq_false_iff]
  rcases Decidable.not_and_iff_or_not.1 h with h | h
  · exact .inl (decide_eq_false h)
  · exact .inr (decide_eq_false h))
theorem exS_in {w : List Str} {i : Nat} (h : ∀ x ∈ w, x ≠ edgeS) (h1 : 1 ≤ i) (h2 : i ≤ w.length) : exS w i = some (nth w (i - 1)) := by
  rw [exS, if_neg (by omega), if_neg (h _ (nth_mem (by omega)))]
theorem exS_out {w : List Str} {i : Nat} (h : i = 0 ∨ w.length < i) : exS w i = some edgeS := by rw [exS, if_pos h]
theorem fin_stand {w : List Str} (he : ∀ x ∈ w, x ≠ edgeS) (h2 : 2 ≤ w.length) {p : Nat} (hp : p < w.length + 2) : standB (finP w).1 w p = true ↔ p = 0 := by
  constructor
  · intro h
    apply Classical.byContradiction
    intro h0
    have : standB (finP w).1 w p = false := by
      rcases Nat.lt_or_ge w.length p with q | q
      · exact standB_no (i := 1) (by rw [finP_len]; omega) (by omega)
      · refine standB_no (i := 0) (by rw [finP_len]; omega) ?_
        rintro ⟨_, h⟩
        rw [Nat.add_zero, exS_in he (by omega) q, finP_at (by omega), if_pos (.inl rfl)] at h
        exact he _ (nth_mem (by omega)) (Option.some.inj h)
    rw [this] at h; cases h
  · rintro rfl
    refine range_yes fun i hi => ?_
    rw [finP_len] at hi
    rw [Bool.and_eq_true]
    refine ⟨decide_eq_true (by omega), decide_eq_true ?_⟩
    rw [Nat.zero_add, finP_at hi]
    by_cases h : i = 0 ∨ i = w.length + 1
    · rw [if_pos h, exS_out (by omega)]
    · rw [if_neg h, exS_in he (by omega) (by omega)]
theorem fin_off {w : List Str} (he : ∀ x ∈ w, x ≠ edgeS) (h2 : 2 ≤ w.length) {p : Nat} (hp : p < w.length + 3) : standB (finP w).1 (w ++ [nth w 0]) p = false := by
  have he2 : ∀ x ∈ w ++ [nth w 0], x ≠ edgeS := fun x hx => by
    rcases List.mem_append.1 hx with h | h
    · exact he x h
    · rw [List.mem_singleton.1 h]; exact he _ (nth_mem (by omega))
  have hl : (w ++ [nth w 0]).length = w.length + 1 := by simp
  rcases Nat.eq_zero_or_pos p with rfl | q0
  · refine standB_no (i := w.length + 1) (by rw [finP_len]; omega) ?_
    rintro ⟨_, h⟩
    rw [exS_in he2 (by omega) (by omega), finP_at (by omega), if_pos (.inr rfl)] at h
    exact he2 _ (nth_mem (by omega)) (Option.some.inj h)
  rcases Nat.lt_or_ge (w.length + 1) p with q | q
  · exact standB_no (i := 1) (by rw [finP_len]; omega) (by omega)
  · refine standB_no (i := 0) (by rw [finP_len]; omega) ?_
    rintro ⟨_, h⟩
    rw [Nat.add_zero, exS_in he2 (by omega) (by omega), finP_at (by omega), if_pos (.inl rfl)] at h
    exact he2 _ (nth_mem (by omega)) (Option.some.inj h)
theorem fin_pos (w : List Str) : ∀ q ∈ [finP w], ∀ x ∈ q.2, 0 ≤ x := by
  intro q hq x hx
  rw [List.mem_singleton] at hq; subst hq
  exact (finU_bd _ _ (Nat.le_refl _) x hx).1
theorem fin_lv {w : List Str} (he : ∀ x ∈ w, x ≠ edgeS) (h2 : 2 ≤ w.length) : lvT (finH w) w = ((finU w.length w.length).drop 1).take (w.length + 1) := by
  have hs := allR_sup (w := w) (fin_pos w) 1 (Nat.le_refl _)
  have hl : (((finU w.length w.length).drop 1).take (w.length + 1)).length = w.length + 1 := by
    rw [List.length_take, List.length_drop, finU_len]; omega
  refine Sup.uniq (by rw [hl]; exact allR_len _ _ _) hs (fun q hq => ?_)
  rw [hl] at hq
  have e : nth (((finU w.length w.length).drop 1).take (w.length + 1)) q = nth (finU w.length w.length) (q + 1) := by
    rw [nth_eq (by rw [hl]; exact hq), List.getElem_take, List.getElem_drop, nth_eq (by rw [finU_len]; omega)]
    congr 1; omega
  rw [e]
  have hb := finU_bd w.length w.length (Nat.le_refl _) _ (nth_mem (l := finU w.length w.length) (i := q + 1) (by rw [finU_len]; omega))
  refine ⟨?_, .inr ⟨0, 0, q + 1, by omega, by omega, (fin_stand he h2 (by omega)).2 rfl, by show q + 1 < (finU _ _).length; rw [finU_len]; omega, by omega, rfl⟩, hb.1⟩
  rintro v ⟨i, p, k, h3, h4, h5, h6, h7, rfl⟩
  obtain rfl : i = 0 := by omega
  have := (fin_stand he h2 h4).1 h5
  subst this
  obtain rfl : k = q + 1 := by omega
  exact Int.le_refl _
theorem fin_lv0 {w : List Str} (he : ∀ x ∈ w, x ≠ edgeS) (h2 : 2 ≤ w.length) : lvT (finH w) (w ++ [nth w 0]) = List.replicate (w.length + 2) 0 := by
  have hs := allR_sup (w := w ++ [nth w 0]) (fin_pos w) 1 (Nat.le_refl _)
  have hl : (w ++ [nth w 0]).length = w.length + 1 := by simp
  refine Sup.uniq (by rw [List.length_replicate]; exact (allR_len _ _ _).trans (by rw [hl])) hs ((Sup.zero _).congr fun q hq x => ⟨False.elim, ?_⟩)
  rintro ⟨i, p, k, h3, h4, h5, h6⟩
  obtain rfl : i = 0 := by omega
  rw [show nth [finP w] 0 = finP w from rfl, fin_off he h2 (by omega)] at h5
  cases h5
theorem fin_odd {w : List Str} : ∀ k, k ≤ w.length → oddP (((finU w.length w.length).drop 1).take (w.length + 1)) w.length 1 1 k = finA k
  | 0, _ => rfl
  | k + 1, hk => by
    have ih := fin_odd (w := w) k (by omega)
    have hl : (((finU w.length w.length).drop 1).take (w.length + 1)).length = w.length + 1 := by
      rw [List.length_take, List.length_drop, finU_len]; omega
    have e : nth (((finU w.length w.length).drop 1).take (w.length + 1)) k = nth (finU w.length w.length) (k + 1) := by
      rw [nth_eq (by rw [hl]; omega), List.getElem_take, List.getElem_drop, nth_eq (by rw [finU_len]; omega)]
      congr 1; omega
    rw [finU_at _ _ (Nat.le_refl _) _ (by omega)] at e
    simp only [oddP, finA, ih]
    by_cases hc : 1 ≤ k ∧ k % 3 ≠ 0
    · rw [if_pos hc]
      rw [if_pos (by omega)] at e
      have : cndB (((finU w.length w.length).drop 1).take (w.length + 1)) w.length 1 1 k = true := by
        unfold cndB
        rw [e]
        simp only [Bool.and_eq_true, decide_eq_true_eq, Nat.add_sub_cancel]
        refine ⟨⟨⟨⟨by omega, by omega⟩, ?_⟩, by omega⟩, by omega⟩
        rw [Int.tmod_eq_emod_of_nonneg (by omega)]; omega
      rw [if_pos this]
    · rw [if_neg hc]
      rw [if_neg]
      intro h
      unfold cndB at h
      simp only [Bool.and_eq_true, decide_eq_true_eq] at h
      rw [if_neg (by omega)] at e
      rw [e] at h
      have := h.1.1.2
      simp at this
theorem odd_zero (m n : Nat) (lf rt : Int) : ∀ k, k ≤ m → oddP (List.replicate m 0) n lf rt k = []
  | 0, _ => rfl
  | k + 1, hk => by
    have ih := odd_zero m n lf rt k (by omega)
    simp only [oddP, ih]
    rw [if_neg]
    intro h
    unfold cndB at h
    simp only [Bool.and_eq_true, decide_eq_true_eq] at h
    have := h.1.1.2
    rw [nth_eq (by rw [List.length_replicate]; omega), List.getElem_replicate] at this
    simp at this
theorem edge_word : okText edgeS = true := by kernel_rfl
theorem fin_err {w : List Str} (he : ∀ x ∈ w, x ≠ edgeS) (hw : wordErr w = 0) (h2 : w.length ≤ 50) : vErr (finH w) = 0 := by
  obtain ⟨_, hs⟩ := wordErr_iff.1 hw
  have hW : wordErr (finP w).1 = 0 := by
    rw [wordErr_iff, finP_len]
    refine ⟨by omega, fun x hx => ?_⟩
    simp only [finP, List.mem_append, List.mem_singleton] at hx
    have hed : edgeS.size ≤ 16 ∧ okText edgeS = true ∧ edgeS.size ≠ 0 := ⟨by decide, edge_word, by decide⟩
    rcases hx with (rfl | hx) | rfl
    · exact hed
    · exact hs x hx
    · exact hed
  have h1 : wordsErr (bookW (finH w)) = 0 := by
    show wordsErr [(finP w).1] = 0
    simp only [wordsErr, hW]; decide
  have h3 : bookB (finH w) = true := by
    have hm : midL (finP w).1 = w := by
      simp only [midL, finP_len]
      show (([edgeS] ++ w ++ [edgeS]).drop 1).take (w.length + 2 - 2) = w
      simp
    have hp : patB (finP w) = true := by
      unfold patB
      rw [hm]
      simp only [Bool.and_eq_true, decide_eq_true_eq, Bool.not_eq_true']
      refine ⟨⟨⟨by rw [finP_len]; omega, by rw [finP_len]; exact finU_len _ _⟩, ?_⟩, ?_⟩
      · rw [List.any_eq_false]
        intro x hx
        have := finU_bd _ _ (Nat.le_refl _) x hx
        simp; omega
      · rw [List.any_eq_false]
        intro x hx
        simp only [decide_eq_true_eq]
        exact fun e => he x hx e.symm
    show (edgB (finH w) && (List.range 1).all (patsI [finP w]) && (List.range 0).all _ && (List.range 0).all _) = true
    simp only [List.range_zero, List.all_nil, Bool.and_true, Bool.and_eq_true]
    refine ⟨rfl, range_yes fun j hj => ?_⟩
    obtain rfl : j = 0 := by omega
    show (patB (finP w) && _) = true
    rw [hp]; rfl
  unfold vErr
  rw [if_neg (by show ¬ (300 < 1 ∨ 300 < 0 ∨ 24 < 0); omega), if_neg (by rw [h1]; omega), if_pos h3]
theorem fin_yes {w : List Str} (he : ∀ x ∈ w, x ≠ edgeS) (hw : wordErr w = 0) (h1 : 2 ≤ w.length) (h2 : w.length ≤ 50) : bksR (finH w) w = (finA w.length, 0) := by
  have ha : askE (finH w) w = 0 := by unfold askE; rw [fin_err he hw h2, hw]; rfl
  unfold bksR
  rw [if_neg (by rw [ha]; omega)]
  have : brT (finH w) w = finA w.length := by
    rw [← fin_odd (w := w) w.length (Nat.le_refl _), ← fin_lv he h1]; rfl
  rw [this]
theorem fin_no {w : List Str} (he : ∀ x ∈ w, x ≠ edgeS) (hw : wordErr w = 0) (h1 : 2 ≤ w.length) (h2 : w.length ≤ 50) : bksR (finH w) (w ++ [nth w 0]) = ([], 0) := by
  have hw2 : wordErr (w ++ [nth w 0]) = 0 := by
    obtain ⟨_, hs⟩ := wordErr_iff.1 hw
    rw [wordErr_iff]
    refine ⟨by simp; omega, fun x hx => ?_⟩
    rcases List.mem_append.1 hx with h | h
    · exact hs x h
    · rw [List.mem_singleton.1 h]; exact hs _ (nth_mem (by omega))
  have ha : askE (finH w) (w ++ [nth w 0]) = 0 := by unfold askE; rw [fin_err he hw h2, hw2]; rfl
  unfold bksR
  rw [if_neg (by rw [ha]; omega)]
  have : brT (finH w) (w ++ [nth w 0]) = [] := by
    show oddP (lvT (finH w) (w ++ [nth w 0])) (w ++ [nth w 0]).length 1 1 (w ++ [nth w 0]).length = []
    rw [fin_lv0 he h1]
    exact odd_zero _ _ _ _ _ (by simp)
  rw [this]
end Go.Proofs.Ytfihpbeihlpfcaa.Ev
