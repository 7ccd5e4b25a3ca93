/- Levels and breaks of a word: both. -/
import Derived.Test.YtfihpbeihlpfcaaZFnOk
set_option linter.unusedVariables false
set_option linter.unusedSimpArgs false
namespace Go.Proofs.Ytfihpbeihlpfcaa.Ev
open Go Go.Proofs

/-! ### what a right book says -/
theorem ascP {ps : List Pat} (h : (List.range ps.length).all (patsI ps) = true) : Dist ps ∧ ∀ p ∈ ps, patB p = true := by
  have h1 : ∀ i, i < ps.length → patsI ps i = true := fun i hi => List.all_eq_true.1 h i (List.mem_range.2 hi)
  have h2 : ∀ i, i < ps.length → patB (nth ps i) = true := fun i hi => by
    have := h1 i hi; simp only [patsI, Bool.and_eq_true] at this; exact this.1
  have h3 : ∀ i, i + 1 < ps.length → orderL (nth ps i).1 (nth ps (i + 1)).1 < 0 := fun i hi => by
    have := h1 (i + 1) hi
    simp only [patsI, Bool.and_eq_true, Bool.or_eq_true, decide_eq_true_eq, Nat.add_sub_cancel] at this
    rcases this.2 with h | h
    · omega
    · exact h
  have h4 : ∀ d i, i + d + 1 < ps.length → orderL (nth ps i).1 (nth ps (i + d + 1)).1 < 0 := by
    intro d
    induction d with
    | zero => intro i hi; exact h3 i hi
    | succ d ih => intro i hi; exact orderL_trans (ih i (by omega)) (h3 (i + d + 1) (by omega))
  refine ⟨List.pairwise_iff_getElem.2 fun i j hi hj hij e => ?_, fun p hp => ?_⟩
  · have := h4 (j - i - 1) i (by omega)
    rw [show i + (j - i - 1) + 1 = j by omega, nth_eq hi, nth_eq hj, e] at this
    have := orderL_zero.2 (rfl : ps[j].1 = ps[j].1)
    omega
  · obtain ⟨i, hi, rfl⟩ := List.getElem_of_mem hp
    rw [← nth_eq hi]; exact h2 i hi
theorem patB_ok {p : Pat} (h : patB p = true) : PatOk p := by
  simp only [patB, Bool.and_eq_true, decide_eq_true_eq, Bool.not_eq_true'] at h
  obtain ⟨⟨⟨h1, h2⟩, h3⟩, _⟩ := h
  refine ⟨fun e => h1 (by rw [e]; rfl), h2, fun x hx => ?_⟩
  have := List.any_eq_false.1 h3 x hx
  simp only [decide_eq_true_eq] at this
  omega
/-- What the walks need of a right book. -/
theorem book_facts {h : Book} (hv : vErr h = 0) : Dist h.2.2.1 ∧ (∀ p ∈ h.2.2.1, PatOk p) ∧ (∀ p ∈ h.2.2.1, p.1.length ≤ 60 ∧ p.2.length ≤ 61) ∧ h.2.2.1.length ≤ 300 ∧ h.2.2.2.1.length ≤ 300 ∧ h.2.2.2.2.length ≤ 24 ∧ bookB h = true ∧ wordsErr (bookW h) = 0 := by
  unfold vErr at hv
  split at hv
  · cases hv
  rename_i h0
  split at hv
  · rename_i q; exact absurd hv q
  rename_i h1
  split at hv
  · rename_i hb
    have hW : wordsErr (bookW h) = 0 := by omega
    have hb2 := hb
    simp only [bookB, Bool.and_eq_true] at hb2
    obtain ⟨hd, hp⟩ := ascP hb2.1.1.2
    have hok : ∀ p ∈ h.2.2.1, PatOk p := fun p hm => patB_ok (hp p hm)
    refine ⟨hd, hok, fun p hm => ?_, by omega, by omega, by omega, hb, hW⟩
    have hl := wordErr_len (wordsErr_mem hW p.1 (by simp only [bookW, List.mem_append, List.mem_map]; exact .inl ⟨p, hm, rfl⟩))
    have := (hok p hm).2.1
    omega
  · cases hv
def lvT (h : Book) (w : List Str) : List Int := allR h.2.2.1 w h.2.2.1.length
theorem tree_pats {h : Book} (hv : vErr h = 0) : FnR P 37 [sl h.2.2.1] fun r => NodeA (treeF h.2.2.1) r := by
  obtain ⟨hd, hok, hl, _⟩ := book_facts hv
  exact tree_ok h.2.2.1 (fun p hp => ⟨by have := hl p hp; omega, by have := hl p hp; omega, fun e => by have := (hok p hp).2.1; rw [e] at this; simp at this, (hok p hp).2.2⟩) fun i hi => treeF_new hd hi
theorem lvls_pats {h : Book} (hv : vErr h = 0) {w : List Str} (hw : w.length ≤ 60) {r : AV} (hr : NodeA (treeF h.2.2.1) r) : Fn P 39 [r, sl w] (sl (lvT h w)) := by
  obtain ⟨hd, hok, hl, _⟩ := book_facts hv
  rw [lvT, ← lvls_eq hd hok hw]
  exact levels1_ok _ r w hr hw fun π lv h => by
    rcases treeF_val _ _ _ h with e | ⟨p, hp, e1, e2⟩
    · rw [e]; simp
    · rw [← e2, ← e1, (hok p hp).2.1]; exact Nat.le_refl _
theorem askE_zero {h : Book} {w : List Str} (e : askE h w = 0) : vErr h = 0 ∧ wordErr w = 0 := by
  unfold askE at e
  split at e
  · rename_i q; exact absurd e q
  · exact ⟨by omega, e⟩
abbrev liA (r : List Int × Int) : AV := .tup [sl r.1, intA r.2]
end Go.Proofs.Ytfihpbeihlpfcaa.Ev
