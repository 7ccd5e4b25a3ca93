/- Rows of words, in order, each with how often it stands: the plain law. -/
import Derived.Test.YtedbjmonfbpefaaZFnO
import Derived.Test.YtedbjmonfbpefaaZFnQ
set_option linter.unusedVariables false
set_option linter.unusedSimpArgs false
namespace Go.Proofs.Ytedbjmonfbpefaa.Ev
open Go Go.Proofs

theorem ordS_anti (a b : Str) : ordS b a = - ordS a b := by
  unfold ordS
  cases h1 : ltB a b <;> cases h2 : ltB b a
  · simp
  · simp
  · simp
  · have := ltB_asymm h1; rw [h2] at this; cases this
theorem ordS_eq {a b : Str} (h : ordS a b = 0) : a = b := ltB_tri (ordS_zero h).1 (ordS_zero h).2
theorem ordS_neg {a b : Str} : ordS a b < 0 ↔ ltB a b = true := by
  unfold ordS
  constructor
  · intro h; split at h
    · assumption
    · split at h <;> omega
  · intro h; rw [if_pos h]; omega
theorem cmpL_cons (a b : Str) (x y : List Str) : cmpL (a :: x) (b :: y) = if ordS a b ≠ 0 then ordS a b else cmpL x y := by
  rw [cmpL]; split <;> simp_all
theorem cmpL_anti : ∀ (a b : List Str), cmpL b a = - cmpL a b
  | [], [] => by simp [cmpL]
  | [], _ :: _ => by simp [cmpL]
  | _ :: _, [] => by simp [cmpL]
  | a :: x, b :: y => by
    have h := ordS_anti a b
    have i := cmpL_anti x y
    rw [cmpL_cons, cmpL_cons]
    by_cases e : ordS a b = 0
    · rw [if_neg (by omega), if_neg (by omega)]; exact i
    · rw [if_pos (by omega), if_pos e]; exact h
theorem cmpL_trans : ∀ {a b c : List Str}, cmpL a b < 0 → cmpL b c < 0 → cmpL a c < 0
  | [], [], c, h, _ => by simp [cmpL] at h
  | [], _ :: _, [], _, h => by simp [cmpL] at h
  | [], _ :: _, _ :: _, _, _ => by simp [cmpL]
  | _ :: _, [], c, h, _ => by simp [cmpL] at h
  | _ :: _, _ :: _, [], _, h => by simp [cmpL] at h
  | a :: x, b :: y, c :: z, h1, h2 => by
    rw [cmpL_cons] at h1 h2 ⊢
    by_cases e1 : ordS a b = 0
    · rw [if_neg (by omega)] at h1
      have := ordS_eq e1; subst this
      by_cases e2 : ordS a c = 0
      · rw [if_neg (by omega)] at h2 ⊢; exact cmpL_trans h1 h2
      · rw [if_pos e2] at h2 ⊢; exact h2
    · rw [if_pos e1] at h1
      by_cases e2 : ordS b c = 0
      · have := ordS_eq e2; subst this
        rw [if_pos e1]; exact h1
      · rw [if_pos e2] at h2
        have h3 : ordS a c < 0 := ordS_neg.2 (ltB_trans (ordS_neg.1 h1) (ordS_neg.1 h2))
        rw [if_pos (by omega)]; exact h3
/-! ### grams in order -/
def AscG (l : List Gram) : Prop := l.Pairwise fun a b => cmpL a.1 b.1 < 0
def valG : List Gram → List Str → Int
  | [], _ => 0
  | g :: l, w => if g.1 = w then g.2 else valG l w
def insG (w : List Str) (many : Int) : List Gram → List Gram
  | [] => [(w, many)]
  | g :: l => if cmpL g.1 w = 0 then (g.1, g.2 + many) :: l else if cmpL g.1 w < 0 then g :: insG w many l else (w, many) :: g :: l
theorem valG_none {l : List Gram} {w : List Str} (h : ∀ g ∈ l, g.1 ≠ w) : valG l w = 0 := by
  induction l with
  | nil => rfl
  | cons g l ih => rw [valG, if_neg (h g (by simp))]; exact ih fun x hx => h x (by simp [hx])
theorem asc_ne {g : Gram} {l : List Gram} (h : AscG (g :: l)) : ∀ x ∈ l, x.1 ≠ g.1 := fun x hx e => by
  have := (List.pairwise_cons.1 h).1 x hx
  rw [e, (cmpL_zero _ _).2 rfl] at this; omega
theorem insG_mem {w : List Str} {m : Int} : ∀ {l : List Gram} {x : Gram}, x ∈ insG w m l → x.1 = w ∨ ∃ y ∈ l, y.1 = x.1
  | [], x, h => by simp [insG] at h; left; rw [h]
  | g :: l, x, h => by
    simp only [insG] at h
    split at h
    · rcases List.mem_cons.1 h with rfl | h
      · right; exact ⟨g, by simp, rfl⟩
      · right; exact ⟨x, by simp [h], rfl⟩
    · split at h
      · rcases List.mem_cons.1 h with rfl | h
        · right; exact ⟨x, by simp, rfl⟩
        · rcases insG_mem h with h | ⟨y, hy, e⟩
          · exact .inl h
          · right; exact ⟨y, by simp [hy], e⟩
      · rcases List.mem_cons.1 h with rfl | h
        · left; rfl
        · right; exact ⟨x, h, rfl⟩
theorem asc_insG {w : List Str} {m : Int} : ∀ {l : List Gram}, AscG l → AscG (insG w m l)
  | [], _ => by simp [insG, AscG]
  | g :: l, h => by
    obtain ⟨h1, h2⟩ := List.pairwise_cons.1 h
    simp only [insG]
    split
    · exact List.pairwise_cons.2 ⟨h1, h2⟩
    · rename_i e1
      split
      · rename_i e2
        refine List.pairwise_cons.2 ⟨fun x hx => ?_, asc_insG h2⟩
        rcases insG_mem hx with e | ⟨y, hy, e⟩
        · rw [e]; exact e2
        · rw [← e]; exact h1 y hy
      · rename_i e2
        have a := cmpL_anti g.1 w
        refine List.pairwise_cons.2 ⟨fun x hx => ?_, h⟩
        rcases List.mem_cons.1 hx with rfl | hx
        · show cmpL w x.1 < 0; omega
        · exact cmpL_trans (show cmpL w g.1 < 0 by omega) (h1 x hx)
theorem val_insG {w v : List Str} {m : Int} : ∀ {l : List Gram}, AscG l → valG (insG w m l) v = valG l v + if w = v then m else 0
  | [], _ => by simp [insG, valG]
  | g :: l, h => by
    obtain ⟨h1, h2⟩ := List.pairwise_cons.1 h
    simp only [insG]
    split
    · rename_i e1
      have e := (cmpL_zero _ _).1 e1
      simp only [valG]
      by_cases e3 : g.1 = v
      · rw [if_pos e3, if_pos e3, if_pos (by rw [← e]; exact e3)]
      · rw [if_neg e3, if_neg e3, if_neg (by rw [← e]; exact e3)]; omega
    · rename_i e1
      have hne : g.1 ≠ w := fun e => e1 ((cmpL_zero _ _).2 e)
      split
      · simp only [valG]
        by_cases e3 : g.1 = v
        · rw [if_pos e3, if_pos e3, if_neg (fun e => hne (e3.trans e.symm))]; omega
        · rw [if_neg e3, if_neg e3]; exact val_insG h2
      · rename_i e2
        have a := cmpL_anti g.1 w
        have hnl : ∀ x ∈ g :: l, x.1 ≠ w := fun x hx e => by
          rcases List.mem_cons.1 hx with rfl | hx
          · exact hne e
          · have := cmpL_trans (show cmpL w g.1 < 0 by omega) (h1 x hx)
            rw [e, (cmpL_zero _ _).2 rfl] at this; omega
        rw [valG]
        by_cases e3 : w = v
        · rw [if_pos e3, if_pos e3, valG_none (by rw [← e3]; exact hnl)]; show m = 0 + m; omega
        · rw [if_neg e3, if_neg e3]; omega
theorem asc_ext : ∀ {a b : List Gram}, AscG a → AscG b → (∀ g ∈ a, 0 < g.2) → (∀ g ∈ b, 0 < g.2) → (∀ w, valG a w = valG b w) → a = b
  | [], [], _, _, _, _, _ => rfl
  | [], g :: b, _, _, _, hb, h => by
    have := h g.1; rw [valG, valG, if_pos rfl] at this; have := hb g (by simp); omega
  | g :: a, [], _, _, ha, _, h => by
    have := h g.1; rw [valG, valG, if_pos rfl] at this; have := ha g (by simp); omega
  | x :: a, y :: b, h1, h2, ha, hb, h => by
    obtain ⟨p1, p2⟩ := List.pairwise_cons.1 h1
    obtain ⟨q1, q2⟩ := List.pairwise_cons.1 h2
    have e : x.1 = y.1 := by
      have hx := h x.1
      have hy := h y.1
      simp only [valG, if_true] at hx hy
      have px := ha x (by simp)
      have py := hb y (by simp)
      by_cases e : x.1 = y.1
      · exact e
      · exfalso
        rw [if_neg (Ne.symm e)] at hx
        rw [if_neg e] at hy
        have m1 : ∃ z ∈ b, z.1 = x.1 := by
          by_cases hh : ∃ z ∈ b, z.1 = x.1
          · exact hh
          · rw [valG_none fun z hz e2 => hh ⟨z, hz, e2⟩] at hx; omega
        have m2 : ∃ z ∈ a, z.1 = y.1 := by
          by_cases hh : ∃ z ∈ a, z.1 = y.1
          · exact hh
          · rw [valG_none fun z hz e2 => hh ⟨z, hz, e2⟩] at hy; omega
        obtain ⟨z, hz, ez⟩ := m1
        obtain ⟨u, hu, eu⟩ := m2
        have l1 := q1 z hz
        have l2 := p1 u hu
        rw [ez] at l1
        rw [eu] at l2
        have := cmpL_trans l1 l2
        rw [(cmpL_zero _ _).2 rfl] at this; omega
    have ev : x.2 = y.2 := by
      have := h x.1
      simp only [valG, if_true] at this
      rwa [if_pos e.symm] at this
    have exy : x = y := Prod.ext e ev
    subst exy
    congr 1
    refine asc_ext p2 q2 (fun g hg => ha g (by simp [hg])) (fun g hg => hb g (by simp [hg])) fun w => ?_
    by_cases ew : x.1 = w
    · rw [valG_none fun z hz => by rw [← ew]; exact asc_ne h1 z hz, valG_none fun z hz => by rw [← ew]; exact asc_ne h2 z hz]
    · have := h w
      rwa [valG, valG, if_neg ew, if_neg ew] at this

theorem snoc_ind {α : Type} {p : List α → Prop} (h0 : p []) (h1 : ∀ l x, p l → p (l ++ [x])) (l : List α) : p l := by
  have : ∀ n, ∀ l : List α, l.length = n → p l := by
    intro n
    induction n with
    | zero => intro l h; rw [List.eq_nil_of_length_eq_zero h]; exact h0
    | succ n ih =>
      intro l h
      have hne : l ≠ [] := by intro e; rw [e] at h; cases h
      rw [← List.dropLast_concat_getLast hne]
      exact h1 _ _ (ih _ (by simp; omega))
  exact this _ l rfl
theorem insG_pos {w : List Str} {m : Int} (hm : 0 < m) : ∀ {l : List Gram}, (∀ g ∈ l, 0 < g.2) → ∀ g ∈ insG w m l, 0 < g.2
  | [], _, g, hg => by simp [insG] at hg; rw [hg]; exact hm
  | x :: l, h, g, hg => by
    have hx := h x (by simp)
    simp only [insG] at hg
    split at hg
    · rcases List.mem_cons.1 hg with rfl | hg
      · show 0 < x.2 + m; omega
      · exact h g (by simp [hg])
    · split at hg
      · rcases List.mem_cons.1 hg with rfl | hg
        · exact hx
        · exact insG_pos hm (fun y hy => h y (by simp [hy])) g hg
      · rcases List.mem_cons.1 hg with rfl | hg
        · exact hm
        · exact h g hg
end Go.Proofs.Ytedbjmonfbpefaa.Ev
