/- The best change, plainly: counts in tables, the order of changes, what both programs look for. -/
import Derived.Test.YtapgimibdamjoaaZFnNl
set_option linter.unusedVariables false
set_option linter.unusedSimpArgs false
namespace Go.Proofs.Ytapgimibdamjoaa.Ev
open Go Go.Proofs

/-! ### tables -/
def keysU {κ α : Type} (m : List (κ × α)) : Prop := (m.map (·.1)).Nodup
theorem keysU_erase {κ α : Type} {m : List (κ × α)} (h : keysU m) (i : Nat) : keysU (m.eraseIdx i) := h.sublist ((List.eraseIdx_sublist m i).map _)
section
variable {κ : Type} [DecidableEq κ] {α : Type}
theorem getM_none {m : List (κ × α)} {c : κ} : getM m c = none ↔ c ∉ m.map (·.1) := by
  induction m with
  | nil => simp [getM]
  | cons p m ih =>
    obtain ⟨a, x⟩ := p
    simp only [getM, List.map_cons, List.mem_cons, not_or]
    by_cases h : c = a
    · simp [h]
    · simp [h, ih]
theorem keysU_put {m : List (κ × α)} {c : κ} {y : α} (h : keysU m) : keysU (putM m c y) := by
  induction m with
  | nil => simp [putM, keysU]
  | cons p m ih =>
    obtain ⟨a, x⟩ := p
    obtain ⟨h1, h2⟩ := List.nodup_cons.1 h
    simp only [putM]
    by_cases e : c = a
    · subst e; rw [if_pos rfl]; exact List.nodup_cons.2 ⟨h1, h2⟩
    · rw [if_neg e]
      refine List.nodup_cons.2 ⟨fun hm => ?_, ih h2⟩
      have h3 : getM (putM m c y) a ≠ none := fun q => (getM_none.1 q) hm
      rw [getM_putM, if_neg (fun q => e q.symm)] at h3
      exact h3 (getM_none.2 h1)
theorem getM_get {m : List (κ × α)} (h : keysU m) {i : Nat} (hi : i < m.length) : getM m m[i].1 = some m[i].2 := by
  induction m generalizing i with
  | nil => simp at hi
  | cons p m ih =>
    obtain ⟨h1, h2⟩ := List.nodup_cons.1 h
    cases i with
    | zero => simp [getM]
    | succ i =>
      have hi' : i < m.length := by simpa using hi
      have hne : m[i].1 ≠ p.1 := fun e => h1 (by show p.1 ∈ _; rw [← e]; exact List.mem_map_of_mem (List.getElem_mem hi'))
      simp only [List.getElem_cons_succ]
      obtain ⟨a, x⟩ := p
      rw [getM, if_neg hne]; exact ih h2 hi'
theorem getM_erase {m : List (κ × α)} (h : keysU m) {i : Nat} (hi : i < m.length) (c : κ) : getM (m.eraseIdx i) c = if c = m[i].1 then none else getM m c := by
  induction m generalizing i with
  | nil => simp at hi
  | cons p m ih =>
    obtain ⟨h1, h2⟩ := List.nodup_cons.1 h
    obtain ⟨a, x⟩ := p
    cases i with
    | zero =>
      simp only [List.eraseIdx_cons_zero, List.getElem_cons_zero, getM]
      by_cases e : c = a
      · rw [if_pos e, e]; exact getM_none.2 h1
      · rw [if_neg e, if_neg e]
    | succ i =>
      have hi' : i < m.length := by simpa using hi
      have hne : m[i].1 ≠ a := fun e => h1 (by show a ∈ _; rw [← e]; exact List.mem_map_of_mem (List.getElem_mem hi'))
      simp only [List.eraseIdx_cons_succ, List.getElem_cons_succ, getM, ih h2 hi']
      by_cases e : c = a
      · rw [if_pos e, if_pos e, if_neg (fun q => hne (by rw [← q, e]))]
      · rw [if_neg e, if_neg e]
def cntK (l : List κ) (c : κ) : Nat := l.count c
theorem cntK_app (a b : List κ) (c : κ) : cntK (a ++ b) c = cntK a c + cntK b c := List.count_append
theorem cntK_nil (c : κ) : cntK [] c = 0 := rfl
theorem cntK_cons (x : κ) (a : List κ) (c : κ) : cntK (x :: a) c = cntK a c + if c = x then 1 else 0 := by
  rw [cntK, List.count_cons]
  by_cases e : c = x
  · subst e; simp [cntK]
  · have : (x == c) = false := by simpa using fun q => e q.symm
    simp [e, this, cntK]
theorem cntK_zero {a : List κ} {c : κ} : cntK a c = 0 ↔ c ∉ a := List.count_eq_zero
theorem cntK_one : ∀ {a : List κ} {c : κ}, a.Nodup → c ∈ a → cntK a c = 1
  | [], c, _, hm => by simp at hm
  | x :: a, c, h, hm => by
    obtain ⟨h1, h2⟩ := List.nodup_cons.1 h
    rw [cntK_cons]
    by_cases e : c = x
    · subst e; rw [if_pos rfl, cntK_zero.2 h1]
    · rw [if_neg e, cntK_one h2 (by rcases List.mem_cons.1 hm with h | h; exact absurd h e; exact h)]
end

/-! ### the order of changes -/
theorem ltB_ir (a : Str) : ltB a a = false := ltB_irrefl a
theorem ahead_ir (a : Change) : aheadB a a = false := by simp [aheadB, ltB_ir]
theorem ahead_tri {a b : Change} (h1 : aheadB a b = false) (h2 : aheadB b a = false) : a = b := by
  obtain ⟨a1, a2, a3, a4⟩ := a
  obtain ⟨b1, b2, b3, b4⟩ := b
  simp only [aheadB] at h1 h2
  by_cases e1 : a1 = b1
  · subst e1
    by_cases e2 : a2 = b2
    · subst e2
      by_cases e3 : a3 = b3
      · subst e3
        simp only [ne_eq, not_true_eq_false, if_false] at h1 h2
        rw [ltB_tri h1 h2]
      · exfalso; simp [e3, Ne.symm e3] at h1 h2; omega
    · exfalso; simp [e2, Ne.symm e2] at h1 h2; exact e2 (ltB_tri h1 h2)
  · exfalso; simp [e1, Ne.symm e1] at h1 h2; exact e1 (ltB_tri h1 h2)
theorem ahead_iff {a b : Change} : aheadB a b = true ↔ ltB a.1 b.1 = true ∨ a.1 = b.1 ∧ (ltB a.2.1 b.2.1 = true ∨ a.2.1 = b.2.1 ∧ (a.2.2.1 < b.2.2.1 ∨ a.2.2.1 = b.2.2.1 ∧ ltB a.2.2.2 b.2.2.2 = true)) := by
  obtain ⟨a1, a2, a3, a4⟩ := a
  obtain ⟨b1, b2, b3, b4⟩ := b
  simp only [aheadB]
  by_cases e1 : a1 = b1
  · subst e1
    by_cases e2 : a2 = b2
    · subst e2
      by_cases e3 : a3 = b3
      · subst e3; simp [ltB_ir]
      · simp [e3, ltB_ir]
    · simp [e2, ltB_ir]
  · simp [e1]
theorem ahead_trans {a b c : Change} (h1 : aheadB a b = true) (h2 : aheadB b c = true) : aheadB a c = true := by
  rw [ahead_iff] at h1 h2 ⊢
  rcases h1 with h1 | ⟨e1, h1⟩
  · left
    rcases h2 with h2 | ⟨e2, _⟩
    · exact ltB_trans h1 h2
    · rw [← e2]; exact h1
  · rcases h2 with h2 | ⟨e2, h2⟩
    · left; rw [e1]; exact h2
    · right
      refine ⟨e1.trans e2, ?_⟩
      rcases h1 with h1 | ⟨e1, h1⟩
      · left
        rcases h2 with h2 | ⟨e2, _⟩
        · exact ltB_trans h1 h2
        · rw [← e2]; exact h1
      · rcases h2 with h2 | ⟨e2, h2⟩
        · left; rw [e1]; exact h2
        · right
          refine ⟨e1.trans e2, ?_⟩
          rcases h1 with h1 | ⟨e1, h1⟩
          · left
            rcases h2 with h2 | ⟨e2, _⟩ <;> omega
          · rcases h2 with h2 | ⟨e2, h2⟩
            · left; omega
            · right; exact ⟨e1.trans e2, ltB_trans h1 h2⟩
theorem cmpS_0 {a b : Str} : cmpS a b = 0 ↔ a = b := by
  rw [cmpS]
  constructor
  · intro h
    split at h
    · cases h
    · split at h
      · cases h
      · exact ltB_tri (by simpa using ‹¬ltB a b = true›) (by simpa using ‹¬ltB b a = true›)
  · rintro rfl; simp [ltB_ir]
theorem cmpS_lt {a b : Str} : cmpS a b < 0 ↔ ltB a b = true := by
  rw [cmpS]
  split
  · simp [*]
  · split <;> simp [*]
theorem ord_ahead (a b : Change) : ordC a b < 0 ↔ aheadB a b = true := by
  rw [ahead_iff, ordC]
  simp only [orI]
  by_cases e1 : a.1 = b.1
  · rw [if_neg (by simpa using cmpS_0.2 e1)]
    by_cases e2 : a.2.1 = b.2.1
    · rw [if_neg (by simpa using cmpS_0.2 e2)]
      by_cases e3 : a.2.2.1 = b.2.2.1
      · rw [if_neg (by simp [cmpI, e3])]
        by_cases e4 : a.2.2.2 = b.2.2.2
        · rw [if_neg (by simpa using cmpS_0.2 e4)]; simp [e1, e2, e3, e4, ltB_ir]
        · rw [if_pos (fun q => e4 (cmpS_0.1 q)), cmpS_lt]; simp [e1, e2, e3, ltB_ir]
      · rw [if_pos (by rw [cmpI]; split <;> (try split) <;> omega)]
        simp only [e1, e2, e3, ltB_ir, cmpI]
        split <;> (try split) <;> simp <;> omega
    · rw [if_pos (fun q => e2 (cmpS_0.1 q)), cmpS_lt]; simp [e1, e2, ltB_ir]
  · rw [if_pos (fun q => e1 (cmpS_0.1 q)), cmpS_lt]; simp [e1]

/-! ### the best of some -/
def dfC : Change := (⟨#[]⟩, ⟨#[]⟩, 0, ⟨#[]⟩)
def BestIn (g : Change → Int) (S : Change → Prop) (r : Change × Int) : Prop :=
  (r = (dfC, 0) ∧ ∀ c, S c → g c ≤ 0) ∨ (0 < r.2 ∧ S r.1 ∧ g r.1 = r.2 ∧ ∀ c, S c → g c ≤ r.2 ∧ (g c = r.2 → aheadB c r.1 = false))
theorem BestIn.zero {g : Change → Int} {S : Change → Prop} {r : Change × Int} (h : BestIn g S r) : 0 ≤ r.2 := by
  rcases h with ⟨rfl, _⟩ | ⟨h, _⟩
  · exact Int.le_refl _
  · omega
theorem best_nil (g : Change → Int) {S : Change → Prop} (h : ∀ c, ¬S c) : BestIn g S (dfC, 0) := .inl ⟨rfl, fun c hc => absurd hc (h c)⟩
theorem best_step {g : Change → Int} {S S' : Change → Prop} {r : Change × Int} {c : Change} (h : BestIn g S r) (hS : ∀ x, S' x ↔ S x ∨ x = c) (hc : g c > r.2 ∨ (g c = r.2 ∧ 0 < g c ∧ aheadB c r.1 = true)) : BestIn g S' (c, g c) := by
  have h0 := h.zero
  refine .inr ⟨by show 0 < g c; omega, (hS c).2 (.inr rfl), rfl, fun x hx => ?_⟩
  show g x ≤ g c ∧ (g x = g c → aheadB x c = false)
  rcases (hS x).1 hx with hx | rfl
  · rcases h with ⟨rfl, h⟩ | ⟨h1, h2, h3, h4⟩
    · have := h x hx; constructor
      · rcases hc with hc | hc <;> omega
      · intro; exfalso; rcases hc with hc | hc <;> omega
    · obtain ⟨a1, a2⟩ := h4 x hx
      refine ⟨by rcases hc with hc | hc <;> omega, fun e => ?_⟩
      rcases hc with hc | ⟨b1, b2, b3⟩
      · omega
      · have := a2 (by omega)
        cases q : aheadB x c with
        | false => rfl
        | true => rw [ahead_trans q b3] at this; cases this
  · exact ⟨Int.le_refl _, fun _ => ahead_ir x⟩
theorem best_skip {g : Change → Int} {S S' : Change → Prop} {r : Change × Int} {c : Change} (h : BestIn g S r) (hS : ∀ x, S' x ↔ S x ∨ x = c) (h1 : g c ≤ r.2) (h2 : g c = r.2 → 0 < g c → aheadB c r.1 = false) : BestIn g S' r := by
  rcases h with ⟨rfl, h⟩ | ⟨a1, a2, a3, a4⟩
  · refine .inl ⟨rfl, fun x hx => ?_⟩
    rcases (hS x).1 hx with hx | rfl
    · exact h x hx
    · exact h1
  · refine .inr ⟨a1, (hS _).2 (.inl a2), a3, fun x hx => ?_⟩
    rcases (hS x).1 hx with hx | rfl
    · exact a4 x hx
    · exact ⟨h1, fun e => h2 e (by omega)⟩
theorem best_mono {g : Change → Int} {S S' : Change → Prop} {r : Change × Int} (h : BestIn g S r) (h1 : ∀ x, S x → S' x) (h2 : ∀ x, S' x → S x ∨ g x ≤ 0) : BestIn g S' r := by
  rcases h with ⟨rfl, h⟩ | ⟨a1, a2, a3, a4⟩
  · refine .inl ⟨rfl, fun x hx => ?_⟩
    rcases h2 x hx with hx | hx
    · exact h x hx
    · exact hx
  · refine .inr ⟨a1, h1 _ a2, a3, fun x hx => ?_⟩
    rcases h2 x hx with hx | hx
    · exact a4 x hx
    · exact ⟨by omega, fun e => by omega⟩
theorem best_same {g : Change → Int} {S : Change → Prop} {r s : Change × Int} (h : BestIn g S r) (k : BestIn g S s) : r = s := by
  rcases h with ⟨rfl, h⟩ | ⟨a1, a2, a3, a4⟩
  · rcases k with ⟨rfl, k⟩ | ⟨b1, b2, b3, b4⟩
    · rfl
    · have := h _ b2; omega
  · rcases k with ⟨rfl, k⟩ | ⟨b1, b2, b3, b4⟩
    · have := k _ a2; omega
    · have h1 := a4 _ b2
      have h2 := b4 _ a2
      have e : r.2 = s.2 := by omega
      obtain ⟨r1, r2⟩ := r
      obtain ⟨s1, s2⟩ := s
      simp only at *
      subst e
      rw [ahead_tri (h2.2 (by omega)) (h1.2 (by omega))]
theorem best_some (g : Change → Int) : ∀ (l : List Change), ∃ r, BestIn g (· ∈ l) r
  | [] => ⟨_, best_nil g (by simp)⟩
  | c :: l => by
    obtain ⟨r, h⟩ := best_some g l
    have hS : ∀ x, x ∈ c :: l ↔ x ∈ l ∨ x = c := fun x => by simp [or_comm]
    by_cases hc : g c > r.2 ∨ (g c = r.2 ∧ 0 < g c ∧ aheadB c r.1 = true)
    · exact ⟨_, best_step h hS hc⟩
    · exact ⟨_, best_skip h hS (by omega) fun e1 e2 => by
        cases q : aheadB c r.1 with
        | false => rfl
        | true => exact absurd (.inr ⟨e1, e2, q⟩) hc⟩

/-! ### what a change makes right and wrong -/
abbrev Cand (c : Change) : Prop := (0 ≤ c.2.2.1 ∧ c.2.2.1 ≤ 9) ∧ argB c = true
theorem Cand.kd {c : Change} (h : Cand c) : KdC c := kd_arg h.1 h.2
def hitB (c : Change) (x : Lesson) (k : Nat) : Bool := decide (nth x.2.1 k ≠ nth x.2.2 k) && (decide (c.2.1 = nth x.2.2 k) && appB c x.1 x.2.1 k)
def cntN (p : Nat → Bool) : Nat → Nat
  | 0 => 0
  | k + 1 => cntN p k + if p k = true then 1 else 0
def cntF (q : Lesson → Nat → Bool) (ls : List Lesson) : Nat → Nat
  | 0 => 0
  | i + 1 => cntF q ls i + cntN (q (nth ls i)) (nth ls i).2.1.length
abbrev hits (c : Change) (ls : List Lesson) : Nat := cntF (hitB c) ls ls.length
theorem gn_le_hit (c : Change) (x : Lesson) : ∀ k, gnN c x k ≤ cntN (hitB c x) k
  | 0 => by simp [gnN, cntN]
  | k + 1 => by
    have := gn_le_hit c x k
    rw [gnN, cntN]
    by_cases ha : appB c x.1 x.2.1 k = true
    · have ht := app_tag ha
      rw [if_pos ha]
      by_cases e1 : nth x.2.2 k = c.2.1
      · by_cases e2 : nth x.2.2 k = c.1
        · rw [if_pos e1, if_pos e2]; split <;> omega
        · have hh : hitB c x k = true := by rw [hitB, ha, ht, e1]; simpa using fun q => e2 (by rw [e1, q])
          rw [if_pos e1, if_neg e2, if_pos hh]; omega
      · rw [if_neg e1]; split <;> split <;> omega
    · rw [if_neg ha]; split <;> omega
theorem gain_le_hits {c : Change} {ls : List Lesson} (h : OkLs ls) : gainL c ls ≤ hits c ls := by
  have : ∀ i, i ≤ ls.length → gnF c ls i ≤ cntF (hitB c) ls i := by
    intro i
    induction i with
    | zero => intro _; simp [gnF, cntF]
    | succ i ih =>
      intro hi
      have h3 := h.2 _ (nth_mem (l := ls) (i := i) (by omega))
      have h4 := gn_le_hit c (nth ls i) (nth ls i).2.2.length
      have := ih (by omega)
      rw [gnF, cntF]
      rw [h3.2.2, ← h3.2.1] at h4 ⊢
      omega
  exact this _ (Nat.le_refl _)
theorem hits_ne {c : Change} : ∀ {ls : List Lesson} {i : Nat}, cntF (hitB c) ls i ≠ 0 → c.1 ≠ c.2.1
  | ls, 0, h => by simp [cntF] at h
  | ls, i + 1, h => by
    rw [cntF] at h
    by_cases h1 : cntF (hitB c) ls i = 0
    · have : ∀ k, cntN (hitB c (nth ls i)) k ≠ 0 → c.1 ≠ c.2.1 := by
        intro k
        induction k with
        | zero => intro h; simp [cntN] at h
        | succ k ih =>
          intro hk
          rw [cntN] at hk
          by_cases h2 : cntN (hitB c (nth ls i)) k = 0
          · have h3 : hitB c (nth ls i) k = true := by
              by_cases h3 : hitB c (nth ls i) k = true
              · exact h3
              · rw [if_neg h3] at hk; omega
            simp only [hitB, Bool.and_eq_true, decide_eq_true_eq] at h3
            rw [← app_tag h3.2.2, h3.2.1]; exact h3.1
          · exact ih h2
      exact this (nth ls i).2.1.length (by omega)
    · exact hits_ne h1
abbrev IsBest (ls : List Lesson) (r : Change × Int) : Prop := BestIn (fun c => gainL c ls) Cand r
open Classical in
noncomputable def bestL (ls : List Lesson) : Change × Int := if h : ∃ r, IsBest ls r then h.choose else (dfC, 0)
theorem best_eq {ls : List Lesson} {r : Change × Int} (h : IsBest ls r) : r = bestL ls := by
  have hx : ∃ r, IsBest ls r := ⟨r, h⟩
  rw [bestL, dif_pos hx]
  exact best_same h hx.choose_spec
end Go.Proofs.Ytapgimibdamjoaa.Ev
