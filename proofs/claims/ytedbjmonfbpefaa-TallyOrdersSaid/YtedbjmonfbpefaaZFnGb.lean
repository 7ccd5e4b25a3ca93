/- Grams that lie in order, put together run by run: plainly. -/
import Derived.Test.YtedbjmonfbpefaaZFnGa
set_option linter.unusedVariables false
set_option linter.unusedSimpArgs false
namespace Go.Proofs.Ytedbjmonfbpefaa.Ev
open Go Go.Proofs

/-- How much w counts in grams. -/
def sumG (l : List Gram) (w : List Str) : Int := ((l.filter fun g => decide (g.1 = w)).map (·.2)).foldr (· + ·) 0
theorem sumG_cons (g : Gram) (l : List Gram) (w : List Str) : sumG (g :: l) w = (if g.1 = w then g.2 else 0) + sumG l w := by
  unfold sumG
  by_cases e : g.1 = w
  · rw [List.filter_cons_of_pos (by simpa using e), List.map_cons, List.foldr_cons, if_pos e]
  · rw [List.filter_cons_of_neg (by simpa using e), if_neg e]; omega
theorem sumG_app (a b : List Gram) (w : List Str) : sumG (a ++ b) w = sumG a w + sumG b w := by
  induction a with
  | nil => show _ = 0 + _; simp
  | cons g a ih => rw [List.cons_append, sumG_cons, sumG_cons, ih]; omega
theorem sumG_perm {a b : List Gram} (h : a.Perm b) (w : List Str) : sumG a w = sumG b w := by
  induction h with
  | nil => rfl
  | cons x _ ih => rw [sumG_cons, sumG_cons, ih]
  | swap x y l => rw [sumG_cons, sumG_cons, sumG_cons, sumG_cons]; omega
  | trans _ _ h1 h2 => exact h1.trans h2
def insAG (l : List Gram) : List Gram := l.foldl (fun out g => insG g.1 g.2 out) []
theorem insAG_snoc (l : List Gram) (g : Gram) : insAG (l ++ [g]) = insG g.1 g.2 (insAG l) := by simp [insAG]
theorem insAG_facts : ∀ (l : List Gram), (∀ g ∈ l, 0 < g.2) → AscG (insAG l) ∧ (∀ g ∈ insAG l, 0 < g.2) ∧ ∀ w, valG (insAG l) w = sumG l w := by
  refine snoc_ind ?_ (fun l x ih => ?_)
  · exact fun _ => ⟨by simp [insAG, AscG], by simp [insAG], fun w => by simp [insAG, valG, sumG]⟩
  · intro hp
    obtain ⟨h1, h2, h3⟩ := ih fun g hg => hp g (by simp [hg])
    rw [insAG_snoc]
    refine ⟨asc_insG h1, insG_pos (hp x (by simp)) h2, fun w => ?_⟩
    rw [val_insG h1, h3, sumG_app, sumG_cons]
    show _ = _ + (_ + 0)
    omega
theorem insG_len (w : List Str) (m : Int) : ∀ l : List Gram, (insG w m l).length ≤ l.length + 1 ∧ l.length ≤ (insG w m l).length
  | [] => ⟨Nat.le_refl _, Nat.zero_le _⟩
  | g :: l => by
    have := insG_len w m l
    simp only [insG]
    split
    · simp
    · split
      · simp only [List.length_cons]; omega
      · simp
theorem insAG_len : ∀ (l : List Gram), (insAG l).length ≤ l.length := by
  refine snoc_ind (by simp [insAG]) fun l x ih => ?_
  rw [insAG_snoc, List.length_append, List.length_singleton]
  have := (insG_len x.1 x.2 (insAG l)).1
  omega
/-- The runs of grams that lie in order. -/
structure RunsG (l out : List Gram) : Prop where
  asc : AscG out
  pos : ∀ g ∈ out, 0 < g.2
  val : ∀ w, valG out w = sumG l w
  last : l ≠ [] → ∃ o g, out = o ++ [g] ∧ g.1 = (nth l (l.length - 1)).1
  len : out.length ≤ l.length
  mem : ∀ g ∈ out, ∃ x ∈ l, x.1 = g.1
theorem runsG_nil : RunsG [] [] := ⟨by simp [AscG], by simp, fun w => rfl, fun h => absurd rfl h, Nat.le_refl _, by simp⟩
theorem runsG_eq {l l' out : List Gram} (h : RunsG l' out) (hp : l'.Perm l) (h0 : ∀ g ∈ l, 0 < g.2) : out = insAG l := by
  obtain ⟨h1, h2, h3⟩ := insAG_facts l h0
  exact asc_ext h.asc h1 h.pos h2 fun w => by rw [h.val, h3, sumG_perm hp]
theorem valG_app {a b : List Gram} {w : List Str} (h : ∀ x ∈ a, x.1 ≠ w) : valG (a ++ b) w = valG b w := by
  induction a with
  | nil => rfl
  | cons x a ih =>
    rw [List.cons_append, valG, if_neg (h x (by simp))]
    exact ih fun y hy => h y (by simp [hy])
theorem valG_app2 {a b : List Gram} {w : List Str} (h : ∀ x ∈ b, x.1 ≠ w) : valG (a ++ b) w = valG a w := by
  induction a with
  | nil => rw [List.nil_append, valG_none h]; rfl
  | cons x a ih =>
    rw [List.cons_append, valG, valG, ih]
theorem ascG_last {o : List Gram} {g : Gram} : AscG (o ++ [g]) ↔ AscG o ∧ ∀ x ∈ o, cmpL x.1 g.1 < 0 := by
  unfold AscG
  rw [List.pairwise_append]
  simp
theorem nth_snoc {α : Type} {k : Nat} [Enc α k] (l : List α) (x : α) : nth (l ++ [x]) l.length = x := by
  rw [nth_eq (by rw [List.length_append, List.length_singleton]; omega), List.getElem_append_right (Nat.le_refl _)]; simp
theorem cmpL_self (w : List Str) : cmpL w w = 0 := (cmpL_zero w w).2 rfl
/-- One more of the run. -/
theorem runsG_same {l o : List Gram} {g x : Gram} (h : RunsG l (o ++ [g])) (hx : 0 < x.2) (e : g.1 = x.1) : RunsG (l ++ [x]) (o ++ [(g.1, g.2 + x.2)]) := by
  have ha := ascG_last.1 h.asc
  have hg : 0 < g.2 := h.pos g (by simp)
  have hne : ∀ y ∈ o, y.1 ≠ g.1 := fun y hy e2 => by
    have := ha.2 y hy
    rw [e2, cmpL_self] at this; omega
  refine ⟨ascG_last.2 ⟨ha.1, ha.2⟩, fun y hy => ?_, fun w => ?_, fun _ => ⟨o, _, rfl, ?_⟩, ?_, fun y hy => ?_⟩
  · rcases List.mem_append.1 hy with hy | hy
    · exact h.pos y (by simp [hy])
    · simp at hy; rw [hy]; show 0 < g.2 + x.2; omega
  · rw [sumG_app, ← h.val, sumG_cons]
    by_cases ew : g.1 = w
    · rw [valG_app fun y hy => by rw [← ew]; exact hne y hy, valG_app fun y hy => by rw [← ew]; exact hne y hy, if_pos (e ▸ ew)]
      simp only [valG, if_pos ew]
      show g.2 + x.2 = g.2 + (x.2 + 0); omega
    · rw [valG_app2 (fun y hy => by simp at hy; rw [hy]; exact ew), valG_app2 (fun y hy => by simp at hy; rw [hy]; exact ew), if_neg (e ▸ ew)]
      show _ = _ + (0 + 0); omega
  · rw [List.length_append, List.length_singleton, Nat.add_sub_cancel, nth_snoc]; exact e
  · have := h.len
    rw [List.length_append, List.length_singleton] at this ⊢
    rw [List.length_append, List.length_singleton]; omega
  · rcases List.mem_append.1 hy with hy | hy
    · obtain ⟨z, hz, ez⟩ := h.mem y (by simp [hy])
      exact ⟨z, by simp [hz], ez⟩
    · simp at hy; exact ⟨x, by simp, by rw [hy]; exact e.symm⟩
/-- A new run. -/
theorem runsG_new {l out : List Gram} {x : Gram} (h : RunsG l out) (hx : 0 < x.2) (hs : ∀ y ∈ l, cmpL y.1 x.1 ≤ 0) (hne : ∀ o g, out = o ++ [g] → g.1 ≠ x.1) : RunsG (l ++ [x]) (out ++ [x]) := by
  have hlt : ∀ y ∈ out, cmpL y.1 x.1 < 0 := fun y hy => by
    have hl : l ≠ [] := by intro e; obtain ⟨z, hz, _⟩ := h.mem y hy; rw [e] at hz; cases hz
    obtain ⟨o, g, e, eg⟩ := h.last hl
    have hn := hne o g e
    have hg : cmpL g.1 x.1 < 0 := by
      obtain ⟨z, hz, ez⟩ := h.mem g (by rw [e]; simp)
      have h1 := hs z hz
      rw [ez] at h1
      have h2 : cmpL g.1 x.1 ≠ 0 := fun h => hn ((cmpL_zero _ _).1 h)
      omega
    rw [e] at hy
    rcases List.mem_append.1 hy with hy | hy
    · have := (ascG_last.1 (e ▸ h.asc)).2 y hy
      exact cmpL_trans this hg
    · simp at hy; rw [hy]; exact hg
  refine ⟨ascG_last.2 ⟨h.asc, hlt⟩, fun y hy => ?_, fun w => ?_, fun _ => ⟨out, x, rfl, ?_⟩, ?_, fun y hy => ?_⟩
  · rcases List.mem_append.1 hy with hy | hy
    · exact h.pos y hy
    · simp at hy; rw [hy]; exact hx
  · rw [sumG_app, ← h.val, sumG_cons]
    by_cases ew : x.1 = w
    · have hno : ∀ y ∈ out, y.1 ≠ w := fun y hy e2 => by
        have := hlt y hy
        rw [e2, ew, cmpL_self] at this; omega
      rw [valG_app hno, valG_none hno, valG, if_pos ew, if_pos ew]; show x.2 = 0 + (x.2 + 0); omega
    · rw [valG_app2 (fun y hy => by simp at hy; rw [hy]; exact ew), if_neg ew]; show _ = _ + (0 + 0); omega
  · rw [List.length_append, List.length_singleton, Nat.add_sub_cancel, nth_snoc]
  · have := h.len
    rw [List.length_append, List.length_singleton, List.length_append, List.length_singleton]; omega
  · rcases List.mem_append.1 hy with hy | hy
    · obtain ⟨z, hz, ez⟩ := h.mem y hy
      exact ⟨z, by simp [hz], ez⟩
    · simp at hy; exact ⟨x, by simp, by rw [hy]⟩
/-- What stands where w is looked for by halves. -/
theorem asc_nth {l : List Gram} (h : AscG l) {i j : Nat} (hij : i < j) (hj : j < l.length) : cmpL (nth l i).1 (nth l j).1 < 0 := by
  rw [nth_eq hj, nth_eq (by omega)]
  exact List.pairwise_iff_getElem.1 h i j (by omega) hj hij
theorem insG_hit {w : List Str} {m : Int} : ∀ {l : List Gram} {i : Nat}, AscG l → i < l.length → (nth l i).1 = w → insG w m l = putAt l i ((nth l i).1, (nth l i).2 + m)
  | [], i, _, h, _ => absurd h (Nat.not_lt_zero _)
  | g :: l, 0, h, _, e => by
    rw [insG, if_pos (by first | exact e | rw [show g.1 = w from e, cmpL_self] | exact e.symm)]; rfl
  | g :: l, i + 1, h, hi, e => by
    have hlt := asc_nth h (i := 0) (j := i + 1) (by omega) hi
    rw [e] at hlt
    have e0 : (nth (g :: l) 0).1 = g.1 := rfl
    rw [e0] at hlt
    have hne : g.1 ≠ w := fun e2 => by rw [e2, cmpL_self] at hlt; omega
    have hi2 : i < l.length := by rw [List.length_cons] at hi; omega
    have ih := insG_hit (w := w) (m := m) (l := l) (i := i) (List.pairwise_cons.1 h).2 hi2 e
    rw [insG, if_neg (by first | exact hne | omega | exact fun h => hne h.symm), if_pos hlt, ih]
    rfl
theorem insG_miss {w : List Str} {m : Int} : ∀ {l : List Gram} {i : Nat}, AscG l → i ≤ l.length → (∀ j, j < i → cmpL (nth l j).1 w < 0) → (∀ j, i ≤ j → j < l.length → cmpL w (nth l j).1 < 0) → insG w m l = l.take i ++ (w, m) :: l.drop i
  | [], i, _, h, _, _ => by simp [insG]
  | g :: l, 0, h, _, _, h2 => by
    have h3 := h2 0 (Nat.le_refl _) (by simp)
    have e0 : (nth (g :: l) 0).1 = g.1 := rfl
    rw [e0] at h3
    have h4 := cmpL_anti w g.1
    have hne : g.1 ≠ w := fun e2 => by rw [e2, cmpL_self] at h3; omega
    rw [insG, if_neg (by first | exact hne | omega | exact fun h => hne h.symm), if_neg (by omega)]; rfl
  | g :: l, i + 1, h, hi, h1, h2 => by
    have hlt := h1 0 (by omega)
    have e0 : (nth (g :: l) 0).1 = g.1 := rfl
    rw [e0] at hlt
    have hne : g.1 ≠ w := fun e2 => by rw [e2, cmpL_self] at hlt; omega
    have hi2 : i ≤ l.length := by rw [List.length_cons] at hi; omega
    have g1 : ∀ j, j < i → cmpL (nth l j).1 w < 0 := fun j hj => h1 (j + 1) (by omega)
    have g2 : ∀ j, i ≤ j → j < l.length → cmpL w (nth l j).1 < 0 := fun j h3 h4 => h2 (j + 1) (by omega) (by rw [List.length_cons]; omega)
    rw [insG, if_neg (by omega), if_pos hlt, insG_miss (List.pairwise_cons.1 h).2 hi2 g1 g2]
    rfl
end Go.Proofs.Ytedbjmonfbpefaa.Ev
