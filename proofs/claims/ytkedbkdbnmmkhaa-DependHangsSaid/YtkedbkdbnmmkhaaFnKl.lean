/- What hooks make of a frame is a tree. -/
import Derived.Test.YtkedbkdbnmmkhaaFnKk
set_option linter.unusedVariables false
set_option linter.unusedSimpArgs false
namespace Go.Proofs.Ytkedbkdbnmmkhaa.Ev
open Go Go.Proofs

/-- Heads that there are stay, others get a head and a name. -/
def Gr (l x : List Hung) : Prop := x.length = l.length ∧ ∀ i, i < l.length → nth x i = nth l i ∨ ((nth l i).2.1 = -2 ∧ (nth x i).1 = (nth l i).1 ∧ (nth x i).2.1 ≠ -2 ∧ nameB (nth x i).2.2 = true)
theorem Gr.refl (l : List Hung) : Gr l l := ⟨rfl, fun i _ => .inl rfl⟩
theorem Gr.trans {l x y : List Hung} (h : Gr l x) (k : Gr x y) : Gr l y := ⟨k.1.trans h.1, fun i hi => by
  rcases k.2 i (by rw [h.1]; exact hi) with k1 | ⟨k1, k2, k3, k4⟩
  · rw [k1]; exact h.2 i hi
  · rcases h.2 i hi with h1 | ⟨_, _, h1, _⟩
    · rw [h1] at k1 k2; exact .inr ⟨k1, k2, k3, k4⟩
    · exact absurd k1 h1⟩
theorem gr_set {l : List Hung} {i : Nat} (hi : i < l.length) (h2 : (nth l i).2.1 = -2) {k : Int} (hk : k ≠ -2) {s : Str} (hs : nameB s = true) : Gr l (setHd l i k s) := ⟨setHd_len hi _ _, fun j hj => by
  rw [nth_setHd hi]
  by_cases e : j = i
  · subst e; rw [if_pos rfl]; exact .inr ⟨h2, rfl, hk, hs⟩
  · rw [if_neg e]; exact .inl rfl⟩
def cntF : List Hung → Nat
  | [] => 0
  | h :: t => (if h.2.1 = -1 then 1 else 0) + cntF t
theorem cntF_app : ∀ (a b : List Hung), cntF (a ++ b) = cntF a + cntF b
  | [], b => by simp [cntF]
  | h :: t, b => by rw [List.cons_append, cntF, cntF, cntF_app t b, Nat.add_assoc]
theorem cntF_set {l : List Hung} {i : Nat} (hi : i < l.length) (h2 : (nth l i).2.1 = -2) (k : Int) (s : Str) : cntF (setHd l i k s) = cntF l + if k = -1 then 1 else 0 := by
  have e : l = l.take i ++ nth l i :: l.drop (i + 1) := by rw [← nth_drop hi, List.take_append_drop]
  conv => rhs; rw [e]
  have a1 : cntF (((nth l i).1, k, s) :: l.drop (i + 1)) = (if k = -1 then 1 else 0) + cntF (l.drop (i + 1)) := rfl
  have a2 : cntF (nth l i :: l.drop (i + 1)) = cntF (l.drop (i + 1)) := by rw [cntF, if_neg (by rw [h2]; omega), Nat.zero_add]
  rw [setHd, putAt, cntF_app, cntF_app, a1, a2]
  omega
theorem cntF_pos : ∀ {l : List Hung} {i : Nat}, i < l.length → (nth l i).2.1 = -1 → 0 < cntF l
  | [], i, hi, _ => by simp at hi
  | h :: t, 0, _, e => by rw [cntF, if_pos (show h.2.1 = -1 from e)]; omega
  | h :: t, i + 1, hi, e => by
    have := cntF_pos (l := t) (i := i) (by simpa using hi) e
    rw [cntF]; omega
theorem idxH_at {l : List Hung} {v : Int} (h : 0 ≤ idxH l v) : (idxH l v).toNat < l.length ∧ (nth l (idxH l v).toNat).2.1 = v := by
  unfold idxH at h ⊢
  split at h
  · rename_i i hf
    obtain ⟨h1, h2, _⟩ := List.findIdx?_eq_some_iff_getElem.1 hf
    simp only [hf, Int.toNat_natCast]
    refine ⟨h1, ?_⟩
    rw [nth_eq h1]; simpa using h2
  · omega
theorem idxH_no {l : List Hung} {v : Int} (h : idxH l v < 0) : ∀ i, i < l.length → (nth l i).2.1 ≠ v := fun i hi => by
  unfold idxH at h
  split at h
  · omega
  · rename_i hf
    have := List.findIdx?_eq_none_iff.1 hf _ (nth_mem hi)
    simpa using this
theorem cntF_zero : ∀ {l : List Hung}, (∀ i, i < l.length → (nth l i).2.1 ≠ -1) → cntF l = 0
  | [], _ => rfl
  | h :: t, hn => by
    rw [cntF, if_neg (show ¬h.2.1 = -1 from hn 0 (by simp)), cntF_zero fun i hi => hn (i + 1) (by simpa using hi)]
/-- All that is kept while hooks hang nodes. -/
def Good (l x : List Hung) : Prop := Gr l x ∧ Hds x ∧ Ends x ∧ cntF x = cntF l
theorem hungBy_good {h : Hook} (hn : nameB h.2.2.2.2.2 = true) {l x : List Hung} (hg : Good l x) {i : Nat} (hi : i < l.length) : Good l (hungBy h x i) := by
  obtain ⟨g1, g2, g3, g4⟩ := hg
  have hix : i < x.length := by rw [g1.1]; exact hi
  obtain ⟨o1, o2⟩ := hungBy_ok h hix g2 g3
  refine ⟨g1.trans ?_, o1, o2, ?_⟩
  · unfold hungBy; split
    · rename_i hc; exact gr_set hix hc.1 (by omega) hn
    · exact Gr.refl x
  · unfold hungBy; split
    · rename_i hc; rw [cntF_set hix hc.1, if_neg (by omega)]; omega
    · exact g4
theorem hookG_good {h : Hook} (hn : nameB h.2.2.2.2.2 = true) {l : List Hung} : ∀ (n i : Nat) (x : List Hung), i + n ≤ l.length → Good l x → Good l (hookG h n i x)
  | 0, i, x, _, hg => hg
  | n + 1, i, x, hi, hg => hookG_good hn n (i + 1) _ (by omega) (hungBy_good hn hg (by omega))
theorem hooksF_good {l : List Hung} : ∀ (hs : List Hook) (x : List Hung), (∀ h ∈ hs, nameB h.2.2.2.2.2 = true) → Good l x → Good l (hooksF l.length hs x)
  | [], x, _, hg => hg
  | h :: hs, x, hn, hg => hooksF_good hs _ (fun k hk => hn k (by simp [hk])) (hookG_good (hn h (by simp)) l.length 0 x (by omega) hg)
theorem formK_name {hs : List Hook} (h : formK hs = 0) {x : Hook} (hx : x ∈ hs) : nameB x.2.2.2.2.2 = true := by
  unfold formK at h
  split at h
  · cases h
  · split at h
    · rename_i h2
      have := List.all_eq_true.1 h2 x hx
      simp only [goodK, Bool.and_eq_true] at this
      exact this.2.2.2.2
    · cases h
/-- The root of a frame on which what is left is hung. -/
def Root (r : Int) (x : List Hung) : Prop := (0 ≤ r ∧ r < x.length ∧ (nth x r.toNat).2.1 = -1) ∨ (r = -1 ∧ ∀ i, i < x.length → (nth x i).2.1 ≠ -2)
theorem nameB_root : nameB ⟨#[114, 111, 111, 116]⟩ = true := by decide +kernel
theorem nameB_dep : nameB ⟨#[100, 101, 112]⟩ = true := by decide +kernel
theorem ends_neg {l : List Hung} (he : Ends l) (hl : Hds l) (h0 : 0 < l.length) : ∃ i, i < l.length ∧ (nth l i).2.1 < 0 := by
  obtain ⟨k, hk⟩ := he 0 (by omega)
  have key : ∀ (k : Nat) (x : Int), 0 ≤ x → x < l.length → it l k x < 0 → ∃ i, i < l.length ∧ (nth l i).2.1 < 0 := by
    intro k
    induction k with
    | zero => intro x h1 _ h3; exact absurd h3 (by show ¬x < 0; omega)
    | succ k ih =>
      intro x h1 h2 h3
      have hh := hd_nth (l := l) h1
      rcases Int.lt_or_le (hd l x) 0 with h | h
      · exact ⟨x.toNat, by omega, by rw [← hh]; exact h⟩
      · exact ih (hd l x) h (hd_lt hl h2) h3
  exact key k 0 (by omega) (by omega) hk
theorem rootT_ok {l x : List Hung} (hg : Good l x) (h0 : 0 < l.length) : Gr l (rootT x).1 ∧ Hds (rootT x).1 ∧ Ends (rootT x).1 ∧ Root (rootT x).2 (rootT x).1 ∧ (rootT x).1.length = l.length ∧ 0 ≤ (rootT x).2 ∧ cntF (rootT x).1 = max 1 (cntF l) := by
  obtain ⟨g1, g2, g3, g4⟩ := hg
  have hl := g1.1
  unfold rootT
  by_cases r1 : idxH x (-1) < 0
  · rw [if_pos r1]
    have hz := cntF_zero (idxH_no r1)
    have r2 : 0 ≤ idxH x (-2) := by
      rcases Int.lt_or_le (idxH x (-2)) 0 with h | h
      · obtain ⟨i, h1, h2⟩ := ends_neg g3 g2 (by omega)
        have a := idxH_no r1 i h1
        have b := idxH_no h i h1
        have c := (g2 i h1).1
        omega
      · exact h
    obtain ⟨i1, i2⟩ := idxH_at r2
    rw [if_pos r2]
    dsimp only
    refine ⟨g1.trans (gr_set i1 i2 (by omega) nameB_root), setHd_hds g2 i1 (by omega) (by omega) _, setHd_ends g2 g3 i1 (by omega) (hg_neg (by omega)) _, .inl ⟨r2, ?_, ?_⟩, by rw [setHd_len i1]; exact hl, r2, ?_⟩
    · rw [setHd_len i1]; omega
    · rw [nth_setHd i1, if_pos rfl]
    · rw [cntF_set i1 i2, if_pos rfl, ← g4, hz]; rfl
  · rw [if_neg r1]
    obtain ⟨i1, i2⟩ := idxH_at (l := x) (v := -1) (by omega)
    have := cntF_pos i1 i2
    exact ⟨g1, g2, g3, .inl ⟨by show (0 : Int) ≤ _; omega, (idxH_range x (-1)).2, i2⟩, hl, by show (0 : Int) ≤ _; omega, by show cntF x = _; rw [g4] at this ⊢; exact (Nat.max_eq_right this).symm⟩
theorem depOf_ok {l x : List Hung} {r : Int} (h0 : 0 ≤ r) (hg : Gr l x) (hd1 : Hds x) (he : Ends x) (hr : Root r x) {i : Nat} (hi : i < x.length) : Gr l (depOf r x i) ∧ Hds (depOf r x i) ∧ Ends (depOf r x i) ∧ Root r (depOf r x i) ∧ (depOf r x i).length = x.length ∧ cntF (depOf r x i) = cntF x ∧ (nth (depOf r x i) i).2.1 ≠ -2 ∧ ∀ j, (nth x j).2.1 ≠ -2 → (nth (depOf r x i) j).2.1 ≠ -2 := by
  unfold depOf
  rcases hr with ⟨_, r1, r2⟩ | ⟨r1, _⟩
  · split
    · rename_i h2
      have hne : r.toNat ≠ i := fun e => by rw [e, h2] at r2; omega
      have hng : ¬Hg x r i := by
        rintro ⟨k, k1, k2⟩
        cases k with
        | zero => exact hne (by have : r = i := k2; omega)
        | succ k =>
          have : it x (k + 1) r = it x k (hd x r) := rfl
          rw [hd_nth h0, r2] at this
          rw [this, it_neg x (by omega)] at k1; omega
      refine ⟨hg.trans (gr_set hi h2 (by omega) nameB_dep), setHd_hds hd1 hi (by omega) r1 _, setHd_ends hd1 he hi r1 hng _, .inl ⟨h0, by rw [setHd_len hi]; exact r1, by rw [nth_setHd hi, if_neg hne]; exact r2⟩, setHd_len hi _ _, by rw [cntF_set hi h2, if_neg (by omega)]; rfl, ?_, fun j hj => ?_⟩
      · rw [nth_setHd hi, if_pos rfl]; show r ≠ -2; omega
      · rw [nth_setHd hi]; split
        · show r ≠ -2; omega
        · exact hj
    · rename_i h2
      exact ⟨hg, hd1, he, .inl ⟨h0, r1, r2⟩, rfl, rfl, h2, fun j hj => hj⟩
  · omega
theorem depG_ok {l : List Hung} {r : Int} (h0 : 0 ≤ r) : ∀ (n i : Nat) (x : List Hung), i + n = x.length → Gr l x → Hds x → Ends x → Root r x → (∀ j, j < i → (nth x j).2.1 ≠ -2) → Gr l (depG r n i x) ∧ Hds (depG r n i x) ∧ Ends (depG r n i x) ∧ cntF (depG r n i x) = cntF x ∧ ∀ j, j < x.length → (nth (depG r n i x) j).2.1 ≠ -2
  | 0, i, x, hi, g1, g2, g3, g4, g5 => ⟨g1, g2, g3, rfl, fun j hj => g5 j (by omega)⟩
  | n + 1, i, x, hi, g1, g2, g3, g4, g5 => by
    obtain ⟨o1, o2, o3, o4, o5, o6, o7, o8⟩ := depOf_ok h0 g1 g2 g3 g4 (i := i) (by omega)
    obtain ⟨p1, p2, p3, p4, p5⟩ := depG_ok h0 n (i + 1) (depOf r x i) (by omega) o1 o2 o3 o4 (fun j hj => by
      by_cases e : j = i
      · rw [e]; exact o7
      · exact o8 j (g5 j (by omega)))
    exact ⟨p1, p2, p3, p4.trans o6, fun j hj => p5 j (by omega)⟩
/-- What hooks make. -/
theorem hang_good {hs : List Hook} {l : List Hung} (hk : formK hs = 0) (hv : valE l = 0) : Gr l (hangL hs l) ∧ Hds (hangL hs l) ∧ Ends (hangL hs l) ∧ (0 < l.length → cntF (hangL hs l) = max 1 (cntF l)) ∧ ∀ j, j < l.length → (nth (hangL hs l) j).2.1 ≠ -2 := by
  obtain ⟨v1, v2, v3⟩ := valE_ok hv
  have g := hooksF_good hs l (fun h hh => formK_name hk hh) ⟨Gr.refl l, v2, v3, rfl⟩
  unfold hangL
  generalize hooksF l.length hs l = x at *
  rcases Nat.eq_zero_or_pos l.length with h0 | h0
  · have hx : x = [] := List.eq_nil_of_length_eq_zero (by have := g.1.1; omega)
    subst hx
    rw [h0]
    exact ⟨g.1, g.2.1, g.2.2.1, fun h => absurd h (by omega), fun j hj => by omega⟩
  · obtain ⟨q1, q2, q3, q4, q5, q6, q7⟩ := rootT_ok g h0
    obtain ⟨p1, p2, p3, p4, p5⟩ := depG_ok q6 l.length 0 (rootT x).1 (by omega) q1 q2 q3 q4 (fun j hj => by omega)
    exact ⟨p1, p2, p3, fun _ => p4.trans q7, fun j hj => p5 j (by omega)⟩
theorem gr_val {l x : List Hung} (hv : valE l = 0) (hg : Gr l x) (hl : Hds x) (he : Ends x) : valE x = 0 := by
  have hf : formE l = 0 := by
    unfold valE at hv; split at hv
    · rename_i h; exact absurd hv h
    · rename_i h; omega
  have hfx : formE x = 0 := by
    unfold formE at hf ⊢
    split at hf
    · cases hf
    · rename_i h1
      split at hf
      · rename_i h2
        have mem : ∀ h ∈ x, ∃ i, i < l.length ∧ h = nth x i := fun h hh => by
          obtain ⟨i, hi, rfl⟩ := List.getElem_of_mem hh
          exact ⟨i, by rw [← hg.1]; exact hi, (nth_eq hi).symm⟩
        have tags : ∀ i, i < l.length → (nth x i).1 = (nth l i).1 := fun i hi => by
          rcases hg.2 i hi with h | ⟨_, h, _⟩
          · rw [h]
          · exact h
        rw [if_neg, if_pos]
        · refine List.all_eq_true.2 fun h hh => ?_
          obtain ⟨i, hi, rfl⟩ := mem h hh
          have hgl := List.all_eq_true.1 h2 _ (nth_mem hi)
          rcases hg.2 i hi with e | ⟨e1, e2, e3, e4⟩
          · rw [e, hg.1]; exact hgl
          · have hr := hl i (by rw [hg.1]; exact hi)
            simp only [goodH, Bool.and_eq_true, decide_eq_true_eq] at hgl ⊢
            exact ⟨by rw [e2]; exact hgl.1, hr.1, hr.2, by rw [labB, if_neg e3]; exact e4⟩
        · rintro (h | h)
          · rw [hg.1] at h; exact h1 (.inl h)
          · obtain ⟨y, hy, hy2⟩ := List.any_eq_true.1 h
            obtain ⟨i, hi, rfl⟩ := mem y hy
            rw [tags i hi] at hy2
            exact h1 (.inr (List.any_eq_true.2 ⟨_, nth_mem hi, hy2⟩))
      · cases hf
  rw [valE, if_neg (by omega), if_neg (by rw [(ringsB_ends hl).2 he]; simp)]
theorem hungBy_same {h : Hook} {x : List Hung} {i : Nat} (hn : (nth x i).2.1 ≠ -2) : hungBy h x i = x := by rw [hungBy, if_neg (fun q => hn q.1)]
theorem hookG_same {h : Hook} {x : List Hung} (hn : ∀ j, j < x.length → (nth x j).2.1 ≠ -2) : ∀ (n i : Nat), i + n ≤ x.length → hookG h n i x = x
  | 0, _, _ => rfl
  | n + 1, i, hi => by rw [hookG, hungBy_same (hn i (by omega))]; exact hookG_same hn n (i + 1) (by omega)
theorem hooksF_same {x : List Hung} (hn : ∀ j, j < x.length → (nth x j).2.1 ≠ -2) : ∀ hs, hooksF x.length hs x = x
  | [] => rfl
  | h :: hs => by rw [hooksF, hookG_same hn _ _ (by omega)]; exact hooksF_same hn hs
theorem depG_same {x : List Hung} (r : Int) (hn : ∀ j, j < x.length → (nth x j).2.1 ≠ -2) : ∀ (n i : Nat), i + n ≤ x.length → depG r n i x = x
  | 0, _, _ => rfl
  | n + 1, i, hi => by rw [depG, depOf, if_neg (hn i (by omega))]; exact depG_same r hn n (i + 1) (by omega)
theorem hang_same (hs : List Hook) {x : List Hung} (hn : ∀ j, j < x.length → (nth x j).2.1 ≠ -2) : hangL hs x = x := by
  unfold hangL
  rw [hooksF_same hn]
  have h2 : idxH x (-2) < 0 := by
    rcases Int.lt_or_le (idxH x (-2)) 0 with h | h
    · exact h
    · obtain ⟨a, b⟩ := idxH_at h; exact absurd b (hn _ a)
  have e : (rootT x).1 = x := by
    unfold rootT
    split
    · rw [if_neg (by omega)]
    · rfl
  rw [e]
  exact depG_same _ hn _ _ (by omega)
end Go.Proofs.Ytkedbkdbnmmkhaa.Ev
