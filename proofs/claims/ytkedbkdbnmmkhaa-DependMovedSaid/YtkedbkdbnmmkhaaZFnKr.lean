/- A flat tree has moves, and they give its heads: the law DependMoved. -/
import Derived.Test.YtkedbkdbnmmkhaaZFnKq
set_option linter.unusedVariables false
set_option linter.unusedSimpArgs false
namespace Go.Proofs.Ytkedbkdbnmmkhaa.Ev
open Go Go.Proofs

theorem ex_max {P : Nat → Prop} (f : Nat → Nat) (B : Nat) (hB : ∀ x, P x → f x ≤ B) : ∀ (m x : Nat), P x → B - f x ≤ m → ∃ y, P y ∧ ∀ z, P z → f z ≤ f y
  | 0, x, hx, hm => ⟨x, hx, fun z hz => by have := hB z hz; omega⟩
  | m + 1, x, hx, hm => by
    by_cases h : ∃ z, P z ∧ f x < f z
    · obtain ⟨z, h1, h2⟩ := h
      exact ex_max f B hB m z h1 (by have := hB z h1; omega)
    · exact ⟨x, hx, fun z hz => by
        rcases Nat.lt_or_ge (f x) (f z) with h1 | h1
        · exact absurd ⟨z, hz, h1⟩ h
        · exact h1⟩
theorem far_le (l : List Hung) : ∀ (n : Nat) (x : Int), far l n x ≤ n
  | 0, x => Nat.le_refl _
  | n + 1, x => by rw [far]; split <;> first | omega | (have := far_le l n (hd l x); omega)
theorem cntF_two : ∀ {l : List Hung} {i j : Nat}, i < j → j < l.length → (nth l i).2.1 = -1 → (nth l j).2.1 = -1 → 2 ≤ cntF l
  | [], i, j, _, hj, _, _ => by simp at hj
  | h :: t, 0, j + 1, _, hj, e1, e2 => by
    have := cntF_pos (l := t) (i := j) (by simpa using hj) e2
    rw [cntF, if_pos (show h.2.1 = -1 from e1)]; omega
  | h :: t, i + 1, j + 1, hij, hj, e1, e2 => by
    have := cntF_two (l := t) (i := i) (j := j) (by omega) (by simpa using hj) e1 e2
    rw [cntF]; omega
/-- What holds besides of what was moved. -/
structure MvJ (l : List Hung) (s : List Int) (nx : Nat) (g : List Bool) : Prop where
  up : ∀ k y : Nat, k < l.length → y < l.length → (nth l k).2.1 = y → nth g y = true → nth g k = true
  all : ∀ k : Nat, k < nx → nth g k = true ∨ ∃ p, p < s.length ∧ nth s p = k
  adj : ∀ i, i + 2 < s.length → ¬((nth l (nth s i).toNat).2.1 = nth s (i + 1) ∧ freeB l g (nth s i) = true) ∧ ¬((nth l (nth s (i + 1)).toNat).2.1 = nth s i ∧ freeB l g (nth s (i + 1)) = true)
  ne : 0 < nx → 0 < s.length
  hd : ∀ k : Nat, k < l.length → nth g k = true → 0 ≤ (nth l k).2.1
theorem mvJ_0 (l : List Hung) : MvJ l [] 0 (List.replicate l.length false) :=
  ⟨fun k y hk hy _ h => (by rw [nth_rep _ hy] at h; cases h), fun k hk => (by omega), fun i hi => (by simp at hi), fun h => (by omega), fun k hk h => (by rw [nth_rep _ hk] at h; cases h)⟩
section
variable {l : List Hung} {s : List Int} {nx : Nat} {g : List Bool}
theorem free_put (hM : MvI l s nx g) {p : Nat} (hp : p < l.length) {a : Int} (ha : (nth l p).2.1 ≠ a) : freeB l (putAt g p true) a = freeB l g a := by
  have hg : p < g.length := by rw [hM.len]; exact hp
  rw [freeB, freeB, decide_eq_decide]
  constructor
  · intro h k hk q
    refine h k hk ⟨q.1, ?_⟩
    rw [nth_put hg, if_neg]
    · exact q.2
    · rintro rfl; exact ha q.1
  · intro h k hk q
    rw [nth_put hg] at q
    split at q
    · cases q.2
    · exact h k hk q
theorem up_put (hM : MvI l s nx g) (hJ : MvJ l s nx g) {p : Nat} (hp : p < l.length) (hf : freeB l g p = true) : ∀ k y : Nat, k < l.length → y < l.length → (nth l k).2.1 = y → nth (putAt g p true) y = true → nth (putAt g p true) k = true := by
  intro k y hk hy e h
  have hg : p < g.length := by rw [hM.len]; exact hp
  rw [nth_put hg] at h ⊢
  by_cases e1 : k = p
  · rw [if_pos e1]
  · rw [if_neg e1]
    by_cases e2 : y = p
    · have := of_decide_eq_true hf k hk
      cases hgk : nth g k with
      | true => rfl
      | false => exact absurd ⟨by rw [e, e2], hgk⟩ this
    · rw [if_neg e2] at h
      exact hJ.up k y hk hy e h
theorem hd_put (hM : MvI l s nx g) (hJ : MvJ l s nx g) {p : Nat} (hp : p < l.length) (h0 : 0 ≤ (nth l p).2.1) : ∀ k : Nat, k < l.length → nth (putAt g p true) k = true → 0 ≤ (nth l k).2.1 := by
  intro k hk h
  have hg : p < g.length := by rw [hM.len]; exact hp
  rw [nth_put hg] at h
  split at h
  · rename_i e; rw [e]; exact h0
  · exact hJ.hd k hk h
theorem mvJ_left (hM : MvI l s nx g) (hJ : MvJ l s nx g) (h1 : 1 < s.length) (h2 : (nth l (nth s (s.length - 2)).toNat).2.1 = nth s (s.length - 1)) (hf : freeB l g (nth s (s.length - 2)) = true) :
    MvJ l (s.take (s.length - 2) ++ [nth s (s.length - 1)]) nx (putAt g (nth s (s.length - 2)).toNat true) := by
  have a := hM.st (s.length - 2) (by omega)
  have b := hM.st (s.length - 1) (by omega)
  have hnx := hM.le
  have hp : (nth s (s.length - 2)).toNat < l.length := by omega
  have hg : (nth s (s.length - 2)).toNat < g.length := by rw [hM.len]; exact hp
  have hf' : freeB l g ((nth s (s.length - 2)).toNat : Int) = true := by rw [Int.toNat_of_nonneg a.1]; exact hf
  have hl : (s.take (s.length - 2)).length = s.length - 2 := by rw [List.length_take]; omega
  have hlen : (s.take (s.length - 2) ++ [nth s (s.length - 1)]).length = s.length - 1 := by rw [List.length_append, hl, List.length_singleton]; omega
  have key : ∀ p, p < s.length - 2 → nth (s.take (s.length - 2) ++ [nth s (s.length - 1)]) p = nth s p := fun p hp => by rw [nth_app, hl, if_pos hp, nth_take hp]
  have last : nth (s.take (s.length - 2) ++ [nth s (s.length - 1)]) (s.length - 2) = nth s (s.length - 1) := by rw [nth_app, hl, if_neg (by omega), Nat.sub_self, nth_zero]
  refine ⟨up_put hM hJ hp hf', fun k hk => ?_, fun i hi => ?_, fun _ => by rw [hlen]; omega, hd_put hM hJ hp (by omega)⟩
  · rcases hJ.all k hk with h | ⟨p, p1, p2⟩
    · left; rw [nth_put hg]; split
      · rfl
      · exact h
    · rcases (show p < s.length - 2 ∨ p = s.length - 2 ∨ p = s.length - 1 by omega) with q | q | q
      · exact .inr ⟨p, by rw [hlen]; omega, by rw [key p q]; exact p2⟩
      · left; rw [nth_put hg, if_pos (by rw [← q, p2, Int.toNat_natCast])]
      · exact .inr ⟨s.length - 2, by rw [hlen]; omega, by rw [last, ← q]; exact p2⟩
  · rw [hlen] at hi
    have hA := hM.asc i (s.length - 1) (by omega) (by omega)
    have hB := hM.asc (i + 1) (s.length - 1) (by omega) (by omega)
    rw [key i (by omega), key (i + 1) (by omega), free_put hM hp (by rw [h2]; omega), free_put hM hp (by rw [h2]; omega)]
    exact hJ.adj i (by omega)
theorem mvJ_right (hM : MvI l s nx g) (hJ : MvJ l s nx g) (h1 : 1 < s.length) (h2 : (nth l (nth s (s.length - 1)).toNat).2.1 = nth s (s.length - 2)) (hf : freeB l g (nth s (s.length - 1)) = true) :
    MvJ l (s.take (s.length - 1)) nx (putAt g (nth s (s.length - 1)).toNat true) := by
  have a := hM.st (s.length - 2) (by omega)
  have b := hM.st (s.length - 1) (by omega)
  have hnx := hM.le
  have hp : (nth s (s.length - 1)).toNat < l.length := by omega
  have hg : (nth s (s.length - 1)).toNat < g.length := by rw [hM.len]; exact hp
  have hf' : freeB l g ((nth s (s.length - 1)).toNat : Int) = true := by rw [Int.toNat_of_nonneg b.1]; exact hf
  have hl : (s.take (s.length - 1)).length = s.length - 1 := by rw [List.length_take]; omega
  refine ⟨up_put hM hJ hp hf', fun k hk => ?_, fun i hi => ?_, fun _ => by rw [hl]; omega, hd_put hM hJ hp (by omega)⟩
  · rcases hJ.all k hk with h | ⟨p, p1, p2⟩
    · left; rw [nth_put hg]; split
      · rfl
      · exact h
    · rcases (show p < s.length - 1 ∨ p = s.length - 1 by omega) with q | q
      · exact .inr ⟨p, by rw [hl]; omega, by rw [nth_take q]; exact p2⟩
      · left; rw [nth_put hg, if_pos (by rw [← q, p2, Int.toNat_natCast])]
  · rw [hl] at hi
    have hA := hM.asc i (s.length - 2) (by omega) (by omega)
    have hB := hM.asc (i + 1) (s.length - 2)
    rw [nth_take (by omega), nth_take (by omega), free_put hM hp (by rw [h2]; omega), free_put hM hp (by rw [h2]; have := hB (by omega) (by omega); omega)]
    exact hJ.adj i (by omega)
theorem mvJ_shift (hM : MvI l s nx g) (hJ : MvJ l s nx g) (hn : nx < l.length)
    (hA : ¬(1 < s.length ∧ (nth l (nth s (s.length - 2)).toNat).2.1 = nth s (s.length - 1) ∧ freeB l g (nth s (s.length - 2)) = true))
    (hB : ¬(1 < s.length ∧ (nth l (nth s (s.length - 1)).toNat).2.1 = nth s (s.length - 2) ∧ freeB l g (nth s (s.length - 1)) = true)) : MvJ l (s ++ [(nx : Int)]) (nx + 1) g := by
  have hlen : (s ++ [(nx : Int)]).length = s.length + 1 := by rw [List.length_append, List.length_singleton]
  have key : ∀ p, p < s.length → nth (s ++ [(nx : Int)]) p = nth s p := fun p hp => by rw [nth_app, if_pos hp]
  refine ⟨hJ.up, fun k hk => ?_, fun i hi => ?_, fun _ => by rw [hlen]; omega, hJ.hd⟩
  · by_cases e : k = nx
    · exact .inr ⟨s.length, by rw [hlen]; omega, by rw [nth_app, if_neg (by omega), Nat.sub_self, nth_zero, e]⟩
    · rcases hJ.all k (by omega) with h | ⟨p, p1, p2⟩
      · exact .inl h
      · exact .inr ⟨p, by rw [hlen]; omega, by rw [key p p1]; exact p2⟩
  · rw [hlen] at hi
    rw [key i (by omega), key (i + 1) (by omega)]
    by_cases e : i + 2 < s.length
    · exact hJ.adj i e
    · have e1 : i = s.length - 2 := by omega
      have e2 : i + 1 = s.length - 1 := by omega
      rw [e2, e1]
      exact ⟨fun q => hA ⟨by omega, q⟩, fun q => hB ⟨by omega, q⟩⟩
/-- Flat trees don't get stuck. -/
theorem stuck (hM : MvI l s nx g) (hJ : MvJ l s nx g) (hd1 : Hds l) (he : Ends l) (hw : wholeB l = true) (hf : flatB l = true) (hn : ¬nx < l.length) (h1 : 1 < s.length)
    (hA : ¬(1 < s.length ∧ (nth l (nth s (s.length - 2)).toNat).2.1 = nth s (s.length - 1) ∧ freeB l g (nth s (s.length - 2)) = true))
    (hB : ¬(1 < s.length ∧ (nth l (nth s (s.length - 1)).toNat).2.1 = nth s (s.length - 2) ∧ freeB l g (nth s (s.length - 1)) = true)) : False := by
  have hnx : nx = l.length := by have := hM.le; omega
  have adj : ∀ i, i + 1 < s.length → ¬((nth l (nth s i).toNat).2.1 = nth s (i + 1) ∧ freeB l g (nth s i) = true) ∧ ¬((nth l (nth s (i + 1)).toNat).2.1 = nth s i ∧ freeB l g (nth s (i + 1)) = true) := fun i hi => by
    by_cases e : i + 2 < s.length
    · exact hJ.adj i e
    · have e1 : i = s.length - 2 := by omega
      have e2 : i + 1 = s.length - 1 := by omega
      rw [e2, e1]
      exact ⟨fun q => hA ⟨by omega, q⟩, fun q => hB ⟨by omega, q⟩⟩
  let on : Nat → Prop := fun x => x < l.length ∧ nth g x = false
  let dp : Nat → Nat := fun x => far l (l.length + 1) x
  have dpB : ∀ x, dp x ≤ l.length + 1 := fun x => far_le l _ _
  have pos : ∀ x, on x → ∃ p, p < s.length ∧ nth s p = x := fun x hx => by
    rcases hJ.all x (by rw [hnx]; exact hx.1) with h | h
    · rw [hx.2] at h; cases h
    · exact h
  have onS : ∀ p, p < s.length → ∃ x : Nat, nth s p = x ∧ on x := fun p hp => by
    have := hM.st p hp
    exact ⟨(nth s p).toNat, by omega, by omega, this.2.2⟩
  have dpU : ∀ x y : Nat, x < l.length → (nth l x).2.1 = y → dp y < dp x := fun x y hx e => by
    have := far_step hd1 he (x := x) (by omega) (by omega)
    rw [hd_nth (by omega), Int.toNat_natCast, e] at this
    exact this
  have onU : ∀ x y : Nat, on x → y < l.length → (nth l x).2.1 = y → on y := fun x y hx hy e => ⟨hy, by
    cases hgy : nth g y with
    | false => rfl
    | true => have := hJ.up x y hx.1 hy e hgy; rw [hx.2] at this; cases this⟩
  have leafF : ∀ x, (∀ c, on c → (nth l c).2.1 ≠ (x : Int)) → freeB l g (x : Int) = true := fun x hx => decide_eq_true fun k hk q => hx k ⟨hk, q.2⟩ q.1
  have open0 : ∀ x, x < l.length → (nth l x).2.1 ≠ -2 := fun x hx e => by
    simp only [wholeB, Bool.and_eq_true, Bool.not_eq_true'] at hw
    have : openB l = true := List.any_eq_true.2 ⟨_, nth_mem hx, by simpa using e⟩
    rw [this] at hw; cases hw.1
  have flat := fun i hi => of_decide_eq_true hf i hi
  have K : ∀ (D : Nat) (x y : Nat), on x → (∀ c, on c → (nth l c).2.1 ≠ (x : Int)) → on y → (nth l x).2.1 = y → (x : Int) - y ≤ D → (y : Int) - x ≤ D → False := by
    intro D
    induction D with
    | zero =>
      intro x y hx _ _ e d1 d2
      have := dpU x y hx.1 e
      have : x = y := by omega
      subst this; omega
    | succ D ih =>
      intro x y hx hlf hy e d1 d2
      have hxy := dpU x y hx.1 e
      by_cases hz : ∃ z, on z ∧ min (x : Int) y < z ∧ (z : Int) < max (x : Int) y
      · obtain ⟨z0, hz0⟩ := hz
        obtain ⟨z, hz, hmax⟩ := ex_max (P := fun z => on z ∧ min (x : Int) y < z ∧ (z : Int) < max (x : Int) y) dp (l.length + 1) (fun x _ => dpB x) _ z0 hz0 (Nat.le_refl _)
        obtain ⟨w, hw2, hmin⟩ := ex_max (P := fun z => on z ∧ min (x : Int) y < z ∧ (z : Int) < max (x : Int) y) (fun z => (l.length + 1) - dp z) (l.length + 1) (fun x _ => Nat.sub_le _ _) _ z0 hz0 (Nat.le_refl _)
        have fl := flat x hx.1 (by rw [e]; omega)
        rw [e] at fl
        have heads : ∀ v, (on v ∧ min (x : Int) y < v ∧ (v : Int) < max (x : Int) y) → ∃ u : Nat, (nth l v).2.1 = u ∧ on u ∧ min (x : Int) y ≤ u ∧ (u : Int) ≤ max (x : Int) y ∧ u ≠ x := fun v hv => by
          have f1 := (fl v hv.1.1).1
          have h0 := open0 v hv.1.1
          have hr := hd1 v hv.1.1
          have hnx2 := hlf v hv.1
          rw [badA] at f1
          refine ⟨(nth l v).2.1.toNat, by omega, onU v _ hv.1 (by omega) (by omega), by omega, by omega, by omega⟩
        obtain ⟨u, u1, u2, u3, u4, u5⟩ := heads w hw2
        have hyw : dp y < dp w := by
          have hwu := dpU w u hw2.1.1 u1
          by_cases e2 : u = y
          · rw [← e2]; exact hwu
          · have := hmin u ⟨u2, by omega, by omega⟩
            have := dpB u; have := dpB w
            omega
        have hwz : dp w ≤ dp z := hmax w hw2
        obtain ⟨v, v1, v2, v3, v4, v5⟩ := heads z hz
        refine ih z v hz.1 (fun c hc ec => ?_) v2 v1 (by omega) (by omega)
        have hzc := dpU c z hc.1 ec
        have f2 := (fl c hc.1).2
        rw [badC, ec] at f2
        have n1 : c ≠ x := by rintro rfl; rw [e] at ec; omega
        have n2 : c ≠ y := by rintro rfl; omega
        have := hmax c ⟨hc, by omega, by omega⟩
        omega
      · obtain ⟨p, p1, p2⟩ := pos x hx
        obtain ⟨q, q1, q2⟩ := pos y hy
        have hne : x ≠ y := by rintro rfl; omega
        have step : ∀ i j, i < j → j < s.length → ((nth s i = x ∧ nth s j = y) ∨ (nth s i = y ∧ nth s j = x)) → j = i + 1 := fun i j h1 h2 h3 => by
          rcases (show j = i + 1 ∨ i + 1 < j by omega) with h | h
          · exact h
          · obtain ⟨z, z1, z2⟩ := onS (i + 1) (by omega)
            have a1 := hM.asc i (i + 1) (by omega) (by omega)
            have a2 := hM.asc (i + 1) j h h2
            exact absurd ⟨z, z2, by omega, by omega⟩ hz
        rcases Nat.lt_trichotomy p q with h | h | h
        · have := step p q h q1 (.inl ⟨p2, q2⟩)
          subst this
          exact (adj p q1).1 ⟨by rw [p2, q2, Int.toNat_natCast]; exact e, by rw [p2]; exact leafF x hlf⟩
        · subst h; omega
        · have := step q p h p1 (.inr ⟨q2, p2⟩)
          subst this
          exact (adj q p1).2 ⟨by rw [p2, q2, Int.toNat_natCast]; exact e, by rw [p2]; exact leafF x hlf⟩
  obtain ⟨x0, _, hx0⟩ := onS 0 (by omega)
  obtain ⟨x, hx, hmax⟩ := ex_max (P := on) dp (l.length + 1) (fun x _ => dpB x) _ x0 hx0 (Nat.le_refl _)
  have hlf : ∀ c, on c → (nth l c).2.1 ≠ (x : Int) := fun c hc ec => by
    have := dpU c x hc.1 ec
    have := hmax c hc
    omega
  by_cases hr : 0 ≤ (nth l x).2.1
  · have hlt := (hd1 x hx.1).2
    have hon := onU x (nth l x).2.1.toNat hx (by omega) (by omega)
    exact K l.length x (nth l x).2.1.toNat hx hlf hon (by omega) (by have := hx.1; omega) (by omega)
  · have hlo := (hd1 x hx.1).1
    have hx1 : (nth l x).2.1 = -1 := by have := open0 x hx.1; omega
    have dx : dp x = 1 := by
      show far l (l.length + 1) x = 1
      rw [far, if_neg (by omega), hd_nth (by omega), Int.toNat_natCast, hx1]
      cases l.length with
      | zero => rfl
      | succ n => rw [far, if_pos (by omega)]
    obtain ⟨x', hx', hne⟩ : ∃ x', on x' ∧ x' ≠ x := by
      obtain ⟨a, a1, a2⟩ := onS 0 (by omega)
      obtain ⟨b, b1, b2⟩ := onS 1 h1
      have := hM.asc 0 1 (by omega) h1
      by_cases e : a = x
      · exact ⟨b, b2, by omega⟩
      · exact ⟨a, a2, e⟩
    have hr' : 0 ≤ (nth l x').2.1 := by
      have h0 := open0 x' hx'.1
      have hlo' := (hd1 x' hx'.1).1
      rcases Int.lt_or_le (nth l x').2.1 0 with h | h
      · have e' : (nth l x').2.1 = -1 := by omega
        have two : 2 ≤ cntF l := by
          rcases Nat.lt_or_gt_of_ne hne with h | h
          · exact cntF_two h hx.1 e' hx1
          · exact cntF_two h hx'.1 hx1 e'
        simp only [wholeB, Bool.and_eq_true, Bool.or_eq_true, decide_eq_true_eq] at hw
        have := hx.1
        omega
      · exact h
    have := dpU x' (nth l x').2.1.toNat hx'.1 (by omega)
    have h2 : 1 ≤ dp (nth l x').2.1.toNat := by
      show 1 ≤ far l (l.length + 1) _
      rw [far, if_neg (by omega)]; omega
    have := hmax x' hx'
    omega
end
/-- Moves that are made give the heads, moved again. -/
theorem mv_replay {l : List Hung} (hd1 : Hds l) (he : Ends l) (hw : wholeB l = true) (hf : flatB l = true) : ∀ (n : Nat) (out s : List Int) (nx : Nat) (g : List Bool) (h : List Int), MvI l s nx g → MvJ l s nx g → 2 * (l.length - nx) + s.length = n →
    h.length = l.length → (∀ k, k < l.length → nth g k = true → nth h k = (nth l k).2.1) →
    ∃ (y h' s' : List Int) (g' : List Bool), mvF l n out s nx g = some (out ++ y) ∧ y.length + s'.length = n ∧ y.any badM = false ∧ repF l.length y h s nx = some (h', s', l.length) ∧ s'.length ≤ 1 ∧ MvI l s' l.length g' ∧ MvJ l s' l.length g' ∧ h'.length = l.length ∧ (∀ k, k < l.length → nth g' k = true → nth h' k = (nth l k).2.1)
  | n, out, s, nx, g, h, hM, hJ, hn, hh, hg => by
    by_cases hgo : nx < l.length ∨ 1 < s.length
    · obtain ⟨m, rfl⟩ : ∃ m, n = m + 1 := ⟨n - 1, by omega⟩
      have hnx := hM.le
      by_cases hA : 1 < s.length ∧ (nth l (nth s (s.length - 2)).toNat).2.1 = nth s (s.length - 1) ∧ freeB l g (nth s (s.length - 2)) = true
      · have a := hM.st (s.length - 2) (by omega)
        have hgl : (nth s (s.length - 2)).toNat < g.length := by rw [hM.len]; omega
        have hhl : (nth s (s.length - 2)).toNat < h.length := by rw [hh]; omega
        have hl : (s.take (s.length - 2) ++ [nth s (s.length - 1)]).length = s.length - 1 := by rw [List.length_append, List.length_take, List.length_singleton]; omega
        obtain ⟨y, h', s', g', r1, r2, r3, r4, r5⟩ := mv_replay hd1 he hw hf m (out ++ [1]) _ nx _ (putAt h (nth s (s.length - 2)).toNat (nth s (s.length - 1))) (mvI_left hM hA.1) (mvJ_left hM hJ hA.1 hA.2.1 hA.2.2) (by rw [hl]; omega) (by rw [putAt_len hhl]; exact hh) (fun k hk q => by
          rw [nth_put hgl] at q
          rw [nth_put hhl]
          split
          · rename_i e; rw [e]; exact hA.2.1.symm
          · rename_i e; rw [if_neg e] at q; exact hg k hk q)
        refine ⟨1 :: y, h', s', g', ?_, by simp; omega, by rw [List.any_cons, r3]; rfl, ?_, r5⟩
        · rw [mvF, if_pos hgo, mvS, if_pos hA]; dsimp only; rw [r1, List.append_assoc]; rfl
        · rw [repF, repS, if_neg (fun q => by have := q.1; omega), if_pos ⟨rfl, hA.1⟩]; exact r4
      · by_cases hB : 1 < s.length ∧ (nth l (nth s (s.length - 1)).toNat).2.1 = nth s (s.length - 2) ∧ freeB l g (nth s (s.length - 1)) = true
        · have a := hM.st (s.length - 1) (by omega)
          have hgl : (nth s (s.length - 1)).toNat < g.length := by rw [hM.len]; omega
          have hhl : (nth s (s.length - 1)).toNat < h.length := by rw [hh]; omega
          have hl : (s.take (s.length - 1)).length = s.length - 1 := by rw [List.length_take]; omega
          obtain ⟨y, h', s', g', r1, r2, r3, r4, r5⟩ := mv_replay hd1 he hw hf m (out ++ [2]) _ nx _ (putAt h (nth s (s.length - 1)).toNat (nth s (s.length - 2))) (mvI_right hM hB.1) (mvJ_right hM hJ hB.1 hB.2.1 hB.2.2) (by rw [hl]; omega) (by rw [putAt_len hhl]; exact hh) (fun k hk q => by
            rw [nth_put hgl] at q
            rw [nth_put hhl]
            split
            · rename_i e; rw [e]; exact hB.2.1.symm
            · rename_i e; rw [if_neg e] at q; exact hg k hk q)
          refine ⟨2 :: y, h', s', g', ?_, by simp; omega, by rw [List.any_cons, r3]; rfl, ?_, r5⟩
          · rw [mvF, if_pos hgo, mvS, if_neg hA, if_pos hB]; dsimp only; rw [r1, List.append_assoc]; rfl
          · rw [repF, repS, if_neg (fun q => by have := q.1; omega), if_neg (fun q => by have := q.1; omega), if_pos ⟨rfl, hB.1⟩]; exact r4
        · by_cases hlt : nx < l.length
          · obtain ⟨y, h', s', g', r1, r2, r3, r4, r5⟩ := mv_replay hd1 he hw hf m (out ++ [0]) _ (nx + 1) _ h (mvI_shift hM hlt) (mvJ_shift hM hJ hlt hA hB) (by rw [List.length_append, List.length_singleton]; omega) hh hg
            refine ⟨0 :: y, h', s', g', ?_, by simp; omega, by rw [List.any_cons, r3]; rfl, ?_, r5⟩
            · rw [mvF, if_pos hgo, mvS, if_neg hA, if_neg hB, if_pos hlt]; dsimp only; rw [r1, List.append_assoc]; rfl
            · rw [repF, repS, if_pos ⟨rfl, hlt⟩]; exact r4
          · exact (stuck hM hJ hd1 he hw hf hlt (by omega) hA hB).elim
    · have e0 : mvF l n out s nx g = some out := by cases n <;> simp [mvF, hgo]
      have hnx : nx = l.length := by have := hM.le; omega
      subst hnx
      exact ⟨[], h, s, g, by rw [e0, List.append_nil], by simp; omega, rfl, rfl, by omega, hM, hJ, hh, hg⟩
/-- A flat tree has moves that give its heads. -/
theorem moved_yes {l : List Hung} (hv : valE l = 0) (hw : wholeB l = true) (hf : flatB l = true) : ∃ x, movesT l = (x, true, 0) ∧ x.length = 2 * l.length - (if l.length = 0 then 0 else 1) ∧ repT l.length x = (l.map fun h => h.2.1, true, 0) := by
  obtain ⟨v1, v2, v3⟩ := valE_ok hv
  obtain ⟨y, h', s', g', r1, r2, r3, r4, r5, r6, r7, r8, r9⟩ := mv_replay v2 v3 hw hf (2 * l.length) [] [] 0 (List.replicate l.length false) (List.replicate l.length 0) (mvI_0 l) (mvJ_0 l) (by simp) (by simp) (fun k hk q => by rw [nth_rep _ hk] at q; cases q)
  rw [List.nil_append] at r1
  have hs : s'.length = if l.length = 0 then 0 else 1 := by
    split
    · rename_i e
      rcases Nat.eq_zero_or_pos s'.length with h | h
      · exact h
      · have := r6.st 0 h; omega
    · have := r7.ne (by omega); omega
  refine ⟨y, by rw [movesT, if_neg (by omega), hw, hf, Bool.and_self, if_pos rfl, movesR, r1], by omega, ?_⟩
  rw [repT, if_neg (by omega), if_neg (by omega), r3, if_neg (by simp), Int.toNat_natCast, repE, r4]
  dsimp only
  rw [if_neg (by omega)]
  congr 1
  split
  · rename_i hl
    have hs1 : s'.length = 1 := by rw [hs, if_neg (by omega)]
    have st := r6.st 0 (by omega)
    have hp : (nth s' 0).toNat < h'.length := by omega
    -- the root is the one that is left
    have hroot : (nth l (nth s' 0).toNat).2.1 = -1 := by
      simp only [wholeB, Bool.and_eq_true, Bool.or_eq_true, decide_eq_true_eq, Bool.not_eq_true'] at hw
      obtain ⟨j, j1, j2⟩ : ∃ j, j < l.length ∧ (nth l j).2.1 = -1 := by
        rcases Classical.em (∃ j, j < l.length ∧ (nth l j).2.1 = -1) with h | h
        · exact h
        · have := cntF_zero (l := l) fun i hi e => h ⟨i, hi, e⟩
          omega
      rcases r7.all j j1 with h | ⟨p, p1, p2⟩
      · have := r7.hd j j1 h; omega
      · have : p = 0 := by omega
        subst this
        rw [p2, Int.toNat_natCast]; exact j2
    refine ext_nth (by rw [putAt_len hp, List.length_map]; exact r8) fun k hk => ?_
    rw [putAt_len hp, r8] at hk
    have hm : nth (l.map fun h => h.2.1) k = (nth l k).2.1 := by
      rw [nth_eq (by simpa using hk), nth_eq hk, List.getElem_map]
    rw [hm, nth_put hp]
    split
    · rename_i e; rw [e, hroot]
    · rename_i e
      rcases r7.all k hk with h | ⟨p, p1, p2⟩
      · exact r9 k hk h
      · have : p = 0 := by omega
        subst this
        exact absurd (by rw [p2, Int.toNat_natCast]) e
  · rename_i hl
    have h0 : l = [] := List.eq_nil_of_length_eq_zero (by omega)
    subst h0
    exact List.eq_nil_of_length_eq_zero r8
/-- ablaut/depend.Flat: 1 parameters, 0 captured -/
def s35 : SC := .seq (.reg [o1 2 (.mv (cB false)),
   o1 3 (.mv (cI 0))])
  (.seq (.seq (.reg [o1 5 (.mv (.t 0)),
     o1 6 (.call (.f 37) [(.t 5)]),
     o1 4 (.mv (.t 6))])
    (.seq (.reg [o1 7 (.mv (.t 4)),
      o1 8 (.bin .neq (.t 7) (cI 0))])
     (.cond (.t 8) (.seq (.reg [o1 9 (.mv (.t 4)),
        o1 2 (.mv (cB false)),
        o1 3 (.mv (.t 9))])
       (.ret)) (.skip))))
   (.seq (.reg [o1 10 (.mv (.t 0)),
     o1 11 (.call (.f 62) [(.t 10)]),
     o1 2 (.mv (.t 11)),
     o1 3 (.mv (cI 0))])
    (.ret)))
theorem s35_ok : lookF Try.prog 35 = some (s35, 12, [.tmp 2, .tmp 3]) := by kernel_rfl
def flT (l : List Hung) : Bool × Int := if valE l ≠ 0 then (false, valE l) else (flatB l, 0)
theorem hFlat_ok (l : List Hung) (hs : SmH l) : Fn P 35 [sl l] (.tup [boolA (flT l).1, intA (flT l).2]) := by
  have c1 := validate_ok l hs
  by_cases h : valE l = 0
  · obtain ⟨v1, v2, v3⟩ := valE_ok h
    rw [h] at c1
    have c2 := flat_ok l v1 v2
    rw [flT, if_neg (by omega)]
    (refine fn_look s35_ok (by simp) (by intro k; simp only [go_sem, Nat.reduceEqDiff, ↓reduceIte, reduceCtorEq, Nat.reduceAdd, Nat.reduceMul, Int.reduceToNat, List.reduceReplicate, Nat.reduceLeDiff, Nat.reduceLT, Int.reduceLT, Int.reduceLE, Int.reduceEq]) fun S hS => cwp_sound _ _ _ _ ?_; simp (disch := omega) only [s35, go_sem, Nat.reduceEqDiff, ↓reduceIte, reduceCtorEq, Nat.reduceAdd, Nat.reduceMul, Int.reduceToNat, List.reduceReplicate, Nat.reduceLeDiff, Nat.reduceLT, Int.reduceLT, Int.reduceLE, Int.reduceEq])
    repeat' (first | with_reducible refine inw ?_ | simp (disch := omega) only [go_sem, Nat.reduceEqDiff, ↓reduceIte, reduceCtorEq, Nat.reduceAdd, Nat.reduceMul, Int.reduceToNat, List.reduceReplicate, Nat.reduceLeDiff, Nat.reduceLT, Int.reduceLT, Int.reduceLE, Int.reduceEq] | (with_reducible apply call (c1)); (focus simp (disch := omega) only [go_sem, Nat.reduceEqDiff, ↓reduceIte, reduceCtorEq, Nat.reduceAdd, Nat.reduceMul, Int.reduceToNat, List.reduceReplicate, Nat.reduceLeDiff, Nat.reduceLT, Int.reduceLT, Int.reduceLE, Int.reduceEq] <;> rfl) | (with_reducible apply call (c2)); (focus simp (disch := omega) only [go_sem, Nat.reduceEqDiff, ↓reduceIte, reduceCtorEq, Nat.reduceAdd, Nat.reduceMul, Int.reduceToNat, List.reduceReplicate, Nat.reduceLeDiff, Nat.reduceLT, Int.reduceLT, Int.reduceLE, Int.reduceEq] <;> rfl) | with_reducible refine giv_intro fun _h => ?_ | with_reducible refine alt_intro ?_ fun _h => ?_ | with_reducible refine pickD_nil ?_ | (with_reducible refine brc (fun _h => ?_) fun _h => ?_) <;> first | (exfalso; omega) | simp only [decide_eq_false _h] | simp only [(_h : (_ : Bool) = _)] | simp only [decide_eq_true _h] | skip)
  · rw [flT, if_pos h]
    (refine fn_look s35_ok (by simp) (by intro k; simp only [go_sem, Nat.reduceEqDiff, ↓reduceIte, reduceCtorEq, Nat.reduceAdd, Nat.reduceMul, Int.reduceToNat, List.reduceReplicate, Nat.reduceLeDiff, Nat.reduceLT, Int.reduceLT, Int.reduceLE, Int.reduceEq]) fun S hS => cwp_sound _ _ _ _ ?_; simp (disch := omega) only [s35, go_sem, Nat.reduceEqDiff, ↓reduceIte, reduceCtorEq, Nat.reduceAdd, Nat.reduceMul, Int.reduceToNat, List.reduceReplicate, Nat.reduceLeDiff, Nat.reduceLT, Int.reduceLT, Int.reduceLE, Int.reduceEq])
    repeat' (first | with_reducible refine inw ?_ | simp (disch := omega) only [go_sem, Nat.reduceEqDiff, ↓reduceIte, reduceCtorEq, Nat.reduceAdd, Nat.reduceMul, Int.reduceToNat, List.reduceReplicate, Nat.reduceLeDiff, Nat.reduceLT, Int.reduceLT, Int.reduceLE, Int.reduceEq] | (with_reducible apply call (c1)); (focus simp (disch := omega) only [go_sem, Nat.reduceEqDiff, ↓reduceIte, reduceCtorEq, Nat.reduceAdd, Nat.reduceMul, Int.reduceToNat, List.reduceReplicate, Nat.reduceLeDiff, Nat.reduceLT, Int.reduceLT, Int.reduceLE, Int.reduceEq] <;> rfl) | with_reducible refine giv_intro fun _h => ?_ | with_reducible refine alt_intro ?_ fun _h => ?_ | with_reducible refine pickD_nil ?_ | (with_reducible refine brc (fun _h => ?_) fun _h => ?_) <;> first | (exfalso; omega) | simp only [decide_eq_false _h] | simp only [(_h : (_ : Bool) = _)] | simp only [decide_eq_true _h] | skip)
/-- ablaut/ablautlaw21.DependMoved: 1 parameters, 0 captured -/
def s11 : SC := .seq (.reg [o1 2 (.mv (cB false))])
  (.seq (.seq (.reg [o1 14 (.mv (.t 0)),
     o1 15 (.call (.f 12) [(.t 14)])])
    (.cond (.t 15) (.seq (.reg [o1 16 (.call (.f 14) []),
       o1 2 (.mv (.t 16))])
      (.ret)) (.skip)))
   (.seq (.reg [o1 18 (.mv (.t 0)),
     o1 19 (.call (.f 33) [(.t 18)]),
     o1 17 (.mv (.t 19)),
     o1 20 (.ext (.t 17) 0),
     o1 21 (.ext (.t 17) 1),
     o1 22 (.ext (.t 17) 2),
     o1 3 (.mv (.t 20)),
     o1 4 (.mv (.t 21)),
     o1 5 (.mv (.t 22))])
    (.seq (.reg [o1 24 (.mv (.t 0)),
      o1 25 (.call (.f 18) [(.t 24)]),
      o1 23 (.mv (.t 25)),
      o1 26 (.ext (.t 23) 0),
      o1 27 (.ext (.t 23) 1),
      o1 6 (.mv (.t 26)),
      o1 7 (.mv (.t 27))])
     (.seq (.reg [o1 29 (.mv (.t 0)),
       o1 30 (.call (.f 35) [(.t 29)]),
       o1 28 (.mv (.t 30)),
       o1 31 (.ext (.t 28) 0),
       o1 32 (.ext (.t 28) 1),
       o1 8 (.mv (.t 31)),
       o1 9 (.mv (.t 32))])
      (.seq (.seq (.reg [o1 33 (.mv (.t 5)),
         o1 34 (.bin .neq (.t 33) (cI 0))])
        (.cond (.t 34) (.seq (.reg [o1 35 (.call (.f 14) []),
           o1 2 (.mv (.t 35))])
          (.ret)) (.skip)))
       (.seq (.seq (.reg [o1 36 (.mv (.t 7)),
          o1 37 (.bin .neq (.t 36) (cI 0)),
          o1 38 (.mv (.t 37)),
          oF 39 (.mv (.t 9)) 38,
          oF 40 (.bin .neq (.t 39) (cI 0)) 38,
          o1 41 (.pick (.t 38) (cB true) (.t 40)),
          o1 42 (.mv (.t 41)),
          oF 43 (.mv (.t 4)) 42,
          oF 44 (.mv (.t 6)) 42,
          oF 45 (.mv (.t 44)) 42,
          oT 46 (.mv (.t 8)) 45,
          oF 47 (.pick (.t 45) (.t 46) (cB false)) 42,
          oF 48 (.eq true .bool (.t 43) (.t 47)) 42,
          o1 49 (.pick (.t 42) (cB true) (.t 48))])
         (.cond (.t 49) (.seq (.reg [o1 2 (.mv (cB false))])
           (.ret)) (.skip)))
        (.seq (.seq (.reg [o1 50 (.mv (.t 4))])
          (.cond (.t 50) (.seq (.reg [o1 52 (.mv (.t 0)),
             o1 53 (.lenL (.t 52)),
             o1 54 (.mv (.t 3)),
             o1 55 (.call (.f 21) [(.t 53), (.t 54)]),
             o1 51 (.mv (.t 55)),
             o1 56 (.ext (.t 51) 0),
             o1 57 (.ext (.t 51) 1),
             o1 58 (.ext (.t 51) 2),
             o1 10 (.mv (.t 56)),
             o1 11 (.mv (.t 57)),
             o1 12 (.mv (.t 58))])
            (.seq (.seq (.reg [o1 59 (.mv (.t 12)),
               o1 60 (.bin .neq (.t 59) (cI 0)),
               o1 61 (.mv (.t 60)),
               oF 62 (.mv (.t 11)) 61,
               oF 63 (.un .not (.t 62)) 61,
               o1 64 (.pick (.t 61) (cB true) (.t 63)),
               o1 65 (.mv (.t 64)),
               oF 66 (.mv (.t 3)) 65,
               oF 67 (.lenL (.t 66)) 65,
               oF 68 (.mv (.t 0)) 65,
               oF 69 (.lenL (.t 68)) 65,
               oF 70 (.bin .mul (cI 2) (.t 69)) 65,
               oF 71 (.bin .sub (.t 70) (cI 1)) 65,
               oF 72 (.max (.t 71) (cI 0)) 65,
               oF 73 (.bin .neq (.t 67) (.t 72)) 65,
               o1 74 (.pick (.t 65) (cB true) (.t 73))])
              (.cond (.t 74) (.seq (.reg [o1 2 (.mv (cB false))])
                (.ret)) (.skip)))
             (.seq (.reg [o1 13 (.mv (cI 0))])
              (.block 0 (.loop (.seq (.seq (.reg [o1 75 (.mv (.t 13)),
                   o1 76 (.mv (.t 0)),
                   o1 77 (.lenL (.t 76)),
                   o1 78 (.bin .lss (.t 75) (.t 77))])
                  (.cond (.t 78) (.skip) (.exit 0)))
                 (.seq (.block 1 (.seq (.regD [o1 81 (.mv (.t 10)),
                     o1 82 (.mv (.t 13)),
                     o1 83 (.iaddr 1 (.t 81) (.t 82)),
                     o1 84 (.load none (.t 83)),
                     o1 85 (.mv (.t 0)),
                     o1 86 (.mv (.t 13)),
                     o1 87 (.iaddr 3 (.t 85) (.t 86)),
                     o1 88 (.faddr 1 (.t 87)),
                     o1 89 (.load none (.t 88)),
                     o1 90 (.bin .neq (.t 84) (.t 89))])
                    (.cond (.t 90) (.seq (.reg [o1 2 (.mv (cB false))])
                      (.ret)) (.skip))))
                  (.reg [o1 79 (.mv (.t 13)),
                   o1 80 (.bin .add (.t 79) (cI 1)),
                   o1 13 (.mv (.t 80))])))))))) (.skip)))
         (.seq (.reg [o1 91 (.call (.f 14) []),
           o1 2 (.mv (.t 91))])
          (.ret)))))))))
theorem s11_ok : lookF Try.prog 11 = some (s11, 92, [.tmp 2]) := by kernel_rfl
set_option maxHeartbeats 2000000 in
theorem DependMoved_ok (l : List Hung) (hl : TH l) : Fn P 11 [sl l] (boolA true) := by
  have k0 := over_ok l
  by_cases h1 : overB l = false
  · rw [h1] at k0
    have ls := over_sm hl h1
    have c1 := moves_ok l ls
    have c2 := tree_ok l ls
    have c3 := hFlat_ok l ls
    by_cases hv : valE l = 0
    · obtain ⟨v1, v2, v3⟩ := valE_ok hv
      have hform : formE l = 0 := by
        unfold valE at hv
        split at hv
        · rename_i h; exact absurd hv h
        · rename_i h; omega
      have hr := (ringsB_ends v2).2 v3
      have hT : treeT l = (wholeB l, 0) := by rw [treeT, if_neg (by omega), hr]; rfl
      have hF : flT l = (flatB l, 0) := by rw [flT, if_neg (by omega)]
      rw [hT] at c2
      rw [hF] at c3
      by_cases hw : wholeB l = true
      · by_cases hf : flatB l = true
        · obtain ⟨x, x1, x2, x3⟩ := moved_yes hv hw hf
          have c4 := replay_ok l.length x
          rw [x3] at c4
          rw [x1] at c1
          rw [hw] at c2
          rw [hf] at c3
          have hml : (l.map fun h => h.2.1).length = l.length := List.length_map ..
          have hm : ∀ k, k < l.length → nth (l.map fun h => h.2.1) k = (nth l k).2.1 := fun k hk => by
            rw [nth_eq (by simpa using hk), nth_eq hk, List.getElem_map]
          generalize l.map (fun h => h.2.1) = hh at *
          have x4 : (x.length : Int) = max (2 * (l.length : Int) - 1) 0 := by split at x2 <;> omega
          (refine fn_look s11_ok (by simp) (by intro k; simp only [go_sem, Nat.reduceEqDiff, ↓reduceIte, reduceCtorEq, Nat.reduceAdd, Nat.reduceMul, Int.reduceToNat, List.reduceReplicate, Nat.reduceLeDiff, Nat.reduceLT, Int.reduceLT, Int.reduceLE, Int.reduceEq]) fun S hS => cwp_sound _ _ _ _ ?_; simp (disch := omega) only [s11, go_sem, Nat.reduceEqDiff, ↓reduceIte, reduceCtorEq, Nat.reduceAdd, Nat.reduceMul, Int.reduceToNat, List.reduceReplicate, Nat.reduceLeDiff, Nat.reduceLT, Int.reduceLT, Int.reduceLE, Int.reduceEq])
          repeat' (first | with_reducible refine inw ?_ | simp (disch := omega) only [go_sem, Nat.reduceEqDiff, ↓reduceIte, reduceCtorEq, Nat.reduceAdd, Nat.reduceMul, Int.reduceToNat, List.reduceReplicate, Nat.reduceLeDiff, Nat.reduceLT, Int.reduceLT, Int.reduceLE, Int.reduceEq] | (with_reducible apply call (k0)); (focus simp (disch := omega) only [go_sem, Nat.reduceEqDiff, ↓reduceIte, reduceCtorEq, Nat.reduceAdd, Nat.reduceMul, Int.reduceToNat, List.reduceReplicate, Nat.reduceLeDiff, Nat.reduceLT, Int.reduceLT, Int.reduceLE, Int.reduceEq] <;> rfl) | (with_reducible apply call (c1)); (focus simp (disch := omega) only [go_sem, Nat.reduceEqDiff, ↓reduceIte, reduceCtorEq, Nat.reduceAdd, Nat.reduceMul, Int.reduceToNat, List.reduceReplicate, Nat.reduceLeDiff, Nat.reduceLT, Int.reduceLT, Int.reduceLE, Int.reduceEq] <;> rfl) | (with_reducible apply call (c2)); (focus simp (disch := omega) only [go_sem, Nat.reduceEqDiff, ↓reduceIte, reduceCtorEq, Nat.reduceAdd, Nat.reduceMul, Int.reduceToNat, List.reduceReplicate, Nat.reduceLeDiff, Nat.reduceLT, Int.reduceLT, Int.reduceLE, Int.reduceEq] <;> rfl) | (with_reducible apply call (c3)); (focus simp (disch := omega) only [go_sem, Nat.reduceEqDiff, ↓reduceIte, reduceCtorEq, Nat.reduceAdd, Nat.reduceMul, Int.reduceToNat, List.reduceReplicate, Nat.reduceLeDiff, Nat.reduceLT, Int.reduceLT, Int.reduceLE, Int.reduceEq] <;> rfl) | (with_reducible apply call (c4)); (focus simp (disch := omega) only [go_sem, Nat.reduceEqDiff, ↓reduceIte, reduceCtorEq, Nat.reduceAdd, Nat.reduceMul, Int.reduceToNat, List.reduceReplicate, Nat.reduceLeDiff, Nat.reduceLT, Int.reduceLT, Int.reduceLE, Int.reduceEq] <;> rfl) | (with_reducible apply call (known_ok)); (focus simp (disch := omega) only [go_sem, Nat.reduceEqDiff, ↓reduceIte, reduceCtorEq, Nat.reduceAdd, Nat.reduceMul, Int.reduceToNat, List.reduceReplicate, Nat.reduceLeDiff, Nat.reduceLT, Int.reduceLT, Int.reduceLE, Int.reduceEq] <;> rfl) | with_reducible refine giv_intro fun _h => ?_ | with_reducible refine alt_intro ?_ fun _h => ?_ | with_reducible refine pickD_nil ?_ | (with_reducible refine brc (fun _h => ?_) fun _h => ?_) <;> first | (exfalso; omega) | simp only [decide_eq_false _h] | simp only [(_h : (_ : Bool) = _)] | simp only [decide_eq_true _h] | skip)
          (refine loopC hS [0, 10] (by simp only [go_sem, Nat.reduceEqDiff, ↓reduceIte, reduceCtorEq, Nat.reduceAdd, Nat.reduceMul, Int.reduceToNat, List.reduceReplicate, Nat.reduceLeDiff, Nat.reduceLT, Int.reduceLT, Int.reduceLE, Int.reduceEq]; try rfl) (fun (i : Nat) => [(13, intA i)]) (fun (i : Nat) => []) (fun (i : Nat) => i ≤ l.length) (fun (i : Nat) => l.length - i) (0) ?h01 ?hn1 ?rd1; case hn1 => (intro s; first | rfl | (rcases s with ⟨_, _⟩; rfl) | (rcases s with ⟨_, _, _⟩; rfl) | (rcases s with ⟨_, _, _, _⟩; rfl) | (rcases s with ⟨_, _, _, _, _⟩; rfl)))
          · simp (disch := omega) only [go_sem, Nat.reduceEqDiff, ↓reduceIte, reduceCtorEq, Nat.reduceAdd, Nat.reduceMul, Int.reduceToNat, List.reduceReplicate, Nat.reduceLeDiff, Nat.reduceLT, Int.reduceLT, Int.reduceLE, Int.reduceEq]; simp
          rintro i hi
          replace hi : i ≤ l.length := hi
          by_cases hil : i < l.length
          · have e := hm i hil
            repeat' (first | with_reducible refine inw ?_ | simp (disch := omega) only [go_sem, Nat.reduceEqDiff, ↓reduceIte, reduceCtorEq, Nat.reduceAdd, Nat.reduceMul, Int.reduceToNat, List.reduceReplicate, Nat.reduceLeDiff, Nat.reduceLT, Int.reduceLT, Int.reduceLE, Int.reduceEq, e] | with_reducible refine giv_intro fun _h => ?_ | with_reducible refine alt_intro ?_ fun _h => ?_ | with_reducible refine pickD_nil ?_ | (with_reducible refine brc (fun _h => ?_) fun _h => ?_) <;> first | (exfalso; omega) | simp only [decide_eq_false _h] | simp only [(_h : (_ : Bool) = _)] | simp only [decide_eq_true _h] | skip)
            exact ⟨i + 1, ⟨by omega, by omega⟩, by omega⟩
          · repeat' (first | with_reducible refine inw ?_ | simp (disch := omega) only [go_sem, Nat.reduceEqDiff, ↓reduceIte, reduceCtorEq, Nat.reduceAdd, Nat.reduceMul, Int.reduceToNat, List.reduceReplicate, Nat.reduceLeDiff, Nat.reduceLT, Int.reduceLT, Int.reduceLE, Int.reduceEq] | (with_reducible apply call (known_ok)); (focus simp (disch := omega) only [go_sem, Nat.reduceEqDiff, ↓reduceIte, reduceCtorEq, Nat.reduceAdd, Nat.reduceMul, Int.reduceToNat, List.reduceReplicate, Nat.reduceLeDiff, Nat.reduceLT, Int.reduceLT, Int.reduceLE, Int.reduceEq] <;> rfl) | with_reducible refine giv_intro fun _h => ?_ | with_reducible refine alt_intro ?_ fun _h => ?_ | with_reducible refine pickD_nil ?_ | (with_reducible refine brc (fun _h => ?_) fun _h => ?_) <;> first | (exfalso; omega) | simp only [decide_eq_false _h] | simp only [(_h : (_ : Bool) = _)] | simp only [decide_eq_true _h] | skip)
        · have hf2 : flatB l = false := by simpa using hf
          have hM : movesT l = ([], false, 0) := by rw [movesT, if_neg (by omega), hw, hf2]; rfl
          rw [hM] at c1
          rw [hw] at c2
          rw [hf2] at c3
          (refine fn_look s11_ok (by simp) (by intro k; simp only [go_sem, Nat.reduceEqDiff, ↓reduceIte, reduceCtorEq, Nat.reduceAdd, Nat.reduceMul, Int.reduceToNat, List.reduceReplicate, Nat.reduceLeDiff, Nat.reduceLT, Int.reduceLT, Int.reduceLE, Int.reduceEq]) fun S hS => cwp_sound _ _ _ _ ?_; simp (disch := omega) only [s11, go_sem, Nat.reduceEqDiff, ↓reduceIte, reduceCtorEq, Nat.reduceAdd, Nat.reduceMul, Int.reduceToNat, List.reduceReplicate, Nat.reduceLeDiff, Nat.reduceLT, Int.reduceLT, Int.reduceLE, Int.reduceEq])
          repeat' (first | with_reducible refine inw ?_ | simp (disch := omega) only [go_sem, Nat.reduceEqDiff, ↓reduceIte, reduceCtorEq, Nat.reduceAdd, Nat.reduceMul, Int.reduceToNat, List.reduceReplicate, Nat.reduceLeDiff, Nat.reduceLT, Int.reduceLT, Int.reduceLE, Int.reduceEq] | (with_reducible apply call (k0)); (focus simp (disch := omega) only [go_sem, Nat.reduceEqDiff, ↓reduceIte, reduceCtorEq, Nat.reduceAdd, Nat.reduceMul, Int.reduceToNat, List.reduceReplicate, Nat.reduceLeDiff, Nat.reduceLT, Int.reduceLT, Int.reduceLE, Int.reduceEq] <;> rfl) | (with_reducible apply call (c1)); (focus simp (disch := omega) only [go_sem, Nat.reduceEqDiff, ↓reduceIte, reduceCtorEq, Nat.reduceAdd, Nat.reduceMul, Int.reduceToNat, List.reduceReplicate, Nat.reduceLeDiff, Nat.reduceLT, Int.reduceLT, Int.reduceLE, Int.reduceEq] <;> rfl) | (with_reducible apply call (c2)); (focus simp (disch := omega) only [go_sem, Nat.reduceEqDiff, ↓reduceIte, reduceCtorEq, Nat.reduceAdd, Nat.reduceMul, Int.reduceToNat, List.reduceReplicate, Nat.reduceLeDiff, Nat.reduceLT, Int.reduceLT, Int.reduceLE, Int.reduceEq] <;> rfl) | (with_reducible apply call (c3)); (focus simp (disch := omega) only [go_sem, Nat.reduceEqDiff, ↓reduceIte, reduceCtorEq, Nat.reduceAdd, Nat.reduceMul, Int.reduceToNat, List.reduceReplicate, Nat.reduceLeDiff, Nat.reduceLT, Int.reduceLT, Int.reduceLE, Int.reduceEq] <;> rfl) | (with_reducible apply call (known_ok)); (focus simp (disch := omega) only [go_sem, Nat.reduceEqDiff, ↓reduceIte, reduceCtorEq, Nat.reduceAdd, Nat.reduceMul, Int.reduceToNat, List.reduceReplicate, Nat.reduceLeDiff, Nat.reduceLT, Int.reduceLT, Int.reduceLE, Int.reduceEq] <;> rfl) | with_reducible refine giv_intro fun _h => ?_ | with_reducible refine alt_intro ?_ fun _h => ?_ | with_reducible refine pickD_nil ?_ | (with_reducible refine brc (fun _h => ?_) fun _h => ?_) <;> first | (exfalso; omega) | simp only [decide_eq_false _h] | simp only [(_h : (_ : Bool) = _)] | simp only [decide_eq_true _h] | skip)
      · have hw2 : wholeB l = false := by simpa using hw
        have hM : movesT l = ([], false, 0) := by rw [movesT, if_neg (by omega), hw2]; rfl
        rw [hM] at c1
        rw [hw2] at c2
        (refine fn_look s11_ok (by simp) (by intro k; simp only [go_sem, Nat.reduceEqDiff, ↓reduceIte, reduceCtorEq, Nat.reduceAdd, Nat.reduceMul, Int.reduceToNat, List.reduceReplicate, Nat.reduceLeDiff, Nat.reduceLT, Int.reduceLT, Int.reduceLE, Int.reduceEq]) fun S hS => cwp_sound _ _ _ _ ?_; simp (disch := omega) only [s11, go_sem, Nat.reduceEqDiff, ↓reduceIte, reduceCtorEq, Nat.reduceAdd, Nat.reduceMul, Int.reduceToNat, List.reduceReplicate, Nat.reduceLeDiff, Nat.reduceLT, Int.reduceLT, Int.reduceLE, Int.reduceEq])
        repeat' (first | with_reducible refine inw ?_ | simp (disch := omega) only [go_sem, Nat.reduceEqDiff, ↓reduceIte, reduceCtorEq, Nat.reduceAdd, Nat.reduceMul, Int.reduceToNat, List.reduceReplicate, Nat.reduceLeDiff, Nat.reduceLT, Int.reduceLT, Int.reduceLE, Int.reduceEq] | (with_reducible apply call (k0)); (focus simp (disch := omega) only [go_sem, Nat.reduceEqDiff, ↓reduceIte, reduceCtorEq, Nat.reduceAdd, Nat.reduceMul, Int.reduceToNat, List.reduceReplicate, Nat.reduceLeDiff, Nat.reduceLT, Int.reduceLT, Int.reduceLE, Int.reduceEq] <;> rfl) | (with_reducible apply call (c1)); (focus simp (disch := omega) only [go_sem, Nat.reduceEqDiff, ↓reduceIte, reduceCtorEq, Nat.reduceAdd, Nat.reduceMul, Int.reduceToNat, List.reduceReplicate, Nat.reduceLeDiff, Nat.reduceLT, Int.reduceLT, Int.reduceLE, Int.reduceEq] <;> rfl) | (with_reducible apply call (c2)); (focus simp (disch := omega) only [go_sem, Nat.reduceEqDiff, ↓reduceIte, reduceCtorEq, Nat.reduceAdd, Nat.reduceMul, Int.reduceToNat, List.reduceReplicate, Nat.reduceLeDiff, Nat.reduceLT, Int.reduceLT, Int.reduceLE, Int.reduceEq] <;> rfl) | (with_reducible apply call (c3)); (focus simp (disch := omega) only [go_sem, Nat.reduceEqDiff, ↓reduceIte, reduceCtorEq, Nat.reduceAdd, Nat.reduceMul, Int.reduceToNat, List.reduceReplicate, Nat.reduceLeDiff, Nat.reduceLT, Int.reduceLT, Int.reduceLE, Int.reduceEq] <;> rfl) | (with_reducible apply call (known_ok)); (focus simp (disch := omega) only [go_sem, Nat.reduceEqDiff, ↓reduceIte, reduceCtorEq, Nat.reduceAdd, Nat.reduceMul, Int.reduceToNat, List.reduceReplicate, Nat.reduceLeDiff, Nat.reduceLT, Int.reduceLT, Int.reduceLE, Int.reduceEq] <;> rfl) | with_reducible refine giv_intro fun _h => ?_ | with_reducible refine alt_intro ?_ fun _h => ?_ | with_reducible refine pickD_nil ?_ | (with_reducible refine brc (fun _h => ?_) fun _h => ?_) <;> first | (exfalso; omega) | simp only [decide_eq_false _h] | simp only [(_h : (_ : Bool) = _)] | simp only [decide_eq_true _h] | skip)
    · have hM : movesT l = ([], false, valE l) := by rw [movesT, if_pos hv]
      rw [hM] at c1
      generalize treeT l = t1 at *
      generalize flT l = t2 at *
      (refine fn_look s11_ok (by simp) (by intro k; simp only [go_sem, Nat.reduceEqDiff, ↓reduceIte, reduceCtorEq, Nat.reduceAdd, Nat.reduceMul, Int.reduceToNat, List.reduceReplicate, Nat.reduceLeDiff, Nat.reduceLT, Int.reduceLT, Int.reduceLE, Int.reduceEq]) fun S hS => cwp_sound _ _ _ _ ?_; simp (disch := omega) only [s11, go_sem, Nat.reduceEqDiff, ↓reduceIte, reduceCtorEq, Nat.reduceAdd, Nat.reduceMul, Int.reduceToNat, List.reduceReplicate, Nat.reduceLeDiff, Nat.reduceLT, Int.reduceLT, Int.reduceLE, Int.reduceEq])
      repeat' (first | with_reducible refine inw ?_ | simp (disch := omega) only [go_sem, Nat.reduceEqDiff, ↓reduceIte, reduceCtorEq, Nat.reduceAdd, Nat.reduceMul, Int.reduceToNat, List.reduceReplicate, Nat.reduceLeDiff, Nat.reduceLT, Int.reduceLT, Int.reduceLE, Int.reduceEq] | (with_reducible apply call (k0)); (focus simp (disch := omega) only [go_sem, Nat.reduceEqDiff, ↓reduceIte, reduceCtorEq, Nat.reduceAdd, Nat.reduceMul, Int.reduceToNat, List.reduceReplicate, Nat.reduceLeDiff, Nat.reduceLT, Int.reduceLT, Int.reduceLE, Int.reduceEq] <;> rfl) | (with_reducible apply call (c1)); (focus simp (disch := omega) only [go_sem, Nat.reduceEqDiff, ↓reduceIte, reduceCtorEq, Nat.reduceAdd, Nat.reduceMul, Int.reduceToNat, List.reduceReplicate, Nat.reduceLeDiff, Nat.reduceLT, Int.reduceLT, Int.reduceLE, Int.reduceEq] <;> rfl) | (with_reducible apply call (c2)); (focus simp (disch := omega) only [go_sem, Nat.reduceEqDiff, ↓reduceIte, reduceCtorEq, Nat.reduceAdd, Nat.reduceMul, Int.reduceToNat, List.reduceReplicate, Nat.reduceLeDiff, Nat.reduceLT, Int.reduceLT, Int.reduceLE, Int.reduceEq] <;> rfl) | (with_reducible apply call (c3)); (focus simp (disch := omega) only [go_sem, Nat.reduceEqDiff, ↓reduceIte, reduceCtorEq, Nat.reduceAdd, Nat.reduceMul, Int.reduceToNat, List.reduceReplicate, Nat.reduceLeDiff, Nat.reduceLT, Int.reduceLT, Int.reduceLE, Int.reduceEq] <;> rfl) | (with_reducible apply call (known_ok)); (focus simp (disch := omega) only [go_sem, Nat.reduceEqDiff, ↓reduceIte, reduceCtorEq, Nat.reduceAdd, Nat.reduceMul, Int.reduceToNat, List.reduceReplicate, Nat.reduceLeDiff, Nat.reduceLT, Int.reduceLT, Int.reduceLE, Int.reduceEq] <;> rfl) | with_reducible refine giv_intro fun _h => ?_ | with_reducible refine alt_intro ?_ fun _h => ?_ | with_reducible refine pickD_nil ?_ | (with_reducible refine brc (fun _h => ?_) fun _h => ?_) <;> first | (exfalso; omega) | simp only [decide_eq_false _h] | simp only [(_h : (_ : Bool) = _)] | simp only [decide_eq_true _h] | skip)
  · rw [show overB l = true by simpa using h1] at k0
    (refine fn_look s11_ok (by simp) (by intro k; simp only [go_sem, Nat.reduceEqDiff, ↓reduceIte, reduceCtorEq, Nat.reduceAdd, Nat.reduceMul, Int.reduceToNat, List.reduceReplicate, Nat.reduceLeDiff, Nat.reduceLT, Int.reduceLT, Int.reduceLE, Int.reduceEq]) fun S hS => cwp_sound _ _ _ _ ?_; simp (disch := omega) only [s11, go_sem, Nat.reduceEqDiff, ↓reduceIte, reduceCtorEq, Nat.reduceAdd, Nat.reduceMul, Int.reduceToNat, List.reduceReplicate, Nat.reduceLeDiff, Nat.reduceLT, Int.reduceLT, Int.reduceLE, Int.reduceEq])
    repeat' (first | with_reducible refine inw ?_ | simp (disch := omega) only [go_sem, Nat.reduceEqDiff, ↓reduceIte, reduceCtorEq, Nat.reduceAdd, Nat.reduceMul, Int.reduceToNat, List.reduceReplicate, Nat.reduceLeDiff, Nat.reduceLT, Int.reduceLT, Int.reduceLE, Int.reduceEq] | (with_reducible apply call (k0)); (focus simp (disch := omega) only [go_sem, Nat.reduceEqDiff, ↓reduceIte, reduceCtorEq, Nat.reduceAdd, Nat.reduceMul, Int.reduceToNat, List.reduceReplicate, Nat.reduceLeDiff, Nat.reduceLT, Int.reduceLT, Int.reduceLE, Int.reduceEq] <;> rfl) | (with_reducible apply call (known_ok)); (focus simp (disch := omega) only [go_sem, Nat.reduceEqDiff, ↓reduceIte, reduceCtorEq, Nat.reduceAdd, Nat.reduceMul, Int.reduceToNat, List.reduceReplicate, Nat.reduceLeDiff, Nat.reduceLT, Int.reduceLT, Int.reduceLE, Int.reduceEq] <;> rfl) | with_reducible refine giv_intro fun _h => ?_ | with_reducible refine alt_intro ?_ fun _h => ?_ | with_reducible refine pickD_nil ?_ | (with_reducible refine brc (fun _h => ?_) fun _h => ?_) <;> first | (exfalso; omega) | simp only [decide_eq_false _h] | simp only [(_h : (_ : Bool) = _)] | simp only [decide_eq_true _h] | skip)
end Go.Proofs.Ytkedbkdbnmmkhaa.Ev
