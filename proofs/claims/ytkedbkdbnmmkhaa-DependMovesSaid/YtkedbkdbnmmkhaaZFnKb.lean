/- Chains of heads: rings, what hangs on what. -/
import Derived.Test.YtkedbkdbnmmkhaaZFnKa
set_option linter.unusedVariables false
set_option linter.unusedSimpArgs false
namespace Go.Proofs.Ytkedbkdbnmmkhaa.Ev
open Go Go.Proofs

theorem pigeon : ∀ (n : Nat) (f : Nat → Nat), (∀ i, i ≤ n → f i < n) → ∃ i j, i < j ∧ j ≤ n ∧ f i = f j
  | 0, f, h => by have := h 0 (by omega); omega
  | n + 1, f, h => by
    by_cases hv : ∃ i, i ≤ n ∧ f i = f (n + 1)
    · obtain ⟨i, h1, h2⟩ := hv; exact ⟨i, n + 1, by omega, by omega, h2⟩
    · have hne : ∀ i, i ≤ n → f i ≠ f (n + 1) := fun i hi e => hv ⟨i, hi, e⟩
      have h0 := h (n + 1) (by omega)
      obtain ⟨i, j, h1, h2, h3⟩ := pigeon n (fun i => if f i = n then f (n + 1) else f i) (fun i hi => by
        have h1 := h i (by omega)
        have h2 := hne i hi
        split <;> omega)
      refine ⟨i, j, h1, by omega, ?_⟩
      have e1 := hne i (by omega)
      have e2 := hne j h2
      split at h3 <;> split at h3 <;> omega

/-- The head of a node, a chain of heads; what is below 0 stays. -/
def hd (l : List Hung) (x : Int) : Int := if x < 0 then x else (nth l x.toNat).2.1
def it (l : List Hung) : Nat → Int → Int
  | 0, x => x
  | n + 1, x => it l n (hd l x)
def Hds (l : List Hung) : Prop := ∀ i, i < l.length → -2 ≤ (nth l i).2.1 ∧ (nth l i).2.1 < l.length
/-- Each chain ends. -/
def Ends (l : List Hung) : Prop := ∀ x : Int, x < l.length → ∃ k, it l k x < 0
/-- x hangs on y by some way. -/
def Hg (l : List Hung) (x y : Int) : Prop := ∃ k, 0 ≤ it l k x ∧ it l k x = y
theorem it_neg (l : List Hung) {x : Int} (h : x < 0) : ∀ n, it l n x = x
  | 0 => rfl
  | n + 1 => by rw [it, show hd l x = x by rw [hd, if_pos h]]; exact it_neg l h n
theorem it_add (l : List Hung) : ∀ (a b : Nat) (x : Int), it l (a + b) x = it l b (it l a x)
  | 0, b, x => by rw [Nat.zero_add]; rfl
  | a + 1, b, x => by rw [show a + 1 + b = (a + b) + 1 by omega, it, it, it_add l a b]
theorem it_mono (l : List Hung) {x : Int} {a b : Nat} (h : it l a x < 0) (hab : a ≤ b) : it l b x < 0 := by
  obtain ⟨c, rfl⟩ := Nat.exists_eq_add_of_le hab
  rw [it_add, it_neg l h]; exact h
theorem hd_lt {l : List Hung} (hl : Hds l) {x : Int} (hx : x < l.length) : hd l x < l.length := by
  unfold hd
  split
  · exact hx
  · exact (hl x.toNat (by omega)).2
theorem it_lt {l : List Hung} (hl : Hds l) : ∀ (n : Nat) {x : Int}, x < l.length → it l n x < l.length
  | 0, x, hx => hx
  | n + 1, x, hx => it_lt hl n (hd_lt hl hx)
theorem hd_lo {l : List Hung} (hl : Hds l) {x : Int} (hx : x < l.length) (h0 : -2 ≤ x) : -2 ≤ hd l x := by
  unfold hd
  split
  · exact h0
  · exact (hl x.toNat (by omega)).1
/-- A way that comes back never ends. -/
theorem ring_no {l : List Hung} (he : Ends l) {x : Int} {n : Nat} (hn : 0 < n) (h0 : 0 ≤ x) (hx : x < l.length) (h : it l n x = x) : False := by
  obtain ⟨k, hk⟩ := he x hx
  have key : ∀ m, it l (n * m) x = x := fun m => by
    induction m with
    | zero => rfl
    | succ m ih => rw [Nat.mul_succ, it_add, ih, h]
  have h1 := it_mono l hk (b := n * k) (by have := Nat.le_mul_of_pos_left k hn; omega)
  rw [key k] at h1; omega
/-- Where a chain does not end within all nodes, it comes back. -/
theorem long_ring {l : List Hung} (hl : Hds l) {x : Int} (hx : x < l.length) (h : 0 ≤ it l l.length x) : ∃ i j, i < j ∧ j ≤ l.length ∧ it l i x = it l j x := by
  have hp : ∀ i, i ≤ l.length → 0 ≤ it l i x := fun i hi => by
    rcases Int.lt_or_le (it l i x) 0 with h1 | h1
    · have := it_mono l h1 hi; omega
    · exact h1
  obtain ⟨i, j, h1, h2, h3⟩ := pigeon l.length (fun i => (it l i x).toNat) (fun i hi => by have := it_lt hl i hx; have := hp i hi; omega)
  have := hp i (by omega); have := hp j h2
  exact ⟨i, j, h1, h2, by omega⟩
def hangsF (l : List Hung) (on : Int) : Nat → Int → Bool
  | 0, _ => false
  | n + 1, x => if x < 0 then false else if x = on then true else hangsF l on n (hd l x)
def hgB (l : List Hung) (x on : Int) : Bool := hangsF l on (l.length + 1) x
theorem hangsF_iff (l : List Hung) (on : Int) : ∀ (n : Nat) (x : Int), hangsF l on n x = true ↔ ∃ k, k < n ∧ 0 ≤ it l k x ∧ it l k x = on
  | 0, x => by simp [hangsF]
  | n + 1, x => by
    rw [hangsF]
    by_cases h0 : x < 0
    · rw [if_pos h0]
      constructor
      · intro h; cases h
      · rintro ⟨k, _, h1, h2⟩; rw [it_neg l h0] at h1; omega
    · rw [if_neg h0]
      by_cases h1 : x = on
      · rw [if_pos h1]; exact ⟨fun _ => ⟨0, by omega, by show 0 ≤ x; omega, h1⟩, fun _ => rfl⟩
      · rw [if_neg h1, hangsF_iff l on n]
        constructor
        · rintro ⟨k, h2, h3, h4⟩; exact ⟨k + 1, by omega, h3, h4⟩
        · rintro ⟨k, h2, h3, h4⟩
          cases k with
          | zero => exact absurd h4 h1
          | succ k => exact ⟨k, by omega, h3, h4⟩
/-- Rings by the program, by the document. -/
def ringsB (l : List Hung) : Bool := (List.range l.length).any fun i => hangsF l i l.length (hd l i)
def ringsR (l : List Hung) : Bool := (List.range l.length).any fun i => decide (0 ≤ hd l i) && hgB l (hd l i) i
theorem ringF_ends {l : List Hung} (he : Ends l) (n i : Nat) (hi : i < l.length) : hangsF l i n (hd l i) = false := by
  rw [← Bool.not_eq_true, hangsF_iff]
  rintro ⟨k, _, h1, h2⟩
  exact ring_no he (n := k + 1) (by omega) (x := i) (by omega) (by omega) h2
theorem noring_ends {l : List Hung} (hl : Hds l) (h : ∀ i : Nat, i < l.length → hangsF l i l.length (hd l i) = false) : Ends l := fun x hx => by
  rcases Int.lt_or_le (it l l.length x) 0 with h1 | h1
  · exact ⟨_, h1⟩
  · obtain ⟨i, j, h2, h3, h4⟩ := long_ring hl hx h1
    have hp : 0 ≤ it l i x := by
      rcases Int.lt_or_le (it l i x) 0 with h5 | h5
      · have := it_mono l h5 (b := l.length) (by omega); omega
      · exact h5
    have hlt := it_lt hl i hx
    have := h (it l i x).toNat (by omega)
    rw [← Bool.not_eq_true, hangsF_iff] at this
    refine absurd ⟨j - i - 1, by omega, ?_⟩ this
    have e : ((it l i x).toNat : Int) = it l i x := by omega
    rw [e]
    have e2 : it l (j - i - 1) (hd l (it l i x)) = it l j x := by
      have : it l (j - i - 1) (hd l (it l i x)) = it l (j - i - 1 + 1) (it l i x) := rfl
      rw [this, ← it_add]; congr 1; omega
    rw [e2, ← h4]; exact ⟨hp, rfl⟩
theorem ringsB_ends {l : List Hung} (hl : Hds l) : ringsB l = false ↔ Ends l := by
  rw [ringsB, List.any_eq_false]
  constructor
  · intro h
    refine noring_ends hl fun i hi => ?_
    have := h i (List.mem_range.2 hi)
    simpa using this
  · intro he i hi
    rw [ringF_ends he _ i (List.mem_range.1 hi)]; simp
theorem ringsR_ends {l : List Hung} (hl : Hds l) : ringsR l = false ↔ Ends l := by
  rw [ringsR, List.any_eq_false]
  constructor
  · intro h
    refine noring_ends hl fun i hi => ?_
    have := h i (List.mem_range.2 hi)
    rw [← Bool.not_eq_true, hangsF_iff]
    rintro ⟨k, h1, h2, h3⟩
    refine this ?_
    rw [Bool.and_eq_true, decide_eq_true_eq, hgB, hangsF_iff]
    refine ⟨?_, k, by omega, h2, h3⟩
    rcases Int.lt_or_le (hd l i) 0 with h5 | h5
    · rw [it_neg l h5] at h2; omega
    · exact h5
  · intro he i hi
    rw [hgB, ringF_ends he _ i (List.mem_range.1 hi)]; simp
theorem rings_eq {l : List Hung} (hl : Hds l) : ringsR l = ringsB l := by
  have h1 := ringsB_ends hl
  have h2 := ringsR_ends hl
  cases hb : ringsB l <;> cases hr : ringsR l <;> simp_all
/-- In a frame without rings: what hangs on what. -/
theorem ends_len {l : List Hung} (hl : Hds l) (he : Ends l) {x : Int} (hx : x < l.length) : it l l.length x < 0 := by
  rcases Int.lt_or_le (it l l.length x) 0 with h1 | h1
  · exact h1
  · obtain ⟨i, j, h2, h3, h4⟩ := long_ring hl hx h1
    have hp : 0 ≤ it l i x := by
      rcases Int.lt_or_le (it l i x) 0 with h5 | h5
      · have := it_mono l h5 (b := l.length) (by omega); omega
      · exact h5
    refine (ring_no he (n := j - i) (x := it l i x) (by omega) hp (it_lt hl i hx) ?_).elim
    rw [← it_add, show i + (j - i) = j by omega, h4]
theorem hgB_iff {l : List Hung} (hl : Hds l) (he : Ends l) {x on : Int} (hx : x < l.length) : hgB l x on = true ↔ Hg l x on := by
  rw [hgB, hangsF_iff]
  constructor
  · rintro ⟨k, _, h1, h2⟩; exact ⟨k, h1, h2⟩
  · rintro ⟨k, h1, h2⟩
    refine ⟨k, ?_, h1, h2⟩
    rcases Nat.lt_or_ge k (l.length + 1) with h | h
    · exact h
    · have := it_mono l (ends_len hl he hx) (b := k) (by omega); omega
theorem hg_step {l : List Hung} {x on : Int} (h0 : 0 ≤ x) (hne : x ≠ on) : Hg l x on ↔ Hg l (hd l x) on := by
  constructor
  · rintro ⟨k, h1, h2⟩
    cases k with
    | zero => exact absurd h2 hne
    | succ k => exact ⟨k, h1, h2⟩
  · rintro ⟨k, h1, h2⟩; exact ⟨k + 1, h1, h2⟩
theorem hg_self {l : List Hung} {x : Int} (h0 : 0 ≤ x) : Hg l x x := ⟨0, h0, rfl⟩
theorem hg_neg {l : List Hung} {x on : Int} (h : x < 0) : ¬Hg l x on := by rintro ⟨k, h1, _⟩; rw [it_neg l h] at h1; omega
/-- How far a chain goes. -/
def far (l : List Hung) : Nat → Int → Nat
  | 0, _ => 0
  | n + 1, x => if x < 0 then 0 else far l n (hd l x) + 1
theorem far_mono {l : List Hung} : ∀ (n : Nat) (x : Int), it l n x < 0 → far l (n + 1) x = far l n x
  | 0, x, h => by rw [far, far, if_pos (show x < 0 from h)]
  | n + 1, x, h => by
    rw [far]
    by_cases h0 : x < 0
    · rw [if_pos h0, far, if_pos h0]
    · rw [if_neg h0, far_mono n _ h, far, if_neg h0]
theorem far_step {l : List Hung} (hl : Hds l) (he : Ends l) {x : Int} (h0 : 0 ≤ x) (hx : x < l.length) : far l (l.length + 1) (hd l x) < far l (l.length + 1) x := by
  have h1 := far_mono (l := l) l.length (hd l x) (ends_len hl he (hd_lt hl hx))
  have h2 : far l (l.length + 1) x = far l l.length (hd l x) + 1 := by rw [far, if_neg (by omega)]
  omega

/-! ### a head is set -/
def setHd (l : List Hung) (i : Nat) (k : Int) (s : Str) : List Hung := putAt l i ((nth l i).1, k, s)
theorem setHd_len {l : List Hung} {i : Nat} (h : i < l.length) (k : Int) (s : Str) : (setHd l i k s).length = l.length := putAt_len h _
theorem nth_put {α : Type} {q : Nat} [Enc α q] {l : List α} {i j : Nat} (hi : i < l.length) (x : α) : nth (putAt l i x) j = if j = i then x else nth l j := by
  rw [putAt_set hi]
  unfold nth
  simp only [List.getD_eq_getElem?_getD, List.getElem?_set]
  by_cases e : i = j
  · subst e; simp [hi]
  · rw [if_neg e, if_neg (fun h => e h.symm)]
theorem nth_setHd {l : List Hung} {i j : Nat} (hi : i < l.length) (k : Int) (s : Str) : nth (setHd l i k s) j = if j = i then ((nth l i).1, k, s) else nth l j := nth_put hi _
theorem hd_setHd {l : List Hung} {i : Nat} (hi : i < l.length) (k : Int) (s : Str) (x : Int) : hd (setHd l i k s) x = if x = i then k else hd l x := by
  unfold hd
  by_cases h0 : x < 0
  · rw [if_pos h0, if_pos h0, if_neg (by omega)]
  · rw [if_neg h0, if_neg h0, nth_setHd hi]
    by_cases e : x = i
    · rw [if_pos (by omega), if_pos e]
    · rw [if_neg (by omega), if_neg e]
theorem setHd_hds {l : List Hung} (hl : Hds l) {i : Nat} (hi : i < l.length) {k : Int} (h0 : -2 ≤ k) (hk : k < l.length) (s : Str) : Hds (setHd l i k s) := fun j hj => by
  rw [setHd_len hi] at hj ⊢
  rw [nth_setHd hi]
  split
  · exact ⟨h0, hk⟩
  · exact hl j hj
theorem it_off {l l' : List Hung} {i : Int} (hh : ∀ x, x ≠ i → hd l' x = hd l x) : ∀ (n : Nat) (x : Int), (∀ j, j < n → it l j x ≠ i) → it l' n x = it l n x
  | 0, x, _ => rfl
  | n + 1, x, h => by
    have h0 := h 0 (by omega)
    rw [it, it, hh x h0]
    exact it_off hh n _ fun j hj => h (j + 1) (by omega)
/-- A node is hung where nothing of it hangs: each chain ends still. -/
theorem setHd_ends {l : List Hung} (hl : Hds l) (he : Ends l) {i : Nat} (hi : i < l.length) {k : Int} (hk : k < l.length) (hn : ¬Hg l k i) (s : Str) : Ends (setHd l i k s) := fun x hx => by
  rw [setHd_len hi] at hx
  have hh : ∀ x, x ≠ (i : Int) → hd (setHd l i k s) x = hd l x := fun x hx => by rw [hd_setHd hi, if_neg hx]
  have tail : ∀ y : Int, y < l.length → ¬Hg l y i → ∃ m, it (setHd l i k s) m y < 0 := fun y hy hny => by
    obtain ⟨m, hm⟩ := he y hy
    refine ⟨m, ?_⟩
    rw [it_off hh m y fun j _ e => hny ⟨j, by omega, e⟩]; exact hm
  by_cases hg : Hg l x i
  · -- the first time
    have : ∃ m, it l m x = i ∧ ∀ j, j < m → it l j x ≠ i := by
      obtain ⟨m, _, hm⟩ := hg
      have key : ∀ m, it l m x = i → ∃ m, it l m x = i ∧ ∀ j, j < m → it l j x ≠ i := by
        intro m
        induction m using Nat.strongRecOn with
        | _ m ih =>
          intro hm
          by_cases h : ∃ j, j < m ∧ it l j x = i
          · obtain ⟨j, h1, h2⟩ := h; exact ih j h1 h2
          · exact ⟨m, hm, fun j hj e => h ⟨j, hj, e⟩⟩
      exact key m hm
    obtain ⟨m, h1, h2⟩ := this
    obtain ⟨q, hq⟩ := tail k hk hn
    refine ⟨m + (q + 1), ?_⟩
    rw [it_add, it_off hh m x h2, h1, it, hd_setHd hi, if_pos rfl]; exact hq
  · exact tail x hx hg
end Go.Proofs.Ytkedbkdbnmmkhaa.Ev
