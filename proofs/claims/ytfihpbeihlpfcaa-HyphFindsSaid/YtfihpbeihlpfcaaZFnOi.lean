/- Levels of places: the greatest of what patterns give. -/
import Derived.Test.YtfihpbeihlpfcaaZFnOh
set_option linter.unusedVariables false
set_option linter.unusedSimpArgs false
namespace Go.Proofs.Ytfihpbeihlpfcaa.Ev
open Go Go.Proofs

/-- The greatest of what C allows, 0 where nothing is. -/
def Sup (o : List Int) (C : Nat → Int → Prop) : Prop := ∀ q, q < o.length → (∀ v, C q v → v ≤ nth o q) ∧ (nth o q = 0 ∨ C q (nth o q)) ∧ 0 ≤ nth o q
theorem Sup.congr {o : List Int} {C C' : Nat → Int → Prop} (h : Sup o C) (e : ∀ q, q < o.length → ∀ x, C q x ↔ C' q x) : Sup o C' := fun q hq => by
  obtain ⟨h1, h2, h3⟩ := h q hq
  exact ⟨fun v hv => h1 v ((e q hq v).2 hv), h2.imp id fun h => (e q hq _).1 h, h3⟩
theorem nth_set {o : List Int} {j q : Nat} {x : Int} (hq : q < o.length) : nth (o.set j x) q = if q = j then x else nth o q := by
  rw [nth_eq (by rw [List.length_set]; exact hq), List.getElem_set, nth_eq hq]
  by_cases e : j = q
  · rw [if_pos e, if_pos e.symm]
  · rw [if_neg e, if_neg (Ne.symm e)]
theorem Sup.upd {o : List Int} {C : Nat → Int → Prop} (h : Sup o C) {j : Nat} {v : Int} (hj : j < o.length) (hv : 0 ≤ v) : Sup (o.set j (max (nth o j) v)) fun q x => C q x ∨ (q = j ∧ x = v) := by
  intro q hq
  rw [List.length_set] at hq
  obtain ⟨h1, h2, h3⟩ := h q hq
  rw [nth_set hq]
  by_cases e : q = j
  · subst e
    rw [if_pos rfl]
    refine ⟨?_, ?_, by omega⟩
    · rintro x (hx | ⟨_, rfl⟩)
      · have := h1 x hx; omega
      · omega
    · rcases Int.le_total v (nth o q) with hle | hle
      · rw [Int.max_eq_left hle]
        exact h2.imp id .inl
      · rw [Int.max_eq_right hle]
        exact .inr (.inr ⟨rfl, rfl⟩)
  · rw [if_neg e]
    refine ⟨?_, h2.imp id .inl, h3⟩
    rintro x (hx | ⟨e2, _⟩)
    · exact h1 x hx
    · exact absurd e2 e
theorem Sup.uniq {o o' : List Int} {C : Nat → Int → Prop} (hl : o.length = o'.length) (h : Sup o C) (h' : Sup o' C) : o = o' := by
  refine List.ext_getElem hl fun q h1 h2 => ?_
  obtain ⟨a1, a2, a3⟩ := h q h1
  obtain ⟨b1, b2, b3⟩ := h' q h2
  rw [nth_eq h1] at *
  rw [nth_eq h2] at *
  have x1 : o[q] ≤ o'[q] := by
    rcases a2 with e | e
    · omega
    · exact b1 _ e
  have x2 : o'[q] ≤ o[q] := by
    rcases b2 with e | e
    · omega
    · exact a1 _ e
  omega
theorem Sup.zero (n : Nat) : Sup (List.replicate n 0) fun _ _ => False := fun q hq => by
  rw [List.length_replicate] at hq
  have : nth (List.replicate n (0 : Int)) q = 0 := by rw [nth_eq (by rw [List.length_replicate]; exact hq), List.getElem_replicate]
  rw [this]
  exact ⟨fun _ h => h.elim, .inl rfl, by omega⟩
/-! ### the tree -/
theorem updK_sup {o lv : List Int} {fr : Nat} {C : Nat → Int → Prop} (h : Sup o C) (hp : ∀ x ∈ lv, 0 ≤ x) : ∀ k, k ≤ lv.length → fr + k ≤ o.length → Sup (updK o lv fr k) fun q x => C q x ∨ ∃ i, i < k ∧ q = fr + i ∧ x = nth lv i
  | 0, _, _ => h.congr fun q _ x => ⟨.inl, fun h => h.elim id fun ⟨i, hi, _⟩ => absurd hi (Nat.not_lt_zero _)⟩
  | k + 1, hk, hl => by
    have ih := updK_sup (fr := fr) h hp k (by omega) (by omega)
    rw [updK]
    refine (ih.upd (j := fr + k) (by rw [updK_len]; omega) (hp _ (nth_mem (by omega)))).congr fun q _ x => ?_
    constructor
    · rintro ((hc | ⟨i, hi, h1, h2⟩) | ⟨h1, h2⟩)
      · exact .inl hc
      · exact .inr ⟨i, by omega, h1, h2⟩
      · exact .inr ⟨k, by omega, h1, h2⟩
    · rintro (hc | ⟨i, hi, h1, h2⟩)
      · exact .inl (.inl hc)
      · rcases Nat.lt_or_ge i k with h | h
        · exact .inl (.inr ⟨i, h, h1, h2⟩)
        · obtain rfl : i = k := by omega
          exact .inr ⟨h1, h2⟩
/-- The symbols from a place on. -/
def exL (w : List Str) (i : Nat) : Nat → Option (List Str)
  | 0 => some []
  | m + 1 => (exS w i).bind fun s => (exL w (i + 1) m).map (s :: ·)
def PreF (f : List Str → Option (List Int)) : Prop := ∀ π ρ, f π = none → f (π ++ ρ) = none
theorem wkL_sup {f : List Str → Option (List Int)} {w : List Str} {fr : Nat} (hf : PreF f) (hlen : ∀ π lv, f π = some lv → lv.length ≤ π.length + 1) (hpos : ∀ π lv, f π = some lv → ∀ x ∈ lv, 0 ≤ x) :
    ∀ (n i : Nat) (π : List Str) (o : List Int) (C : Nat → Int → Prop), Sup o C → fr ≤ i → π.length = i - fr → i + n + 1 ≤ o.length → Sup (wkL f w fr n i π o) fun q x => C q x ∨ ∃ m ρ lv k, 1 ≤ m ∧ m ≤ n ∧ exL w i m = some ρ ∧ f (π ++ ρ) = some lv ∧ k < lv.length ∧ q = fr + k ∧ x = nth lv k
  | 0, i, π, o, C, h, _, _, _ => h.congr fun q _ x => ⟨.inl, fun h => h.elim id fun ⟨m, _, _, _, h1, h2, _⟩ => absurd h1 (by omega)⟩
  | n + 1, i, π, o, C, h, hi, hπ, hl => by
    rw [wkL]
    cases hx : exS w i with
    | none =>
      refine h.congr fun q _ x => ⟨.inl, fun h => h.elim id fun ⟨m, ρ, lv, k, h1, h2, h3, _⟩ => ?_⟩
      obtain ⟨m', rfl⟩ : ∃ m', m = m' + 1 := ⟨m - 1, by omega⟩
      rw [exL, hx] at h3; cases h3
    | some s =>
      dsimp only
      cases hfs : f (π ++ [s]) with
      | none =>
        refine h.congr fun q _ x => ⟨.inl, fun h => h.elim id fun ⟨m, ρ, lv, k, h1, h2, h3, h4, _⟩ => ?_⟩
        obtain ⟨m', rfl⟩ : ∃ m', m = m' + 1 := ⟨m - 1, by omega⟩
        rw [exL, hx] at h3
        simp only [Option.bind_some, Option.map_eq_some_iff] at h3
        obtain ⟨ρ', _, rfl⟩ := h3
        have := hf (π ++ [s]) ρ' hfs
        rw [List.append_assoc] at this
        rw [show π ++ s :: ρ' = π ++ ([s] ++ ρ') from rfl, this] at h4; cases h4
      | some lv =>
        dsimp only
        have hll := hlen _ _ hfs
        rw [List.length_append, List.length_singleton, hπ] at hll
        have h1 := updK_sup (fr := fr) h (hpos _ _ hfs) lv.length (Nat.le_refl _) (by omega)
        refine (wkL_sup hf hlen hpos n (i + 1) (π ++ [s]) _ _ h1 (by omega) (by rw [List.length_append, List.length_singleton]; omega) (by rw [updK_len]; omega)).congr fun q _ x => ?_
        constructor
        · rintro ((hc | ⟨k, hk, e1, e2⟩) | ⟨m, ρ, lv', k, g1, g2, g3, g4, g5⟩)
          · exact .inl hc
          · exact .inr ⟨1, [s], lv, k, by omega, by omega, by rw [exL, hx]; rfl, hfs, hk, e1, e2⟩
          · refine .inr ⟨m + 1, s :: ρ, lv', k, by omega, by omega, by rw [exL, hx]; simp [g3], ?_, g5⟩
            rw [List.append_assoc] at g4; exact g4
        · rintro (hc | ⟨m, ρ, lv', k, g1, g2, g3, g4, g5, e1, e2⟩)
          · exact .inl (.inl hc)
          · obtain ⟨m', rfl⟩ : ∃ m', m = m' + 1 := ⟨m - 1, by omega⟩
            rw [exL, hx] at g3
            simp only [Option.bind_some, Option.map_eq_some_iff] at g3
            obtain ⟨ρ', g3, rfl⟩ := g3
            rcases Nat.eq_zero_or_pos m' with rfl | hm
            · rw [exL] at g3; cases g3
              rw [hfs] at g4; cases g4
              exact .inl (.inr ⟨k, g5, e1, e2⟩)
            · refine .inr ⟨m', ρ', lv', k, hm, by omega, g3, ?_, g5, e1, e2⟩
              rw [List.append_assoc]; exact g4
theorem outF_sup {f : List Str → Option (List Int)} {w : List Str} (hf : PreF f) (hlen : ∀ π lv, f π = some lv → lv.length ≤ π.length + 1) (hpos : ∀ π lv, f π = some lv → ∀ x ∈ lv, 0 ≤ x) (hw : w.length ≤ 60) :
    ∀ n, n ≤ w.length + 2 → Sup (outF f w n) fun q x => ∃ fr m ρ lv k, fr < n ∧ 1 ≤ m ∧ m ≤ w.length + 2 - fr ∧ exL w fr m = some ρ ∧ f ρ = some lv ∧ k < lv.length ∧ q = fr + k ∧ x = nth lv k
  | 0, _ => (Sup.zero 63).congr fun q _ x => ⟨False.elim, fun ⟨fr, _, _, _, _, h, _⟩ => absurd h (Nat.not_lt_zero _)⟩
  | n + 1, hn => by
    rw [outF]
    refine (wkL_sup hf hlen hpos _ n [] _ _ (outF_sup hf hlen hpos hw n (by omega)) (Nat.le_refl _) (by simp) (by rw [outF_len]; omega)).congr fun q _ x => ?_
    constructor
    · rintro (⟨fr, m, ρ, lv, k, h1, h2⟩ | ⟨m, ρ, lv, k, h1, h2, h3, h4, h5⟩)
      · exact ⟨fr, m, ρ, lv, k, by omega, h2⟩
      · exact ⟨n, m, ρ, lv, k, by omega, h1, h2, h3, h4, h5⟩
    · rintro ⟨fr, m, ρ, lv, k, h1, h2, h3, h4, h5, h6⟩
      rcases Nat.lt_or_ge fr n with h | h
      · exact .inl ⟨fr, m, ρ, lv, k, h, h2, h3, h4, h5, h6⟩
      · obtain rfl : fr = n := by omega
        exact .inr ⟨m, ρ, lv, k, h2, h3, h4, h5, h6⟩
end Go.Proofs.Ytfihpbeihlpfcaa.Ev
