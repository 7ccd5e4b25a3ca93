/- A tree of patterns: a new node, new levels, levels that are turned. -/
import Derived.Test.YtfihpbeihlpfcaaZFnOa
set_option linter.unusedVariables false
set_option linter.unusedSimpArgs false
namespace Go.Proofs.Ytfihpbeihlpfcaa.Ev
open Go Go.Proofs

theorem reach_same {h h' : Hp} (hk : ∀ c s, kidH h' c s = kidH h c s) : ∀ (π : List Str) (c : Nat), reach h' c π = reach h c π
  | [], c => rfl
  | s :: π, c => by
    simp only [reach, hk]
    cases kidH h c s with
    | none => rfl
    | some b => exact reach_same hk π b

/-! ### levels that are turned -/
theorem turnLv {h : Hp} {r N a v k : Nat} {m : Option Nat} {x y : List Int} (w : WF h r N) (ha : h a = some (.nd m (some (v, k)))) (hv : h v = some (.lvc x)) (hl : y.length = x.length) :
    WF (h.put v (.lvc y)) r N ∧ (∀ c s, kidH (h.put v (.lvc y)) c s = kidH h c s) ∧ ∀ c, lvH (h.put v (.lvc y)) c = if c = a then y else lvH h c := by
  obtain ⟨x', hx', hx1, hx2⟩ := w.lv _ _ _ _ ha
  rw [hv] at hx'; cases hx'
  have hnd : ∀ c m' l', (h.put v (.lvc y)) c = some (.nd m' l') ↔ h c = some (.nd m' l') := by
    intro c m' l'
    by_cases e : c = v
    · subst e; rw [Hp.put_same, hv]; simp
    · rw [Hp.put_ne _ _ e]
  have hmp : ∀ c es, (h.put v (.lvc y)) c = some (.mpc es) ↔ h c = some (.mpc es) := by
    intro c es
    by_cases e : c = v
    · subst e; rw [Hp.put_same, hv]; simp
    · rw [Hp.put_ne _ _ e]
  have hk : ∀ c s, kidH (h.put v (.lvc y)) c s = kidH h c s := by
    intro c s
    unfold kidH
    by_cases e : c = v
    · subst e; rw [Hp.put_same, hv]
    · rw [Hp.put_ne _ _ e]
      split
      · rename_i q l hc
        have : q ≠ v := fun e => by obtain ⟨es, he⟩ := w.mp _ _ _ hc; rw [e, hv] at he; cases he
        rw [Hp.put_ne _ _ this]
      · rfl
  refine ⟨⟨?_, ?_, ?_, ?_, ?_, ?_, ?_, ?_, ?_⟩, hk, ?_⟩
  · intro c z hc
    by_cases e : c = v
    · subst e; exact w.lt _ _ hv
    · rw [Hp.put_ne _ _ e] at hc; exact w.lt _ _ hc
  · obtain ⟨m', l', h1⟩ := w.root; exact ⟨m', l', (hnd _ _ _).2 h1⟩
  · intro c s b hb
    rw [hk] at hb
    obtain ⟨m', l', h1⟩ := w.kids _ _ _ hb; exact ⟨m', l', (hnd _ _ _).2 h1⟩
  · intro c q l hc
    obtain ⟨es, he⟩ := w.mp _ _ _ ((hnd _ _ _).1 hc); exact ⟨es, (hmp _ _).2 he⟩
  · intro c m' v' k' hc
    obtain ⟨z, hz, h1, h2⟩ := w.lv _ _ _ _ ((hnd _ _ _).1 hc)
    by_cases e : v' = v
    · subst e
      rw [hv] at hz; cases hz
      exact ⟨y, Hp.put_same _ _ _, by omega, fun e => by rw [e] at hl; exact hx2 (List.eq_nil_of_length_eq_zero hl.symm)⟩
    · exact ⟨z, by rw [Hp.put_ne _ _ e]; exact hz, h1, h2⟩
  · intro c c' q l1 l2 h1 h2
    exact w.mi _ _ _ _ _ ((hnd _ _ _).1 h1) ((hnd _ _ _).1 h2)
  · intro c c' m1 m2 v' k1 k2 h1 h2
    exact w.li _ _ _ _ _ _ _ ((hnd _ _ _).1 h1) ((hnd _ _ _).1 h2)
  · intro c es hc
    exact w.ky _ _ ((hmp _ _).1 hc)
  · intro π π' c h1 h2
    rw [reach_same hk] at h1 h2
    exact w.ri _ _ _ h1 h2
  · intro c
    unfold lvH
    by_cases e : c = a
    · subst e
      rw [(hnd _ _ _).2 ha, if_pos rfl]
      simp only [Hp.put_same]
    · rw [if_neg e]
      by_cases e1 : c = v
      · subst e1; rw [Hp.put_same, hv]
      · rw [Hp.put_ne _ _ e1]
        split
        · rename_i m' v' k' hc
          have : v' ≠ v := fun e2 => e (w.li _ _ _ _ _ _ _ (e2 ▸ hc) ha)
          rw [Hp.put_ne _ _ this]
        · rfl

/-! ### levels of its own -/
theorem newLv {h : Hp} {r N a v : Nat} {m : Option Nat} {x : List Int} (w : WF h r N) (ha : h a = some (.nd m none)) (hv : N ≤ v) (hx : x ≠ []) :
    WF ((h.put v (.lvc x)).put a (.nd m (some (v, x.length)))) r (v + 1) ∧ (∀ c s, kidH ((h.put v (.lvc x)).put a (.nd m (some (v, x.length)))) c s = kidH h c s) ∧
      ∀ c, lvH ((h.put v (.lvc x)).put a (.nd m (some (v, x.length)))) c = if c = a then x else lvH h c := by
  have hvn := w.fresh hv
  have hav : a ≠ v := fun e => by rw [e, hvn] at ha; cases ha
  have hnd : ∀ c m' l', ((h.put v (.lvc x)).put a (.nd m (some (v, x.length)))) c = some (.nd m' l') → (c = a ∧ m' = m ∧ l' = some (v, x.length)) ∨ (c ≠ a ∧ h c = some (.nd m' l')) := by
    intro c m' l' hc
    by_cases e1 : c = a
    · subst e1; rw [Hp.put_same] at hc; cases hc; exact .inl ⟨rfl, rfl, rfl⟩
    · rw [Hp.put_ne _ _ e1] at hc
      by_cases e2 : c = v
      · subst e2; rw [Hp.put_same] at hc; cases hc
      · rw [Hp.put_ne _ _ e2] at hc; exact .inr ⟨e1, hc⟩
  have hun : ∀ c m' l', h c = some (.nd m' l') → ∃ l', ((h.put v (.lvc x)).put a (.nd m (some (v, x.length)))) c = some (.nd m' l') := by
    intro c m' l' hc
    by_cases e1 : c = a
    · subst e1; rw [ha] at hc; cases hc; exact ⟨_, Hp.put_same _ _ _⟩
    · exact ⟨l', by rw [Hp.put_ne _ _ e1, Hp.put_ne _ _ (fun e => by rw [e, hvn] at hc; cases hc)]; exact hc⟩
  have hmp : ∀ c es, h c = some (.mpc es) → ((h.put v (.lvc x)).put a (.nd m (some (v, x.length)))) c = some (.mpc es) := by
    intro c es hc
    rw [Hp.put_ne _ _ (fun e => by rw [e, ha] at hc; cases hc), Hp.put_ne _ _ (fun e => by rw [e, hvn] at hc; cases hc)]; exact hc
  have hlc : ∀ c z, h c = some (.lvc z) → ((h.put v (.lvc x)).put a (.nd m (some (v, x.length)))) c = some (.lvc z) := by
    intro c z hc
    rw [Hp.put_ne _ _ (fun e => by rw [e, ha] at hc; cases hc), Hp.put_ne _ _ (fun e => by rw [e, hvn] at hc; cases hc)]; exact hc
  have hk : ∀ c s, kidH ((h.put v (.lvc x)).put a (.nd m (some (v, x.length)))) c s = kidH h c s := by
    intro c s
    unfold kidH
    by_cases e1 : c = a
    · subst e1
      rw [Hp.put_same, ha]
      cases m with
      | none => rfl
      | some q =>
        obtain ⟨es, he⟩ := w.mp _ _ _ ha
        simp only [hmp _ _ he, he]
    · rw [Hp.put_ne _ _ e1]
      by_cases e2 : c = v
      · subst e2; rw [Hp.put_same, hvn]
      · rw [Hp.put_ne _ _ e2]
        split
        · rename_i q l hc
          obtain ⟨es, he⟩ := w.mp _ _ _ hc
          rw [hmp _ _ he, he]
        · rfl
  refine ⟨⟨?_, ?_, ?_, ?_, ?_, ?_, ?_, ?_, ?_⟩, hk, ?_⟩
  · intro c z hc
    have := w.lt a _ ha
    by_cases e1 : c = a
    · omega
    · rw [Hp.put_ne _ _ e1] at hc
      by_cases e2 : c = v
      · omega
      · rw [Hp.put_ne _ _ e2] at hc; have := w.lt _ _ hc; omega
  · obtain ⟨m', l', h1⟩ := w.root
    obtain ⟨l2, h2⟩ := hun _ _ _ h1; exact ⟨m', l2, h2⟩
  · intro c s b hb
    rw [hk] at hb
    obtain ⟨m', l', h1⟩ := w.kids _ _ _ hb
    obtain ⟨l2, h2⟩ := hun _ _ _ h1; exact ⟨m', l2, h2⟩
  · intro c q l hc
    rcases hnd _ _ _ hc with ⟨rfl, e, rfl⟩ | ⟨e1, h1⟩
    · subst e
      obtain ⟨es, he⟩ := w.mp _ _ _ ha; exact ⟨es, hmp _ _ he⟩
    · obtain ⟨es, he⟩ := w.mp _ _ _ h1; exact ⟨es, hmp _ _ he⟩
  · intro c m' v' k' hc
    rcases hnd _ _ _ hc with ⟨rfl, rfl, e⟩ | ⟨e1, h1⟩
    · cases e
      exact ⟨x, by rw [Hp.put_ne _ _ (Ne.symm hav), Hp.put_same], rfl, hx⟩
    · obtain ⟨z, hz, h2⟩ := w.lv _ _ _ _ h1
      exact ⟨z, hlc _ _ hz, h2⟩
  · intro c c' q l1 l2 h1 h2
    rcases hnd _ _ _ h1 with ⟨rfl, e, rfl⟩ | ⟨e1, g1⟩
    · subst e
      rcases hnd _ _ _ h2 with ⟨rfl, _, _⟩ | ⟨e2, g2⟩
      · rfl
      · exact w.mi _ _ _ _ _ ha g2
    · rcases hnd _ _ _ h2 with ⟨rfl, e, rfl⟩ | ⟨e2, g2⟩
      · subst e; exact w.mi _ _ _ _ _ g1 ha
      · exact w.mi _ _ _ _ _ g1 g2
  · intro c c' m1 m2 v' k1 k2 h1 h2
    rcases hnd _ _ _ h1 with ⟨rfl, e, e5⟩ | ⟨e1, g1⟩
    · cases e5
      rcases hnd _ _ _ h2 with ⟨rfl, _, _⟩ | ⟨e2, g2⟩
      · rfl
      · obtain ⟨z, hz, _⟩ := w.lv _ _ _ _ g2; rw [hvn] at hz; cases hz
    · rcases hnd _ _ _ h2 with ⟨rfl, e, e5⟩ | ⟨e2, g2⟩
      · cases e5; obtain ⟨z, hz, _⟩ := w.lv _ _ _ _ g1; rw [hvn] at hz; cases hz
      · exact w.li _ _ _ _ _ _ _ g1 g2
  · intro c es hc
    by_cases e1 : c = a
    · subst e1; rw [Hp.put_same] at hc; cases hc
    · rw [Hp.put_ne _ _ e1] at hc
      by_cases e2 : c = v
      · subst e2; rw [Hp.put_same] at hc; cases hc
      · rw [Hp.put_ne _ _ e2] at hc; exact w.ky _ _ hc
  · intro π π' c h1 h2
    rw [reach_same hk] at h1 h2
    exact w.ri _ _ _ h1 h2
  · intro c
    unfold lvH
    by_cases e : c = a
    · subst e
      rw [Hp.put_same, if_pos rfl]
      simp only [Hp.put_ne _ _ (Ne.symm hav), Hp.put_same]
    · rw [if_neg e, Hp.put_ne _ _ e]
      by_cases e1 : c = v
      · subst e1; rw [Hp.put_same, hvn]
      · rw [Hp.put_ne _ _ e1]
        split
        · rename_i m' v' k' hc
          obtain ⟨z, hz, _⟩ := w.lv _ _ _ _ hc
          rw [hlc _ _ hz, hz]
        · rfl

/-! ### a new node -/
theorem addKid {h : Hp} {r N a q b : Nat} {l : Option (Nat × Nat)} {es : List (Str × Nat)} {s : Str} {π0 : List Str} (w : WF h r N) (ha : h a = some (.nd (some q) l)) (hq : h q = some (.mpc es)) (hs : kid es s = none) (hb : N ≤ b) (hr : reach h r π0 = some a) :
    WF ((h.put b (.nd none none)).put q (.mpc (es ++ [(s, b)]))) r (b + 1) ∧ (∀ c x, kidH ((h.put b (.nd none none)).put q (.mpc (es ++ [(s, b)]))) c x = if c = a ∧ x = s then some b else kidH h c x) ∧
      (∀ c, lvH ((h.put b (.nd none none)).put q (.mpc (es ++ [(s, b)]))) c = lvH h c) ∧ (∀ π, reach ((h.put b (.nd none none)).put q (.mpc (es ++ [(s, b)]))) r π = if π = π0 ++ [s] then some b else reach h r π) := by
  have hbn := w.fresh hb
  have hqa : q ≠ a := fun e => by rw [e, ha] at hq; cases hq
  have hqb : q ≠ b := fun e => by rw [e, hbn] at hq; cases hq
  have hab : a ≠ b := fun e => by rw [e, hbn] at ha; cases ha
  have hks : kidH h a s = none := by unfold kidH; rw [ha]; simp only [hq, hs]
  have hnd : ∀ c m' l', ((h.put b (.nd none none)).put q (.mpc (es ++ [(s, b)]))) c = some (.nd m' l') → (c = b ∧ m' = none ∧ l' = none) ∨ (c ≠ b ∧ h c = some (.nd m' l')) := by
    intro c m' l' hc
    by_cases e1 : c = q
    · subst e1; rw [Hp.put_same] at hc; cases hc
    · rw [Hp.put_ne _ _ e1] at hc
      by_cases e2 : c = b
      · subst e2; rw [Hp.put_same] at hc; cases hc; exact .inl ⟨rfl, rfl, rfl⟩
      · rw [Hp.put_ne _ _ e2] at hc; exact .inr ⟨e2, hc⟩
  have hun : ∀ c m' l', h c = some (.nd m' l') → ((h.put b (.nd none none)).put q (.mpc (es ++ [(s, b)]))) c = some (.nd m' l') := by
    intro c m' l' hc
    rw [Hp.put_ne _ _ (fun e => by rw [e, hq] at hc; cases hc), Hp.put_ne _ _ (fun e => by rw [e, hbn] at hc; cases hc)]; exact hc
  have hlc : ∀ c z, h c = some (.lvc z) → ((h.put b (.nd none none)).put q (.mpc (es ++ [(s, b)]))) c = some (.lvc z) := by
    intro c z hc
    rw [Hp.put_ne _ _ (fun e => by rw [e, hq] at hc; cases hc), Hp.put_ne _ _ (fun e => by rw [e, hbn] at hc; cases hc)]; exact hc
  have hmp : ∀ c z, c ≠ q → h c = some (.mpc z) → ((h.put b (.nd none none)).put q (.mpc (es ++ [(s, b)]))) c = some (.mpc z) := by
    intro c z hcq hc
    rw [Hp.put_ne _ _ hcq, Hp.put_ne _ _ (fun e => by rw [e, hbn] at hc; cases hc)]; exact hc
  have hkb : ∀ x, kidH ((h.put b (.nd none none)).put q (.mpc (es ++ [(s, b)]))) b x = none := by
    intro x; unfold kidH; rw [Hp.put_ne _ _ (Ne.symm hqb), Hp.put_same]
  have hk : ∀ c x, kidH ((h.put b (.nd none none)).put q (.mpc (es ++ [(s, b)]))) c x = if c = a ∧ x = s then some b else kidH h c x := by
    intro c x
    by_cases e0 : c = a
    · subst e0
      unfold kidH
      rw [hun _ _ _ ha, ha]
      simp only [Hp.put_same, hq, true_and]
      exact kid_snoc hs x
    · rw [if_neg fun e => e0 e.1]
      by_cases e2 : c = b
      · subst e2; rw [hkb]; unfold kidH; rw [hbn]
      · cases e : h c with
        | none =>
          unfold kidH
          rw [e]
          by_cases e3 : c = q
          · subst e3; rw [hq] at e; cases e
          · rw [Hp.put_ne _ _ e3, Hp.put_ne _ _ e2, e]
        | some z =>
          cases z with
          | nd m' l' =>
            unfold kidH
            rw [hun _ _ _ e, e]
            cases m' with
            | none => rfl
            | some q' =>
              obtain ⟨z, hz⟩ := w.mp _ _ _ e
              have : q' ≠ q := fun e3 => e0 (w.mi _ _ _ _ _ (e3 ▸ e) ha)
              simp only [hmp _ _ this hz, hz]
          | mpc z =>
            unfold kidH
            rw [e]
            by_cases e3 : c = q
            · subst e3; rw [Hp.put_same]
            · rw [Hp.put_ne _ _ e3, Hp.put_ne _ _ e2, e]
          | lvc z => unfold kidH; rw [hlc _ _ e, e]
  have hr2 : ∀ π, reach ((h.put b (.nd none none)).put q (.mpc (es ++ [(s, b)]))) r π = if π = π0 ++ [s] then some b else reach h r π := by
    intro π
    induction hn : π.length generalizing π with
    | zero =>
      obtain rfl := List.eq_nil_of_length_eq_zero hn
      rw [if_neg (by simp)]; rfl
    | succ n ih =>
      obtain ⟨ρ, x, rfl⟩ : ∃ ρ x, π = ρ ++ [x] := by
        rcases List.eq_nil_or_concat π with rfl | ⟨ρ, x, rfl⟩
        · cases hn
        · exact ⟨ρ, x, List.concat_eq_append⟩
      have hρ : ρ.length = n := by simpa using hn
      rw [reach_snoc, reach_snoc, ih ρ hρ]
      by_cases e1 : ρ = π0 ++ [s]
      · rw [if_pos e1, if_neg (fun e => by
          have := (List.append_inj' e rfl).1
          rw [e1] at this
          have := congrArg List.length this
          simp at this), e1, reach_snoc, hr]
        simp only [Option.bind_some, hkb, hks, Option.bind_none]
      · rw [if_neg e1]
        cases hc : reach h r ρ with
        | none =>
          rw [Option.bind_none, Option.bind_none, if_neg]
          intro e
          have := (List.append_inj' e rfl).1
          rw [this, hr] at hc; cases hc
        | some c =>
          simp only [Option.bind_some, hk]
          by_cases e2 : c = a
          · have : ρ = π0 := w.ri _ _ _ hc (by rw [e2]; exact hr)
            subst this
            by_cases e3 : x = s
            · rw [if_pos ⟨e2, e3⟩, if_pos (by rw [e3])]
            · rw [if_neg fun e => e3 e.2, if_neg fun e => e3 (by have := (List.append_inj' e rfl).2; simpa using this)]
          · rw [if_neg fun e => e2 e.1, if_neg]
            intro e
            have := (List.append_inj' e rfl).1
            rw [this, hr] at hc; cases hc; exact e2 rfl
  have hbr : ∀ π, reach h r π ≠ some b := fun π e => by
    obtain ⟨m', l', h1⟩ := w.node _ _ e
    rw [hbn] at h1; cases h1
  refine ⟨⟨?_, ?_, ?_, ?_, ?_, ?_, ?_, ?_, ?_⟩, hk, ?_, hr2⟩
  · intro c z hc
    have := w.lt q _ hq
    by_cases e1 : c = q
    · omega
    · rw [Hp.put_ne _ _ e1] at hc
      by_cases e2 : c = b
      · omega
      · rw [Hp.put_ne _ _ e2] at hc; have := w.lt _ _ hc; omega
  · obtain ⟨m', l', h1⟩ := w.root; exact ⟨m', l', hun _ _ _ h1⟩
  · intro c x d hd
    rw [hk] at hd
    split at hd
    · cases hd; exact ⟨none, none, by rw [Hp.put_ne _ _ (Ne.symm hqb), Hp.put_same]⟩
    · obtain ⟨m', l', h1⟩ := w.kids _ _ _ hd; exact ⟨m', l', hun _ _ _ h1⟩
  · intro c q' l' hc
    rcases hnd _ _ _ hc with ⟨_, e, _⟩ | ⟨_, h1⟩
    · cases e
    · by_cases e : q' = q
      · subst e; exact ⟨_, Hp.put_same _ _ _⟩
      · obtain ⟨z, hz⟩ := w.mp _ _ _ h1; exact ⟨z, hmp _ _ e hz⟩
  · intro c m' v k hc
    rcases hnd _ _ _ hc with ⟨_, _, e⟩ | ⟨_, h1⟩
    · cases e
    · obtain ⟨z, hz, h2⟩ := w.lv _ _ _ _ h1; exact ⟨z, hlc _ _ hz, h2⟩
  · intro c c' q' l1 l2 h1 h2
    rcases hnd _ _ _ h1 with ⟨_, e, _⟩ | ⟨_, g1⟩
    · cases e
    · rcases hnd _ _ _ h2 with ⟨_, e, _⟩ | ⟨_, g2⟩
      · cases e
      · exact w.mi _ _ _ _ _ g1 g2
  · intro c c' m1 m2 v k1 k2 h1 h2
    rcases hnd _ _ _ h1 with ⟨_, _, e⟩ | ⟨_, g1⟩
    · cases e
    · rcases hnd _ _ _ h2 with ⟨_, _, e⟩ | ⟨_, g2⟩
      · cases e
      · exact w.li _ _ _ _ _ _ _ g1 g2
  · intro c z hc
    by_cases e1 : c = q
    · subst e1
      rw [Hp.put_same] at hc; cases hc
      rw [List.map_append]
      refine List.nodup_append.2 ⟨w.ky _ _ hq, by simp, ?_⟩
      intro x hx y hy e
      simp only [List.map_cons, List.map_nil, List.mem_singleton] at hy
      subst hy; subst e
      obtain ⟨p, hp, hp2⟩ := List.mem_map.1 hx
      unfold kid at hs
      rw [Option.map_eq_none_iff] at hs
      have := List.find?_eq_none.1 hs p hp
      simp [hp2] at this
    · rw [Hp.put_ne _ _ e1] at hc
      by_cases e2 : c = b
      · subst e2; rw [Hp.put_same] at hc; cases hc
      · rw [Hp.put_ne _ _ e2] at hc; exact w.ky _ _ hc
  · intro π π' c h1 h2
    rw [hr2] at h1 h2
    split at h1
    · cases h1
      split at h2
      · rename_i e1 e2; rw [e1, e2]
      · exact absurd h2 (hbr _)
    · split at h2
      · cases h2; exact absurd h1 (hbr _)
      · exact w.ri _ _ _ h1 h2
  · intro c
    unfold lvH
    cases e : h c with
    | none =>
      by_cases e2 : c = b
      · subst e2; rw [Hp.put_ne _ _ (Ne.symm hqb), Hp.put_same]
      · by_cases e3 : c = q
        · subst e3; rw [hq] at e; cases e
        · rw [Hp.put_ne _ _ e3, Hp.put_ne _ _ e2, e]
    | some z =>
      cases z with
      | nd m' l' =>
        rw [hun _ _ _ e]
        cases l' with
        | none => rfl
        | some p =>
          obtain ⟨v, k⟩ := p
          obtain ⟨z, hz, _⟩ := w.lv _ _ _ _ e
          simp only [hlc _ _ hz, hz]
      | mpc z =>
        by_cases e3 : c = q
        · subst e3; rw [Hp.put_same]
        · have e2 : c ≠ b := fun e2 => by rw [e2, hbn] at e; cases e
          rw [Hp.put_ne _ _ e3, Hp.put_ne _ _ e2, e]
      | lvc z => rw [hlc _ _ e]
end Go.Proofs.Ytfihpbeihlpfcaa.Ev
