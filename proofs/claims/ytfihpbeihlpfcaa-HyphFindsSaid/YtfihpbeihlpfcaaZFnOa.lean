/- A tree of patterns, as it lies in memory, plainly. -/
import Derived.Test.YtfihpbeihlpfcaaZFnPa
set_option linter.unusedVariables false
set_option linter.unusedSimpArgs false
namespace Go.Proofs.Ytfihpbeihlpfcaa.Ev
open Go Go.Proofs

/-- What stands under a name: a node (the names of its map and of its levels, and how many these are), a map, levels. -/
inductive HC where
  | nd (m : Option Nat) (l : Option (Nat × Nat))
  | mpc (es : List (Str × Nat))
  | lvc (l : List Int)
abbrev Hp := Nat → Option HC
def Hp.put (h : Hp) (a : Nat) (c : HC) : Hp := fun b => if b = a then some c else h b
theorem Hp.put_same (h : Hp) (a : Nat) (c : HC) : h.put a c a = some c := by simp [Hp.put]
theorem Hp.put_ne (h : Hp) {a b : Nat} (c : HC) (e : b ≠ a) : h.put a c b = h b := by simp [Hp.put, e]
def kid (es : List (Str × Nat)) (s : Str) : Option Nat := (es.find? fun e => decide (e.1 = s)).map (·.2)
theorem kid_snoc {es : List (Str × Nat)} {s : Str} {b : Nat} (h : kid es s = none) (x : Str) : kid (es ++ [(s, b)]) x = if x = s then some b else kid es x := by
  unfold kid at h ⊢
  rw [List.find?_append]
  simp only [Option.map_eq_none_iff] at h
  by_cases e : x = s
  · subst e
    rw [h, if_pos rfl]; simp
  · rw [if_neg e]
    have : [(s, b)].find? (fun e => decide (e.1 = x)) = none := by simp; exact fun q => e q.symm
    rw [this, Option.or_none]
def kidH (h : Hp) (a : Nat) (s : Str) : Option Nat := match h a with
  | some (.nd (some q) _) => (match h q with
    | some (.mpc es) => kid es s
    | _ => none)
  | _ => none
def lvH (h : Hp) (a : Nat) : List Int := match h a with
  | some (.nd _ (some (v, _))) => (match h v with
    | some (.lvc l) => l
    | _ => [])
  | _ => []
def reach (h : Hp) : Nat → List Str → Option Nat
  | a, [] => some a
  | a, s :: π => (kidH h a s).bind fun b => reach h b π
theorem reach_snoc (h : Hp) (s : Str) : ∀ (π : List Str) (a : Nat), reach h a (π ++ [s]) = (reach h a π).bind fun b => kidH h b s
  | [], a => by simp only [List.nil_append, reach, Option.bind_some]; cases kidH h a s <;> rfl
  | x :: π, a => by
    simp only [List.cons_append, reach]
    cases kidH h a x with
    | none => rfl
    | some b => exact reach_snoc h s π b
/-- A tree: its names below N, each node reached by one way, maps and levels its own. -/
structure WF (h : Hp) (r N : Nat) : Prop where
  lt : ∀ a c, h a = some c → a < N
  root : ∃ m l, h r = some (.nd m l)
  kids : ∀ a s b, kidH h a s = some b → ∃ m l, h b = some (.nd m l)
  mp : ∀ a q l, h a = some (.nd (some q) l) → ∃ es, h q = some (.mpc es)
  lv : ∀ a m v k, h a = some (.nd m (some (v, k))) → ∃ x, h v = some (.lvc x) ∧ x.length = k ∧ x ≠ []
  mi : ∀ a a' q l l', h a = some (.nd (some q) l) → h a' = some (.nd (some q) l') → a = a'
  li : ∀ a a' m m' v k k', h a = some (.nd m (some (v, k))) → h a' = some (.nd m' (some (v, k'))) → a = a'
  ky : ∀ q es, h q = some (.mpc es) → (es.map (·.1)).Nodup
  ri : ∀ π π' c, reach h r π = some c → reach h r π' = some c → π = π'
theorem WF.node {h : Hp} {r N : Nat} (w : WF h r N) : ∀ (π : List Str) (c : Nat), reach h r π = some c → ∃ m l, h c = some (.nd m l) := by
  intro π c hc
  rcases List.eq_nil_or_concat π with rfl | ⟨π', s, rfl⟩
  · simp only [reach, Option.some.injEq] at hc; subst hc; exact w.root
  · rw [List.concat_eq_append, reach_snoc] at hc
    cases hq : reach h r π' with
    | none => rw [hq] at hc; cases hc
    | some b => rw [hq] at hc; exact w.kids b s c hc
theorem WF.fresh {h : Hp} {r N b : Nat} (w : WF h r N) (hb : N ≤ b) : h b = none := by
  cases e : h b with
  | none => rfl
  | some c => have := w.lt b c e; omega
theorem WF.mono {h : Hp} {r N N' : Nat} (w : WF h r N) (hn : N ≤ N') : WF h r N' := ⟨fun a c hc => Nat.lt_of_lt_of_le (w.lt a c hc) hn, w.root, w.kids, w.mp, w.lv, w.mi, w.li, w.ky, w.ri⟩
/-- What stands at the end of a way. -/
def semH (h : Hp) (r : Nat) (π : List Str) : Option (List Int) := (reach h r π).map (lvH h)

/-! ### a map of its own -/
theorem newMap {h : Hp} {r N a q : Nat} {l : Option (Nat × Nat)} (w : WF h r N) (ha : h a = some (.nd none l)) (hq : N ≤ q) :
    WF ((h.put q (.mpc [])).put a (.nd (some q) l)) r (q + 1) ∧ (∀ c s, kidH ((h.put q (.mpc [])).put a (.nd (some q) l)) c s = kidH h c s) ∧ ∀ c, lvH ((h.put q (.mpc [])).put a (.nd (some q) l)) c = lvH h c := by
  have hqn := w.fresh hq
  have haq : a ≠ q := fun e => by rw [e, hqn] at ha; cases ha
  have hk : ∀ c s, kidH ((h.put q (.mpc [])).put a (.nd (some q) l)) c s = kidH h c s := by
    intro c s
    unfold kidH
    by_cases e1 : c = a
    · subst e1
      rw [Hp.put_same, ha]
      simp only [Hp.put_ne _ _ (Ne.symm haq), Hp.put_same, kid, List.find?_nil, Option.map_none]
    · rw [Hp.put_ne _ _ e1]
      by_cases e2 : c = q
      · subst e2; rw [Hp.put_same, hqn]
      · rw [Hp.put_ne _ _ e2]
        split
        · rename_i q' l' hc
          have h1 : q' ≠ a := fun e => by obtain ⟨es, he⟩ := w.mp _ _ _ hc; rw [e, ha] at he; cases he
          have h2 : q' ≠ q := fun e => by obtain ⟨es, he⟩ := w.mp _ _ _ hc; rw [e, hqn] at he; cases he
          rw [Hp.put_ne _ _ h1, Hp.put_ne _ _ h2]
        · rfl
  have hl : ∀ c, lvH ((h.put q (.mpc [])).put a (.nd (some q) l)) c = lvH h c := by
    have inner : ∀ v, (∃ x, h v = some (.lvc x)) → ((h.put q (.mpc [])).put a (.nd (some q) l)) v = h v := fun v ⟨x, hx⟩ => by
      rw [Hp.put_ne _ _ (fun e => by rw [e, ha] at hx; cases hx), Hp.put_ne _ _ (fun e => by rw [e, hqn] at hx; cases hx)]
    intro c
    unfold lvH
    by_cases e1 : c = a
    · subst e1
      rw [Hp.put_same, ha]
      cases l with
      | none => rfl
      | some p =>
        obtain ⟨v, k⟩ := p
        obtain ⟨x, hx, _⟩ := w.lv _ _ _ _ ha
        simp only [inner v ⟨x, hx⟩]
    · rw [Hp.put_ne _ _ e1]
      by_cases e2 : c = q
      · subst e2; rw [Hp.put_same, hqn]
      · rw [Hp.put_ne _ _ e2]
        split
        · rename_i m' v k hc
          obtain ⟨x, hx, _⟩ := w.lv _ _ _ _ hc
          rw [inner v ⟨x, hx⟩]
        · rfl
  have hr : ∀ π c, reach ((h.put q (.mpc [])).put a (.nd (some q) l)) c π = reach h c π := by
    intro π
    induction π with
    | nil => intro c; rfl
    | cons s π ih => intro c; simp only [reach, hk]; cases kidH h c s with
      | none => rfl
      | some b => exact ih b
  -- a node before is a node behind
  have hnd : ∀ c m' l', ((h.put q (.mpc [])).put a (.nd (some q) l)) c = some (.nd m' l') → (c = a ∧ m' = some q ∧ l' = l) ∨ (c ≠ a ∧ c ≠ q ∧ h c = some (.nd m' l')) := by
    intro c m' l' hc
    by_cases e1 : c = a
    · subst e1; rw [Hp.put_same] at hc; cases hc; exact .inl ⟨rfl, rfl, rfl⟩
    · rw [Hp.put_ne _ _ e1] at hc
      by_cases e2 : c = q
      · subst e2; rw [Hp.put_same] at hc; cases hc
      · rw [Hp.put_ne _ _ e2] at hc; exact .inr ⟨e1, e2, hc⟩
  have hun : ∀ c m' l', h c = some (.nd m' l') → ∃ m' l', ((h.put q (.mpc [])).put a (.nd (some q) l)) c = some (.nd m' l') := by
    intro c m' l' hc
    by_cases e1 : c = a
    · subst e1; exact ⟨_, _, Hp.put_same _ _ _⟩
    · exact ⟨m', l', by rw [Hp.put_ne _ _ e1, Hp.put_ne _ _ (fun e => by rw [e, hqn] at hc; cases hc)]; exact hc⟩
  refine ⟨⟨?_, ?_, ?_, ?_, ?_, ?_, ?_, ?_, ?_⟩, hk, hl⟩
  · intro c x hc
    have := w.lt a _ ha
    by_cases e1 : c = a
    · omega
    · rw [Hp.put_ne _ _ e1] at hc
      by_cases e2 : c = q
      · omega
      · rw [Hp.put_ne _ _ e2] at hc; have := w.lt _ _ hc; omega
  · obtain ⟨m', l', h1⟩ := w.root; exact hun _ _ _ h1
  · intro c s b hb
    rw [hk] at hb
    obtain ⟨m', l', h1⟩ := w.kids _ _ _ hb; exact hun _ _ _ h1
  · intro c q' l' hc
    rcases hnd _ _ _ hc with ⟨rfl, e, rfl⟩ | ⟨e1, e2, h1⟩
    · cases e
      exact ⟨[], by rw [Hp.put_ne _ _ (Ne.symm haq), Hp.put_same]⟩
    · obtain ⟨es, he⟩ := w.mp _ _ _ h1
      exact ⟨es, by rw [Hp.put_ne _ _ (fun e => by rw [e, ha] at he; cases he), Hp.put_ne _ _ (fun e => by rw [e, hqn] at he; cases he)]; exact he⟩
  · intro c m' v k hc
    have key : ∀ c m', h c = some (.nd m' (some (v, k))) → ∃ x, ((h.put q (.mpc [])).put a (.nd (some q) l)) v = some (.lvc x) ∧ x.length = k ∧ x ≠ [] := fun c m' h1 => by
      obtain ⟨x, hx, h2⟩ := w.lv _ _ _ _ h1
      exact ⟨x, by rw [Hp.put_ne _ _ (fun e => by rw [e, ha] at hx; cases hx), Hp.put_ne _ _ (fun e => by rw [e, hqn] at hx; cases hx)]; exact hx, h2⟩
    rcases hnd _ _ _ hc with ⟨rfl, e, rfl⟩ | ⟨e1, e2, h1⟩
    · exact key _ _ ha
    · exact key _ _ h1
  · intro c c' q' l1 l2 h1 h2
    rcases hnd _ _ _ h1 with ⟨rfl, e, rfl⟩ | ⟨e1, e2, g1⟩
    · cases e
      rcases hnd _ _ _ h2 with ⟨rfl, _, _⟩ | ⟨e1, e2, g2⟩
      · rfl
      · obtain ⟨es, he⟩ := w.mp _ _ _ g2; rw [hqn] at he; cases he
    · rcases hnd _ _ _ h2 with ⟨rfl, e, _⟩ | ⟨e3, e4, g2⟩
      · cases e; obtain ⟨es, he⟩ := w.mp _ _ _ g1; rw [hqn] at he; cases he
      · exact w.mi _ _ _ _ _ g1 g2
  · intro c c' m1 m2 v k k' h1 h2
    rcases hnd _ _ _ h1 with ⟨rfl, e, rfl⟩ | ⟨e1, e2, g1⟩
    · rcases hnd _ _ _ h2 with ⟨rfl, _, _⟩ | ⟨e1, e2, g2⟩
      · rfl
      · exact w.li _ _ _ _ _ _ _ ha g2
    · rcases hnd _ _ _ h2 with ⟨rfl, e, rfl⟩ | ⟨e3, e4, g2⟩
      · exact w.li _ _ _ _ _ _ _ g1 ha
      · exact w.li _ _ _ _ _ _ _ g1 g2
  · intro c es hc
    by_cases e1 : c = a
    · subst e1; rw [Hp.put_same] at hc; cases hc
    · rw [Hp.put_ne _ _ e1] at hc
      by_cases e2 : c = q
      · subst e2; rw [Hp.put_same] at hc; cases hc; simp
      · rw [Hp.put_ne _ _ e2] at hc; exact w.ky _ _ hc
  · intro π π' c h1 h2
    rw [hr] at h1 h2
    exact w.ri _ _ _ h1 h2
end Go.Proofs.Ytfihpbeihlpfcaa.Ev
