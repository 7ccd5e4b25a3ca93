/- Regions that draw their order, in which a variable may be made at any time. -/
import Derived.Test.YtfihpbeihlpfcaaZEvNG
set_option linter.unusedVariables false
set_option linter.unusedSimpArgs false
namespace Go.Proofs.Ytfihpbeihlpfcaa.Ev
open Go Go.RowKit

/-- A place that holds an empty row: nothing is made there yet. -/
def St.hol (S : St) (l : Nat) : Prop := l < S.n ∧ ∃ e k, S.m l = some (.row e k [])
def Upto (S T : St) : Prop := T.n = S.n ∧ ∀ l, ¬S.hol l → T.m l = S.m l
open Classical in
noncomputable def patch (S T S' : St) : St := ⟨fun l => if S.hol l then T.m l else S'.m l, S'.n⟩
theorem st_ext {S T : St} (hn : S.n = T.n) (h : ∀ l, S.m l = T.m l) : S = T := by
  cases S; cases T
  simp only [St.mk.injEq]
  exact ⟨funext h, hn⟩
theorem patch_self {S S' : St} (h : ∀ l, S.hol l → S'.m l = S.m l) : patch S S S' = S' := st_ext rfl fun l => by
  simp only [patch]
  split
  · exact (h l (by assumption)).symm
  · rfl
theorem Upto.refl (S : St) : Upto S S := ⟨rfl, fun _ _ => rfl⟩
def LocSem (P : Program) (o : Oper) (fr : Fr) (S S' : St) (r : AV) : Prop :=
  ∀ (G : Ctx) (ρ : Operand → Value), Upto S G.S → Rel G → (∀ x q, x ∈ o.op.operands → sa x = some q → Rv G (evS fr q) (ρ x)) → OpRun P (execOp ρ o) G fun r' S2 => r' = r ∧ S2 = patch S G.S S'
def StaySem (P : Program) (o : Oper) (fr : Fr) (S : St) (r : AV) : Prop :=
  ∀ (G : Ctx) (ρ : Operand → Value), Upto S G.S → Rel G → (∀ x q, x ∈ o.op.operands → sa x = some q → Rv G (evS fr q) (ρ x)) → OpRun P (execOp ρ o) G fun r' S2 => r' = r ∧ S2 = G.S

/-- A row that is made where an empty one stands. -/
theorem upto_fill {S : St} {l e k : Nat} {cs : List AV} (hl : l < S.n) (hm : S.m l = some (.row e k [])) {T : St} (h : Upto (S.set l (.row e k cs)) T) : Upto S T := ⟨h.1, fun x hx => by
  have hne : x ≠ l := fun e => by subst e; exact hx ⟨hl, _, _, hm⟩
  have : ¬(S.set l (.row e k cs)).hol x := fun ⟨h1, h2⟩ => hx ⟨h1, by rwa [St.set_ne S _ hne] at h2⟩
  rw [h.2 x this, St.set_ne S _ hne]⟩
theorem patch_fill {S S' T : St} {l e k : Nat} {cs : List AV} (hne : cs ≠ []) (hl : l < S.n) (hm : S.m l = some (.row e k [])) (h : Upto (S.set l (.row e k cs)) T) : patch S T S' = patch (S.set l (.row e k cs)) T (S'.set l (.row e k cs)) := st_ext rfl fun x => by
  have hno : ¬(S.set l (.row e k cs)).hol l := fun ⟨_, e', k', h2⟩ => by
    rw [St.set_same] at h2
    simp only [Option.some.injEq, Ob.row.injEq] at h2
    exact hne h2.2.2
  by_cases ex : x = l
  · subst ex
    simp only [patch]
    rw [if_pos ⟨hl, _, _, hm⟩, if_neg hno, St.set_same, h.2 _ hno, St.set_same]
  · have e1 : (S.set l (.row e k cs)).hol x ↔ S.hol x := by simp only [St.hol, St.set_ne S _ ex, St.set_n]
    simp only [patch, St.set_ne S' _ ex]
    by_cases h : S.hol x
    · rw [if_pos h, if_pos (e1.2 h)]
    · rw [if_neg h, if_neg fun q => h (e1.1 q)]

section
variable {P : Program}
theorem loc_set {S : St} {l : Nat} {o : Ob} {r : AV} {K : AV → St → Prop} (hk : K r (S.set l o)) (hn : ¬S.hol l) (ho : ∀ e k, o ≠ .row e k []) :
    K r (S.set l o) ∧ S.n ≤ (S.set l o).n ∧ (∀ x, S.hol x → (S.set l o).m x = S.m x) ∧ (∀ x, x < S.n → (S.set l o).hol x → S.hol x) ∧ ∀ T, Upto S T → T.set l o = patch S T (S.set l o) := by
  refine ⟨hk, Nat.le_refl _, fun x hx => ?_, fun x hx h => ?_, fun T hT => st_ext hT.1 fun x => ?_⟩
  · exact St.set_ne S o fun e => hn (by subst e; exact hx)
  · by_cases e : x = l
    · subst e
      obtain ⟨_, e', k', h2⟩ := h
      rw [St.set_same] at h2
      exact absurd (Option.some.inj h2) (ho e' k')
    · obtain ⟨h1, h2⟩ := h
      rw [St.set_ne S o e] at h2
      exact ⟨hx, h2⟩
  · by_cases e : x = l
    · subst e; simp only [patch, if_neg hn, St.set_same]
    · rw [St.set_ne T o e]
      simp only [patch, St.set_ne S o e]
      split
      · rfl
      · exact hT.2 x (by assumption)
theorem loc_add {S : St} {o : Ob} {r : AV} {K : AV → St → Prop} (hk : K r (S.add o)) :
    K r (S.add o) ∧ S.n ≤ (S.add o).n ∧ (∀ x, S.hol x → (S.add o).m x = S.m x) ∧ (∀ x, x < S.n → (S.add o).hol x → S.hol x) ∧ ∀ T, Upto S T → T.add o = patch S T (S.add o) := by
  refine ⟨hk, by simp [St.add], fun x hx => St.add_old S o hx.1, fun x hx h => ?_, fun T hT => st_ext (by simp [St.add, hT.1, patch]) fun x => ?_⟩
  · obtain ⟨h1, h2⟩ := h
    rw [St.add_old S o hx] at h2
    exact ⟨hx, h2⟩
  · have hn : ¬S.hol S.n := fun h => by have := h.1; omega
    simp only [St.add, patch, hT.1]
    by_cases e : x = S.n
    · subst e; simp [hn]
    · simp only [if_neg e]
      split
      · rfl
      · exact hT.2 x (by assumption)
/-- A value that leads to no empty row. -/
def nonE : AV → Prop
  | .ref _ tot _ _ => 0 < tot
  | _ => True
def SOp.fit (fr : Fr) : SOp → Prop
  | .app _ _ _ x y => nonE (evS fr x) ∧ nonE (evS fr y)
  | _ => True
theorem row_non {S T : St} {l tot : Nat} {r : TypeId × Nat × List AV} (h : S.row? l tot = some r) (ht : 0 < tot) (hT : Upto S T) : ¬S.hol l ∧ T.row? l tot = some r := by
  obtain ⟨hm, hlen⟩ := row?_some h
  have hn : ¬S.hol l := fun ⟨_, e', k', h⟩ => by
    rw [hm] at h
    simp only [Option.some.injEq, Ob.row.injEq] at h
    rw [h.2.2] at hlen; simp at hlen; omega
  exact ⟨hn, by unfold St.row?; rw [hT.2 l hn, hm]; simp [hlen]⟩
theorem src_len {S : St} {k : Nat} {x : AV} {src : Nat × List AV} (h : srcOf S k x = some src) : src.2.length = src.1 * k := by
  unfold srcOf at h
  split at h
  · split at h
    · cases h; assumption
    · cases h
  · cases h; simp
  · split at h
    · split at h
      · cases h; simp only [List.length_take, List.length_drop]; omega
      · cases h
    · cases h
  · cases h
theorem src_non {S T : St} {k : Nat} {y : AV} {src : Nat × List AV} (h : srcOf S k y = some src) (ht : nonE y) (hT : Upto S T) : srcOf T k y = some src := by
  unfold srcOf at h ⊢
  split at h
  · exact h
  · exact h
  · rename_i l tot off n
    split at h
    · rename_i e1 k1 cs hr
      rw [(row_non hr ht hT).2]; exact h
    · cases h
  · cases h
/-- What changes the store does the same beside rows that are made elsewhere. -/
theorem loc_eff {s : SOp} {fr : Fr} {S : St} {K : AV → St → Prop} (hl : s.loc = true) (he : s.effG = true) (hfit : s.fit fr) (h : swp P s fr S K) :
    ∃ r S', (K r S' ∧ S.n ≤ S'.n ∧ (∀ x, S.hol x → S'.m x = S.m x) ∧ (∀ x, x < S.n → S'.hol x → S.hol x)) ∧ ∀ T, Upto S T → swp P s fr T fun r' S2 => r' = r ∧ S2 = patch S T S' := by
  cases s <;> simp only [SOp.loc, SOp.effG, SOp.eff, Bool.false_eq_true] at hl he
  case store k a x =>
    simp only [swp] at h ⊢
    split at h
    · rename_i l tot off he
      obtain ⟨r, hr, h⟩ := orK_elim h
      obtain ⟨xs, hxs, h1, h2, hK⟩ := orK_elim h
      obtain ⟨hm, hlen⟩ := row?_some hr
      have hk : 0 < k := by simpa using hl
      have hn : ¬S.hol l := fun ⟨_, e', k', h⟩ => by
        rw [hm] at h
        simp only [Option.some.injEq, Ob.row.injEq] at h
        rw [h.2.2] at h2; simp at h2; omega
      obtain ⟨a1, a2, a3, a4, a5⟩ := loc_set (S := S) (l := l) hK hn fun e' k' h => by
        simp only [Ob.row.injEq] at h
        have := h.2.2
        simp only [List.append_eq_nil_iff] at this
        rw [this.1.2] at h1; simp at h1; omega
      refine ⟨_, _, ⟨a1, a2, a3, a4⟩, fun T hT => ?_⟩
      have hr' : T.row? l tot = some r := by unfold St.row?; rw [hT.2 l hn, hm]; simp [hlen]
      simp only [hr', hxs, orK_some]
      exact ⟨h1, h2, by trivial, a5 T hT⟩
    · exact h.elim
  case alloc e k zs =>
    simp only [swp] at h ⊢
    obtain ⟨a1, a2, a3, a4, a5⟩ := loc_add (S := S) h.2
    exact ⟨_, _, ⟨a1, a2, a3, a4⟩, fun T hT => ⟨h.1, by rw [hT.1], a5 T hT⟩⟩
  case box e k x =>
    simp only [swp] at h ⊢
    obtain ⟨cs, hcs, h⟩ := orK_elim h
    obtain ⟨a1, a2, a3, a4, a5⟩ := loc_add (S := S) h.2
    exact ⟨_, _, ⟨a1, a2, a3, a4⟩, fun T hT => by simp only [hcs, orK_some]; exact ⟨h.1, by rw [hT.1], a5 T hT⟩⟩
  case buildSl e k len zs ps =>
    simp only [swp] at h ⊢
    obtain ⟨cs, hcs, h⟩ := orK_elim h
    obtain ⟨a1, a2, a3, a4, a5⟩ := loc_add (S := S) h
    exact ⟨_, _, ⟨a1, a2, a3, a4⟩, fun T hT => by simp only [hcs, orK_some]; exact ⟨by rw [hT.1], a5 T hT⟩⟩
  case mkmap =>
    simp only [swp] at h ⊢
    obtain ⟨a1, a2, a3, a4, a5⟩ := loc_add (S := S) h
    exact ⟨_, _, ⟨a1, a2, a3, a4⟩, fun T hT => ⟨by rw [hT.1], a5 T hT⟩⟩
  case mupd kd m k x =>
    simp only [swp] at h ⊢
    split at h
    · rename_i l v he hk
      obtain ⟨es, hes, h1, h2, hK⟩ := orK_elim h
      have hm : S.m l = some (.map es) := by
        unfold St.map? at hes
        split at hes
        · rename_i es' h'; rw [h']; simpa using hes
        · cases hes
      have hn : ¬S.hol l := fun ⟨_, e', k', h⟩ => by rw [hm] at h; cases h
      obtain ⟨a1, a2, a3, a4, a5⟩ := loc_set (S := S) (l := l) hK hn fun e' k' h => by cases h
      refine ⟨_, _, ⟨a1, a2, a3, a4⟩, fun T hT => ?_⟩
      have hr' : T.map? l = some es := by unfold St.map?; rw [hT.2 l hn, hm]
      simp only [hr', orK_some]
      exact ⟨h1, h2, by trivial, a5 T hT⟩
    · exact h.elim
  case mksl e k bytes zs len cap =>
    simp only [swp] at h ⊢
    obtain ⟨n, hn, h⟩ := orK_elim h
    obtain ⟨c, hc, h⟩ := orK_elim h
    obtain ⟨h1, h2, h3, h4, h5, hK⟩ := h
    obtain ⟨a1, a2, a3, a4, a5⟩ := loc_add (S := S) hK
    exact ⟨_, _, ⟨a1, a2, a3, a4⟩, fun T hT => by simp only [hn, hc, orK_some]; exact ⟨h1, h2, h3, h4, h5, by rw [hT.1], a5 T hT⟩⟩
  case app e k bytes x y =>
    simp only [SOp.fit] at hfit
    simp only [swp] at h ⊢
    obtain ⟨src, hsrc, h⟩ := orK_elim h
    have hsT : ∀ T, Upto S T → srcOf T k (evS fr y) = some src := fun T hT => src_non hsrc hfit.2 hT
    split at h
    · rename_i l tot off n he
      rw [he] at hfit
      obtain ⟨r, hr, h⟩ := orK_elim h
      obtain ⟨h1, h2, h3, h4, h5, h6, h7, h8, h9, h10, h11⟩ := h
      have ht : 0 < tot := hfit.1
      obtain ⟨_, hlen⟩ := row?_some hr
      have hn := (row_non hr ht (Upto.refl S)).1
      by_cases hc : (n + src.1) * k ≤ tot
      · obtain ⟨a1, a2, a3, a4, a5⟩ := loc_set (S := S) (l := l) (h10 hc) hn fun e' k' h => by
          simp only [Ob.row.injEq] at h
          have := congrArg List.length h.2.2
          simp only [List.length_append, List.length_take, List.length_drop, List.length_nil] at this
          have hz := src_len hsrc
          have : n * k + src.1 * k = (n + src.1) * k := (Nat.add_mul ..).symm
          omega
        refine ⟨_, _, ⟨a1, a2, a3, a4⟩, fun T hT => ?_⟩
        simp only [hsT T hT, orK_some, he, (row_non hr ht hT).2]
        exact ⟨h1, h2, h3, h4, h5, h6, h7, h8, h9, fun _ => ⟨by trivial, a5 T hT⟩, fun q => by omega⟩
      · obtain ⟨a1, a2, a3, a4, a5⟩ := loc_set (S := S) (l := l) (h11 (by omega)) hn fun e' k' h => by
          simp only [Ob.row.injEq] at h
          have := congrArg List.length h.2.2
          simp only [List.length_append, List.length_take, List.length_nil] at this
          have hz := src_len hsrc
          have : n * k + src.1 * k = (n + src.1) * k := (Nat.add_mul ..).symm
          omega
        refine ⟨_, _, ⟨a1, a2, a3, a4⟩, fun T hT => ?_⟩
        simp only [hsT T hT, orK_some, he, (row_non hr ht hT).2]
        exact ⟨h1, h2, h3, h4, h5, h6, h7, h8, h9, fun q => absurd q hc, fun _ => ⟨by trivial, a5 T hT⟩⟩
    · rename_i he
      obtain ⟨h1, h2, h3, h4, h5⟩ := h
      by_cases hz : src.1 = 0
      · refine ⟨_, _, ⟨h4 hz, Nat.le_refl _, fun _ _ => rfl, fun _ _ q => q⟩, fun T hT => ?_⟩
        simp only [hsT T hT, orK_some, he]
        refine ⟨h1, h2, h3, fun _ => ⟨by trivial, st_ext hT.1 fun l => ?_⟩, fun q => by omega⟩
        simp only [patch]
        split
        · rfl
        · exact hT.2 l (by assumption)
      · obtain ⟨a1, a2, a3, a4, a5⟩ := loc_add (S := S) (h5 (by omega))
        refine ⟨_, _, ⟨a1, a2, a3, a4⟩, fun T hT => ?_⟩
        simp only [hsT T hT, orK_some, he]
        exact ⟨h1, h2, h3, fun q => absurd q hz, fun _ => ⟨by rw [hT.1], a5 T hT⟩⟩
    · exact h.elim
/-- What neither reads nor changes the store. -/
theorem loc_pure {s : SOp} {fr : Fr} {S : St} {K : AV → Prop} (hl : s.loc = true) (he : s.effG = false) (h : dwp P s fr S K) : ∃ r, K r ∧ ∀ T, swp P s fr T fun r' S2 => r' = r ∧ S2 = T := by
  cases s <;> simp only [SOp.loc, SOp.effG, SOp.eff, Bool.false_eq_true, Bool.true_eq_false] at hl he
  case buildSl e k len zs ps => cases len <;> simp at hl he
  case mv x => exact ⟨_, h, fun T => ⟨by trivial, by trivial⟩⟩
  case pick c a b =>
    simp only [dwp, swp] at h ⊢
    split at h
    · rename_i t ht
      cases t
      · exact ⟨_, h.2 rfl, fun T => by simp [ht]⟩
      · exact ⟨_, h.1 rfl, fun T => by simp [ht]⟩
    · exact h.elim
  case build zs ps =>
    simp only [dwp, swp] at h ⊢
    obtain ⟨c, hc, hK⟩ := orK_elim h
    exact ⟨_, hK, fun T => by simp only [hc, orK_some]; exact ⟨by trivial, by trivial⟩⟩
  case bin op x y =>
    simp only [dwp, swp] at h ⊢
    split at h
    · rename_i u v hu hv
      have key : ∀ {K : Value → Prop}, binV op u v K → ∃ r, K r ∧ ∀ K' : Value → Prop, K' r → binV op u v K' := by
        intro K h
        unfold binV at h ⊢
        split at h
        · cases op <;> simp only at h ⊢
          all_goals first
            | exact ⟨_, h.2, fun K' hk => ⟨h.1, hk⟩⟩
            | exact ⟨_, h.2.2, fun K' hk => ⟨h.1, h.2.1, hk⟩⟩
        · cases op <;> simp only at h ⊢
          all_goals first
            | exact h.elim
            | exact ⟨_, h.2, fun K' hk => ⟨h.1, hk⟩⟩
            | exact ⟨_, h, fun K' hk => hk⟩
        · exact h.elim
      obtain ⟨r, h1, h2⟩ := key h
      exact ⟨_, h1, fun T => h2 _ ⟨rfl, by trivial⟩⟩
    · exact h.elim
  case un op x =>
    simp only [dwp, swp] at h ⊢
    split at h
    · rename_i u hu
      unfold unV at h
      split at h
      · exact ⟨_, h, fun T => by simp only [hu, unV]; exact ⟨by trivial, by trivial⟩⟩
      · exact ⟨_, h, fun T => by simp only [hu, unV]; exact ⟨by trivial, by trivial⟩⟩
      · exact h.elim
    · exact h.elim
  case cvi k x =>
    simp only [dwp, swp] at h ⊢
    split at h
    · rename_i he; exact ⟨_, h, fun T => by simp [he]⟩
    · exact h.elim
  case cvs x =>
    simp only [dwp, swp] at h ⊢
    split at h
    · rename_i he; exact ⟨_, h, fun T => by simp [he]⟩
    · exact h.elim
  case mkbnd f cs => exact ⟨_, h, fun T => ⟨by trivial, by trivial⟩⟩
  case mkfunc f cs => exact ⟨_, h, fun T => ⟨by trivial, by trivial⟩⟩
  case mkif t x => exact ⟨_, h, fun T => ⟨by trivial, by trivial⟩⟩
  case fld k off x =>
    simp only [dwp, swp] at h ⊢
    split at h
    · rename_i cs he
      cases k with
      | none =>
        obtain ⟨c, hc, hK⟩ := orK_elim h
        exact ⟨c, hK, fun T => by simp only [he, hc, orK_some]; exact ⟨by trivial, by trivial⟩⟩
      | some k => exact ⟨_, h.2, fun T => by simp only [he]; exact ⟨h.1, by trivial, by trivial⟩⟩
    · exact h.elim
  case ixs x i =>
    simp only [dwp, swp] at h ⊢
    obtain ⟨j, hj, h⟩ := orK_elim h
    split at h
    · rename_i s he
      exact ⟨_, h.2.2, fun T => by simp only [hj, he, orK_some]; exact ⟨h.1, h.2.1, by trivial, by trivial⟩⟩
    · exact h.elim
  case ext x i =>
    simp only [dwp, swp] at h ⊢
    split at h
    · rename_i vs he
      obtain ⟨c, hc, hK⟩ := orK_elim h
      exact ⟨c, hK, fun T => by simp only [he, hc, orK_some]; exact ⟨by trivial, by trivial⟩⟩
    · exact h.elim
  case lenS x =>
    simp only [dwp, swp] at h ⊢
    split at h
    · rename_i s he; exact ⟨_, h, fun T => by simp only [he]; exact ⟨by trivial, by trivial⟩⟩
    · exact h.elim
  case min x y =>
    simp only [dwp, swp] at h ⊢
    split at h
    · rename_i u v hu hv
      unfold minV at h ⊢
      split at h
      · exact ⟨_, h, fun T => by simp only [hu, hv]; exact ⟨by trivial, by trivial⟩⟩
      · exact h.elim
    · exact h.elim
  case max x y =>
    simp only [dwp, swp] at h ⊢
    split at h
    · rename_i u v hu hv
      unfold maxV at h ⊢
      split at h
      · exact ⟨_, h, fun T => by simp only [hu, hv]; exact ⟨by trivial, by trivial⟩⟩
      · exact h.elim
    · exact h.elim
  case max3 x y z =>
    simp only [dwp, swp] at h ⊢
    split at h
    · rename_i u v w hu hv hw
      unfold max3V at h ⊢
      split at h
      · exact ⟨_, h, fun T => by simp only [hu, hv, hw]; exact ⟨by trivial, by trivial⟩⟩
      · exact h.elim
    · exact h.elim

/-- A row that takes the place of a shorter one, under its name. -/
theorem move_ctx {G : Ctx} {a a' e k : Nat} {cs cs' : List AV} (h2 : Rel G) (ha : G.S.m a = some (.row e k cs)) (ha' : G.S.m a' = some (.row e k cs')) (hlt : cs.length < cs'.length) (hne : a ≠ a') :
    ∃ G' : Ctx, G'.w = G.w ∧ G'.S = (G.S.set a (.row e k cs')).kill a' ∧ Rel G' ∧ Step G G' ∧ G'.μ a = G.μ a' := by
  let G' : Ctx := ⟨G.w, fun l => if l = a then G.μ a' else G.μ l, (G.S.set a (.row e k cs')).kill a'⟩
  have hsub : ∀ l' o', G'.S.m l' = some o' → (l' = a ∧ o' = .row e k cs') ∨ (l' ≠ a ∧ l' ≠ a' ∧ G.S.m l' = some o') := fun l' o' h => by
    by_cases e1 : l' = a'
    · subst e1; simp [G', St.kill] at h
    · by_cases e2 : l' = a
      · subst e2; left; exact ⟨rfl, by simpa [G', St.set, St.kill, e1] using h.symm⟩
      · right; exact ⟨e2, e1, by simpa [G', St.set, St.kill, e1, e2] using h⟩
  have hμa : G'.μ a = G.μ a' := by simp [G']
  have hμo : ∀ l, l ≠ a → G'.μ l = G.μ l := fun l hl => by simp [G', hl]
  have hlv : ∀ l' b, G'.live l' b → (l' = a ∧ G.live a' b) ∨ (l' ≠ a ∧ l' ≠ a' ∧ G.live l' b) := fun l' b h => by
    obtain ⟨⟨o', ho'⟩, hb⟩ := h
    rcases hsub l' o' ho' with ⟨rfl, _⟩ | ⟨q1, q2, h⟩
    · left; exact ⟨rfl, ⟨_, ha'⟩, by rw [← hμa]; exact hb⟩
    · right; exact ⟨q1, q2, ⟨_, h⟩, by rw [← hμo l' q1]; exact hb⟩
  have hst : Step G G' := by
    refine ⟨rfl, rfl, Nat.le_refl _, rfl, Nat.le_refl _, fun _ _ => rfl, fun b _ ⟨l', h⟩ => ?_, Nat.le_refl _, fun l' o' _ ho' => ?_, MapsGo.refl _⟩
    · rcases hlv l' b h with ⟨_, h⟩ | ⟨_, _, h⟩
      · exact ⟨_, h⟩
      · exact ⟨_, h⟩
    · rcases hsub l' o' ho' with ⟨rfl, rfl⟩ | ⟨q1, _, h⟩
      · exact ⟨cs, ha, by omega, fun he => by omega⟩
      · cases o' with
        | row e k cs => exact ⟨cs, h, Nat.le_refl _, fun _ => ⟨hμo l' q1, fun b c _ hc => ⟨c, hc, rfl⟩⟩⟩
        | map es => exact ⟨es, h, hμo l' q1⟩
        | iter i => exact ⟨i, h, hμo l' q1⟩
  have hrel : Rel G' := by
    refine ⟨fun l' hl' => ?_, fun l' o' ho' => ?_, fun l1 l2 b a1 a2 => ?_⟩
    · have h1 : G.S.n ≤ l' := hl'
      have q1 := live_lt h2 ha
      have hd := h2.dom l' h1
      have hn : l' ≠ a := by omega
      simp only [G', St.kill, St.set, hn, if_false, hd]
      split <;> rfl
    · rcases hsub l' o' ho' with ⟨rfl, rfl⟩ | ⟨q1, _, h⟩
      · obtain ⟨w1, w2⟩ := h2.ok _ _ ha'
        refine ⟨w1, ?_⟩
        rcases w2 with ⟨_, w4⟩ | ⟨b, c, w3, w4, w5, w6⟩
        · rw [w4] at hlt; simp at hlt
        · exact .inr ⟨b, c, by rw [hμa]; exact w3, w4, w5, w6.step hst _ _ _ fun _ => rfl⟩
      · exact (h2.ok _ _ h).keep hst (hμo l' q1) fun _ _ => rfl
    · rcases hlv l1 b a1 with ⟨rfl, p1⟩ | ⟨p0, p2, p1⟩ <;> rcases hlv l2 b a2 with ⟨rfl, r1⟩ | ⟨r0, r2, r1⟩
      · rfl
      · exact absurd (h2.inj _ _ b p1 r1) (Ne.symm r2)
      · exact absurd (h2.inj _ _ b p1 r1) p2
      · exact h2.inj _ _ b p1 r1
  exact ⟨G', rfl, rfl, hrel, hst, hμa⟩
/-- The handle of a new row. -/
def IsHand (res : Nat → AV) (m : Nat) : Prop := (res = fun l => .ptr l m 0) ∨ ∃ n, res = fun l => .ref l m 0 n
def FillSem (P : Program) (o : Oper) (fr : Fr) (l e k : Nat) (cs : List AV) (r : AV) : Prop :=
  ∀ (G : Ctx) (ρ : Operand → Value), Rel G → l < G.S.n → G.S.m l = some (.row e k []) → (∀ x q, x ∈ o.op.operands → sa x = some q → Rv G (evS fr q) (ρ x)) → OpRun P (execOp ρ o) G fun r' S' => r' = r ∧ S' = G.S.set l (.row e k cs)
/-- In reality: the new row takes the empty row's name. -/
theorem fill_run {o : Oper} {s : SOp} {e k l : Nat} {cs : List AV} {fr : Fr} {res : Nat → AV} (hs : sop P o.op = s) (hne : cs ≠ []) (hsc : ∀ c ∈ cs, ∃ v, c = .sc v) (hh : IsHand res cs.length)
    (h0 : ∀ S : St, swp P s fr S fun r S' => r = res S.n ∧ S' = S.add (.row e k cs)) : FillSem P o fr l e k cs (res l) := by
  intro G ρ hR hl hm hop
  have h0 : OpRun P (execOp ρ o) G fun r S' => r = res G.S.n ∧ S' = G.S.add (.row e k cs) := sop_ok hR rfl hs hop (h0 G.S)
  have key : ∀ v w', Left G (fun r S' => r = res G.S.n ∧ S' = G.S.add (.row e k cs)) v w' → Left G (fun r S' => r = res l ∧ S' = G.S.set l (.row e k cs)) v w' := by
    rintro v w' ⟨G1, r, rfl, hR1, hst1, hv, rfl, hS1⟩
    have ha' : G1.S.m G.S.n = some (.row e k cs) := by rw [hS1, St.add_new]
    have hold : ∀ x, x ≠ G.S.n → G1.S.m x = G.S.m x := fun x hx => by rw [hS1]; simp [St.add, hx]
    have hln : l ≠ G.S.n := by omega
    have hlt : ([] : List AV).length < cs.length := by
      cases cs with
      | nil => exact absurd rfl hne
      | cons z zs => simp
    obtain ⟨G2, w2, s2, r2, t2, m2⟩ := move_ctx hR1 (by rw [hold l hln]; exact hm) ha' hlt hln
    have hT : Told (G.S.set l (.row e k cs)) G2.S := fun x o' ho' => by
      by_cases ex : x = l
      · subst ex
        rw [St.set_same] at ho'
        cases ho'
        refine ⟨hl, by rw [s2]; simp [St.kill, St.set, hln], ?_⟩
        show bels _ _
        exact bels_iff.2 fun c hc => by obtain ⟨z, rfl⟩ := hsc c hc; simp only [AV.bel]
      · rw [St.set_ne _ _ ex] at ho'
        obtain ⟨c1, c2, c3⟩ := hR.clean x o' ho'
        have hx : x ≠ G.S.n := by omega
        exact ⟨c1, by rw [s2]; simp only [St.kill, St.set, if_neg hx, if_neg ex]; rw [hold x hx]; exact ho', c3⟩
    have hn2 : l < G2.S.n := by rw [s2]; simp only [St.kill, St.set, hS1, St.add]; omega
    have hl2 : G2.S.m l = some (.row e k cs) := by rw [s2]; simp [St.kill, St.set, hln]
    refine ⟨G2.told (G.S.set l (.row e k cs)), res l, w2, told_rel r2 hT, told_step (hst1.trans t2) hT (Nat.le_refl _), ?_, rfl, rfl⟩
    rcases hh with rfl | ⟨n, rfl⟩
    · refine Rv.told hT _ _ (by simp only [AV.bel]; exact hl) ?_
      simp only [Rv] at hv ⊢
      obtain ⟨v1, v2, v3⟩ := hv
      refine ⟨hn2, v2, fun e2 k2 cs2 hm2 => ?_⟩
      rw [hl2] at hm2
      cases hm2
      obtain ⟨v4, v5⟩ := v3 e k _ ha'
      refine ⟨v4, fun ht => ?_⟩
      have := v5 ht
      rw [m2]
      exact this
    · refine Rv.told hT _ _ (by simp only [AV.bel]; exact hl) ?_
      simp only [Rv] at hv ⊢
      obtain ⟨v1, v2, v3⟩ := hv
      refine ⟨hn2, v2, fun e2 k2 cs2 hm2 => ?_⟩
      rw [hl2] at hm2
      cases hm2
      obtain ⟨v4, v5⟩ := v3 e k _ ha'
      refine ⟨v4, fun ht => ?_⟩
      have := v5 ht
      rw [m2, w2]
      exact this
  rcases h0 with ⟨v, w', h1, h2⟩ | ⟨f, args, h1, h2⟩
  · exact .inl ⟨v, w', h1, key v w' h2⟩
  · exact .inr ⟨f, args, h1, h2.mono fun e w' ⟨v, he, hl⟩ => ⟨v, he, key v w' hl⟩⟩
theorem FillSem.put {o : Oper} {ops : Array Oper} {l e k : Nat} {cs : List AV} {r r' : AV} {fr : Fr} {d : Option Nat} (h : ∀ t, d = some t → t ∉ o.looksAt ops) : FillSem P o (fr.put d r') l e k cs r ↔ FillSem P o fr l e k cs r :=
  ⟨fun h2 G ρ a b b' c => h2 G ρ a b b' fun x q hx hq => by rw [evS_put h hx hq]; exact c x q hx hq,
   fun h2 G ρ a b b' c => h2 G ρ a b b' fun x q hx hq => by have := c x q hx hq; rwa [evS_put h hx hq] at this⟩
end

/-! ### what an operation does, by its kind -/
def TH (P : Program) (ops : Array Oper) (F : List Nat) (S0 : St) (B N : Nat) (i : Nat) (o : Oper) (fr : Fr) (S : St) (K : AV → St → Prop) : Prop :=
  match rankH P ops i with
  | some q => ∃ e k cs r, cs ≠ [] ∧ FillSem P o fr (B + q) e k cs r ∧ B + q < N ∧ N ≤ S.n ∧ S.m (B + q) = some (.row e k []) ∧ S0.m (B + q) = none ∧ K r (S.set (B + q) (.row e k cs))
  | none =>
    if (sop P o.op).effG = true then ∃ r S', N ≤ S.n ∧ (K r S' ∧ S.n ≤ S'.n ∧ (∀ x, S.hol x → S'.m x = S.m x) ∧ (∀ x, x < S.n → S'.hol x → S.hol x)) ∧ (F.contains i = true → Ext S0 S') ∧ LocSem P o fr S S' r
    else if F.contains i = true then ∃ r, K r S ∧ r.bel S0.n ∧ Ext S0 S ∧ PureSem P o fr S0 r
    else if (sop P o.op).loc = true then ∃ r, K r S ∧ StaySem P o fr S r
    else ∃ r, K r S ∧ r.bel S.n ∧ PureSem P o fr S r

def qH (P : Program) (ops : Array Oper) (F : List Nat) (S0 : St) (B N : Nat) (i : Nat) (K : Fr → St → Prop) (fr : Fr) (S : St) : Prop :=
  match ops[i]? with
  | none => K fr S
  | some o => (wantA fr (guardOf ops o) = some true ∧ TH P ops F S0 B N i o fr S fun r S' => K (fr.put o.dst r) S') ∨ (wantA fr (guardOf ops o) = some false ∧ K (fr.put o.dst (.sc undef)) S)

def wpAnyH (P : Program) (ops : Array Oper) (F : List Nat) (S0 : St) (B N : Nat) (Q : Fr → St → Prop) : Nat → Array Bool → Fr → St → Prop
  | 0, listed, fr, S => Region.ready .any ops listed = [] ∧ Q fr S
  | fuel + 1, listed, fr, S => (Region.ready .any ops listed = [] → Q fr S) ∧ ∀ i ∈ Region.ready .any ops listed, qH P ops F S0 B N i (wpAnyH P ops F S0 B N Q fuel (listed.setIfInBounds i true)) fr S

/-- i may come behind j. -/
def SwH (P : Program) (ops : Array Oper) (F : List Nat) (i j : Nat) (oi oj : Oper) : Prop :=
  (rankH P ops i = none ∧ (sop P oi.op).effG = false ∧ F.contains i = true ∧ ((sop P oj.op).effG = true → F.contains j = true)) ∨
  (∃ q, rankH P ops j = some q ∧ rankH P ops i ≠ some q ∧ (rankH P ops i ≠ none ∨ ((sop P oi.op).loc = true ∧ ((sop P oi.op).effG = true ∨ F.contains i = false))))

section
variable {P : Program} {n : Nat} {ops : Array Oper} {F : List Nat} {S0 : St} {B N : Nat}
theorem TH.mono {i : Nat} {o : Oper} {fr : Fr} {S : St} {K K' : AV → St → Prop} (h : TH P ops F S0 B N i o fr S K) (hk : ∀ r S', K r S' → K' r S') : TH P ops F S0 B N i o fr S K' := by
  unfold TH at *
  split at h
  · obtain ⟨e, k, cs, r, a1, a3, a4, a5, a6, a7, a8⟩ := h
    exact ⟨e, k, cs, r, a1, a3, a4, a5, a6, a7, hk _ _ a8⟩
  · split at h
    · rw [if_pos (by assumption)]
      obtain ⟨r, S', a1, ⟨a2, a3⟩, a4⟩ := h
      exact ⟨r, S', a1, ⟨hk _ _ a2, a3⟩, a4⟩
    · rw [if_neg (by assumption)]
      split at h
      · rw [if_pos (by assumption)]; obtain ⟨r, h1, h2⟩ := h; exact ⟨r, hk _ _ h1, h2⟩
      · rw [if_neg (by assumption)]
        split at h
        · rw [if_pos (by assumption)]; obtain ⟨r, h1, h2⟩ := h; exact ⟨r, hk _ _ h1, h2⟩
        · rw [if_neg (by assumption)]; obtain ⟨r, h1, h2⟩ := h; exact ⟨r, hk _ _ h1, h2⟩

theorem qH_mono {i : Nat} {fr : Fr} {S : St} {K K' : Fr → St → Prop} (h : ∀ fr S, K fr S → K' fr S) (hh : qH P ops F S0 B N i K fr S) : qH P ops F S0 B N i K' fr S := by
  unfold qH at *
  split
  · exact h _ _ (by simpa [*] using hh)
  · rename_i o ho
    simp only [ho] at hh
    rcases hh with ⟨h1, h2⟩ | ⟨h1, h2⟩
    · exact .inl ⟨h1, h2.mono fun r S' => h _ _⟩
    · exact .inr ⟨h1, h _ _ h2⟩
theorem LocSem.put {S S' : St} {o : Oper} {r r' : AV} {fr : Fr} {d : Option Nat} (h : ∀ t, d = some t → t ∉ o.looksAt ops) : LocSem P o (fr.put d r') S S' r ↔ LocSem P o fr S S' r :=
  ⟨fun h2 G ρ a b c => h2 G ρ a b fun x q hx hq => by rw [evS_put h hx hq]; exact c x q hx hq,
   fun h2 G ρ a b c => h2 G ρ a b fun x q hx hq => by have := c x q hx hq; rwa [evS_put h hx hq] at this⟩
theorem StaySem.put {S : St} {o : Oper} {r r' : AV} {fr : Fr} {d : Option Nat} (h : ∀ t, d = some t → t ∉ o.looksAt ops) : StaySem P o (fr.put d r') S r ↔ StaySem P o fr S r :=
  ⟨fun h2 G ρ a b c => h2 G ρ a b fun x q hx hq => by rw [evS_put h hx hq]; exact c x q hx hq,
   fun h2 G ρ a b c => h2 G ρ a b fun x q hx hq => by have := c x q hx hq; rwa [evS_put h hx hq] at this⟩
theorem TH.put {i : Nat} {S : St} {o : Oper} {K : AV → St → Prop} {r' : AV} {fr : Fr} {d : Option Nat} (h : ∀ t, d = some t → t ∉ o.looksAt ops) : TH P ops F S0 B N i o (fr.put d r') S K ↔ TH P ops F S0 B N i o fr S K := by
  unfold TH
  simp only [LocSem.put h, StaySem.put h, PureSem.put h, FillSem.put h]
theorem ext_fill {S : St} {l : Nat} {o : Ob} (h : Ext S0 S) (h0 : S0.m l = none) : Ext S0 (S.set l o) := ⟨h.1, fun x o' ho => by
  have hx : x ≠ l := fun e => by subst e; rw [h0] at ho; cases ho
  rw [St.set_ne S _ hx]; exact h.2 x o' ho⟩
theorem TH.ext {j : Nat} {oj : Oper} {fr : Fr} {S : St} {K : AV → St → Prop} (hE : Ext S0 S) (hj : (sop P oj.op).effG = true → F.contains j = true) (h : TH P ops F S0 B N j oj fr S K) : TH P ops F S0 B N j oj fr S fun r S' => Ext S0 S' ∧ K r S' := by
  unfold TH at *
  split at h
  · obtain ⟨e, k, cs, r, a1, a3, a4, a5, a6, a7, a8⟩ := h
    exact ⟨e, k, cs, r, a1, a3, a4, a5, a6, a7, ext_fill hE a7, a8⟩
  · split at h
    · rename_i he
      rw [if_pos he]
      obtain ⟨r, S', a1, ⟨a2, a3⟩, a4, a5⟩ := h
      exact ⟨r, S', a1, ⟨⟨a4 (hj he), a2⟩, a3⟩, a4, a5⟩
    · rw [if_neg (by assumption)]
      split at h
      · rw [if_pos (by assumption)]; obtain ⟨r, h1, h2⟩ := h; exact ⟨r, ⟨hE, h1⟩, h2⟩
      · rw [if_neg (by assumption)]
        split at h
        · rw [if_pos (by assumption)]; obtain ⟨r, h1, h2⟩ := h; exact ⟨r, ⟨hE, h1⟩, h2⟩
        · rw [if_neg (by assumption)]; obtain ⟨r, h1, h2⟩ := h; exact ⟨r, ⟨hE, h1⟩, h2⟩
theorem th_ex {i j : Nat} {oi oj : Oper} {fr : Fr} {S : St} {K : AV → St → Prop} (hs : SwH P ops F i j oi oj) (h : TH P ops F S0 B N i oi fr S K) : ∃ r S', K r S' := by
  unfold TH at h
  split at h
  · obtain ⟨e, k, cs, r, _, _, _, _, _, _, h⟩ := h; exact ⟨_, _, h⟩
  · split at h
    · obtain ⟨r, S', _, ⟨h, _⟩, _⟩ := h; exact ⟨r, S', h⟩
    · split at h
      · obtain ⟨r, h, _⟩ := h; exact ⟨r, _, h⟩
      · split at h
        · obtain ⟨r, h, _⟩ := h; exact ⟨r, _, h⟩
        · obtain ⟨r, h, _⟩ := h; exact ⟨r, _, h⟩
/-- Two that may change places. -/
theorem TH.swap {i j : Nat} {oi oj : Oper} {fr : Fr} {S : St} {K : AV → AV → St → Prop} (hs : SwH P ops F i j oi oj) (h : TH P ops F S0 B N i oi fr S fun ri Si => TH P ops F S0 B N j oj fr Si fun rj Sj => K ri rj Sj) :
    TH P ops F S0 B N j oj fr S fun rj Sj => TH P ops F S0 B N i oi fr Sj fun ri Si => K ri rj Si := by
  rcases hs with ⟨hr, hi, hiF, hj⟩ | ⟨qj, hrj, hne, hc⟩
  · have ei : ∀ (S : St) (K : AV → St → Prop), TH P ops F S0 B N i oi fr S K = ∃ r, K r S ∧ r.bel S0.n ∧ Ext S0 S ∧ PureSem P oi fr S0 r := fun S K => by
      unfold TH; simp only [hr, hi, hiF, Bool.false_eq_true, if_false, if_true]
    rw [ei] at h
    obtain ⟨ri, h1, h2, hE, h3⟩ := h
    refine (TH.ext hE hj h1).mono fun rj Sj hq => ?_
    rw [ei]
    exact ⟨ri, hq.2, h2, hq.1, h3⟩
  · have ej : ∀ (S : St) (K : AV → St → Prop), TH P ops F S0 B N j oj fr S K = ∃ e k cs r, cs ≠ [] ∧ FillSem P oj fr (B + qj) e k cs r ∧ B + qj < N ∧ N ≤ S.n ∧ S.m (B + qj) = some (.row e k []) ∧ S0.m (B + qj) = none ∧ K r (S.set (B + qj) (.row e k cs)) := fun S K => by
      unfold TH; simp only [hrj]
    cases hri : rankH P ops i with
    | some qi =>
      have hq : qi ≠ qj := fun e => hne (by rw [hri, e])
      have ei : ∀ (S : St) (K : AV → St → Prop), TH P ops F S0 B N i oi fr S K = ∃ e k cs r, cs ≠ [] ∧ FillSem P oi fr (B + qi) e k cs r ∧ B + qi < N ∧ N ≤ S.n ∧ S.m (B + qi) = some (.row e k []) ∧ S0.m (B + qi) = none ∧ K r (S.set (B + qi) (.row e k cs)) := fun S K => by
        unfold TH; simp only [hri]
      rw [ei] at h
      obtain ⟨e, k, cs, r, a1, a3, a4, a5, a6, a7, h⟩ := h
      rw [ej] at h
      obtain ⟨e', k', cs', r', b1, b3, b4, b5, b6, b7, h⟩ := h
      have n1 : B + qj ≠ B + qi := by omega
      rw [St.set_ne _ _ n1] at b6
      rw [ej]
      refine ⟨e', k', cs', r', b1, b3, b4, a5, b6, b7, ?_⟩
      rw [ei]
      refine ⟨e, k, cs, r, a1, a3, a4, a5, by rw [St.set_ne _ _ (Ne.symm n1)]; exact a6, a7, ?_⟩
      have : (S.set (B + qj) (.row e' k' cs')).set (B + qi) (.row e k cs) = (S.set (B + qi) (.row e k cs)).set (B + qj) (.row e' k' cs') := st_ext rfl fun x => by
        simp only [St.set]
        by_cases e1 : x = B + qi
        · subst e1; rw [if_pos rfl, if_neg (Ne.symm n1), if_pos rfl]
        · simp [e1]
      rw [this]; exact h
    | none =>
      have hc : (sop P oi.op).loc = true ∧ ((sop P oi.op).effG = true ∨ F.contains i = false) := by
        rcases hc with h | h
        · exact absurd hri h
        · exact h
      by_cases he : (sop P oi.op).effG = true
      · have ei : ∀ (S : St) (K : AV → St → Prop), TH P ops F S0 B N i oi fr S K = ∃ r S', N ≤ S.n ∧ (K r S' ∧ S.n ≤ S'.n ∧ (∀ x, S.hol x → S'.m x = S.m x) ∧ (∀ x, x < S.n → S'.hol x → S.hol x)) ∧ (F.contains i = true → Ext S0 S') ∧ LocSem P oi fr S S' r := fun S K => by
          unfold TH; simp only [hri, he, if_true]
        rw [ei] at h
        obtain ⟨ri, Si, a1, ⟨h, a2, a3, a4⟩, a5, a6⟩ := h
        rw [ej] at h
        obtain ⟨e, k, cs, r, b2, b3, b4, b5, b6, b7, h⟩ := h
        have hh : S.hol (B + qj) := a4 _ (by omega) ⟨by omega, _, _, b6⟩
        have hm : S.m (B + qj) = some (.row e k []) := by rw [← a3 _ hh]; exact b6
        have hno : ∀ T : St, ¬(T.set (B + qj) (.row e k cs)).hol (B + qj) := fun T ⟨_, e', k', h2⟩ => by
          rw [St.set_same] at h2
          simp only [Option.some.injEq, Ob.row.injEq] at h2
          exact b2 h2.2.2
        rw [ej]
        refine ⟨e, k, cs, r, b2, b3, b4, a1, hm, b7, ?_⟩
        rw [ei]
        refine ⟨ri, Si.set (B + qj) (.row e k cs), a1, ⟨h, a2, fun x hx => ?_, fun x hx hh2 => ?_⟩, fun hf => ext_fill (a5 hf) b7, fun G ρ g1 g2 g3 => ?_⟩
        · have hx2 : x ≠ B + qj := fun e => by subst e; exact hno S hx
          rw [St.set_ne _ _ hx2, St.set_ne _ _ hx2]
          exact a3 x ⟨hx.1, by have := hx.2; rwa [St.set_ne _ _ hx2] at this⟩
        · have hx2 : x ≠ B + qj := fun e => by subst e; exact hno Si hh2
          have := a4 x hx ⟨hh2.1, by have := hh2.2; rwa [St.set_ne _ _ hx2] at this⟩
          exact ⟨hx, by rw [St.set_ne _ _ hx2]; exact this.2⟩
        · refine (a6 G ρ (upto_fill hh.1 hm g1) g2 g3).mono fun r S2 ⟨q1, q2⟩ => ⟨q1, ?_⟩
          rw [q2]
          exact patch_fill b2 hh.1 hm g1
      · have hf : F.contains i = false := by
          rcases hc.2 with h | h
          · exact absurd h he
          · exact h
        have he' : (sop P oi.op).effG = false := by simpa using he
        have ei : ∀ (S : St) (K : AV → St → Prop), TH P ops F S0 B N i oi fr S K = ∃ r, K r S ∧ StaySem P oi fr S r := fun S K => by
          unfold TH; simp only [hri, he', hf, hc.1, Bool.false_eq_true, if_false, if_true]
        rw [ei] at h
        obtain ⟨ri, h, a6⟩ := h
        rw [ej] at h
        obtain ⟨e, k, cs, r, b2, b3, b4, b5, b6, b7, h⟩ := h
        rw [ej]
        refine ⟨e, k, cs, r, b2, b3, b4, b5, b6, b7, ?_⟩
        rw [ei]
        exact ⟨ri, h, fun G ρ g1 g2 g3 => a6 G ρ (upto_fill (by omega) b6 g1) g2 g3⟩
/-- Each kind, in reality. -/
theorem TH.real {i : Nat} {o : Oper} {fr : Fr} {S : St} {K : AV → St → Prop} (h : TH P ops F S0 B N i o fr S K) : EffSem P o fr S K ∨ ∃ r, K r S ∧ r.bel S.n ∧ PureSem P o fr S r := by
  unfold TH at h
  split at h
  · obtain ⟨e, k, cs, r, a1, a3, a4, a5, a6, a7, h⟩ := h
    refine .inl fun G ρ g1 g2 g3 => ?_
    subst g1
    exact (a3 G ρ g2 (by omega) a6 g3).mono fun r S' ⟨q1, q2⟩ => by subst q1; subst q2; exact h
  · split at h
    · obtain ⟨r, S', a1, ⟨h, a2, a3, a4⟩, a5, a6⟩ := h
      refine .inl fun G ρ g1 g2 g3 => ?_
      subst g1
      exact (a6 G ρ (Upto.refl _) g2 g3).mono fun r' S2 ⟨q1, q2⟩ => by
        rw [patch_self a3] at q2
        subst q1; subst q2; exact h
    · split at h
      · obtain ⟨r, hk, hbel, hE, hq⟩ := h
        exact .inr ⟨r, hk, AV.bel_up hE.1 _ hbel, pure_ext hE hq⟩
      · split at h
        · obtain ⟨r, h, a6⟩ := h
          refine .inl fun G ρ g1 g2 g3 => ?_
          subst g1
          exact (a6 G ρ (Upto.refl _) g2 g3).mono fun r' S2 ⟨q1, q2⟩ => by subst q1; subst q2; exact h
        · exact .inr h

/-- A step, guard and all. -/
def GH (P : Program) (ops : Array Oper) (F : List Nat) (S0 : St) (B N : Nat) (i : Nat) (o : Oper) (K : AV → St → Prop) (fr : Fr) (S : St) : Prop :=
  (wantA fr (guardOf ops o) = some true ∧ TH P ops F S0 B N i o fr S K) ∨ (wantA fr (guardOf ops o) = some false ∧ K (.sc undef) S)
theorem GH.put {i : Nat} {S : St} {o : Oper} {K : AV → St → Prop} {r' : AV} {fr : Fr} {d : Option Nat} (h : ∀ t, d = some t → t ∉ o.looksAt ops) : GH P ops F S0 B N i o K (fr.put d r') S ↔ GH P ops F S0 B N i o K fr S := by
  unfold GH
  rw [want_put h, TH.put h]
theorem GH.mono {i : Nat} {o : Oper} {fr : Fr} {S : St} {K K' : AV → St → Prop} (h : GH P ops F S0 B N i o K fr S) (hk : ∀ r S', K r S' → K' r S') : GH P ops F S0 B N i o K' fr S := by
  rcases h with ⟨h1, h2⟩ | ⟨h1, h2⟩
  · exact .inl ⟨h1, h2.mono hk⟩
  · exact .inr ⟨h1, hk _ _ h2⟩
theorem GH.want {i : Nat} {o : Oper} {fr : Fr} {S : St} {K : AV → St → Prop} {b : Bool} (h : GH P ops F S0 B N i o K fr S) (hw : wantA fr (guardOf ops o) = some b) : (b = true ∧ TH P ops F S0 B N i o fr S K) ∨ (b = false ∧ K (.sc undef) S) := by
  rcases h with ⟨h1, h2⟩ | ⟨h1, h2⟩
  · rw [hw] at h1; cases h1; exact .inl ⟨rfl, h2⟩
  · rw [hw] at h1; cases h1; exact .inr ⟨rfl, h2⟩
theorem GH.swap {i j : Nat} {oi oj : Oper} {fr : Fr} {S : St} {K : AV → AV → St → Prop} (hs : SwH P ops F i j oi oj) (hnj : ∃ b, wantA fr (guardOf ops oj) = some b)
    (h : GH P ops F S0 B N i oi (fun ri Si => GH P ops F S0 B N j oj (fun rj Sj => K ri rj Sj) fr Si) fr S) :
    GH P ops F S0 B N j oj (fun rj Sj => GH P ops F S0 B N i oi (fun ri Si => K ri rj Si) fr Sj) fr S := by
  obtain ⟨b, hb⟩ := hnj
  rcases h with ⟨h1, h2⟩ | ⟨h1, h2⟩
  · cases b with
    | true =>
      have h3 : TH P ops F S0 B N i oi fr S fun ri Si => TH P ops F S0 B N j oj fr Si fun rj Sj => K ri rj Sj := h2.mono fun r S' hg => by
        rcases hg.want hb with ⟨_, h⟩ | ⟨h, _⟩
        · exact h
        · cases h
      exact .inl ⟨hb, (TH.swap hs h3).mono fun r S' hg => .inl ⟨h1, hg⟩⟩
    | false =>
      exact .inr ⟨hb, .inl ⟨h1, h2.mono fun r S' hg => by
        rcases hg.want hb with ⟨h, _⟩ | ⟨_, h⟩
        · cases h
        · exact h⟩⟩
  · cases b with
    | true =>
      rcases h2.want hb with ⟨_, h⟩ | ⟨h, _⟩
      · exact .inl ⟨hb, h.mono fun r S' hg => .inr ⟨h1, hg⟩⟩
      · cases h
    | false =>
      rcases h2.want hb with ⟨h, _⟩ | ⟨_, h⟩
      · cases h
      · exact .inr ⟨hb, .inr ⟨h1, h⟩⟩
theorem gh_ex {i j : Nat} {oi oj : Oper} {fr : Fr} {S : St} {K : AV → St → Prop} (hs : SwH P ops F i j oi oj) (h : GH P ops F S0 B N i oi K fr S) : ∃ r S', K r S' := by
  rcases h with ⟨_, h⟩ | ⟨_, h⟩
  · exact th_ex hs h
  · exact ⟨_, _, h⟩

theorem qH_iff {i : Nat} {o : Oper} {K : Fr → St → Prop} {fr : Fr} {S : St} (ho : ops[i]? = some o) : qH P ops F S0 B N i K fr S ↔ GH P ops F S0 B N i o (fun r S' => K (fr.put o.dst r) S') fr S := by
  unfold qH GH
  simp only [ho]

/-- i before j may be j before i. -/
theorem qH_put {i j : Nat} {oi oj : Oper} (hi : ops[i]? = some oi) (hj : ops[j]? = some oj) (hap : oi.apart ops oj = true) (hs : SwH P ops F i j oi oj) {K : Fr → St → Prop} {fr : Fr} {S : St}
    (h : qH P ops F S0 B N i (qH P ops F S0 B N j K) fr S) : qH P ops F S0 B N j (qH P ops F S0 B N i K) fr S := by
  obtain ⟨h1, h2, h3⟩ := Oper.apart_spec hap
  rw [qH_iff hi] at h
  have h' : GH P ops F S0 B N i oi (fun ri Si => GH P ops F S0 B N j oj (fun rj Sj => K ((fr.put oj.dst rj).put oi.dst ri) Sj) fr Si) fr S := h.mono fun ri Si hg => by
    rw [qH_iff hj, GH.put h1] at hg
    exact hg.mono fun rj Sj hk => by rw [Fr.put_comm (d := oi.dst) (e := oj.dst) h2] at hk; exact hk
  have hnj : ∃ b, wantA fr (guardOf ops oj) = some b := by
    obtain ⟨_, _, hg⟩ := gh_ex hs h'
    rcases hg with ⟨h, _⟩ | ⟨h, _⟩ <;> exact ⟨_, h⟩
  have h4 := GH.swap (oi := oi) (oj := oj) (K := fun ri rj Sj => K ((fr.put oj.dst rj).put oi.dst ri) Sj) hs hnj h'
  rw [qH_iff hj]
  refine h4.mono fun rj Sj hg => ?_
  rw [qH_iff hi, GH.put h3]
  exact hg

theorem wpAnyH_first {Q : Fr → St → Prop} {i : Nat} {oi : Oper} (hi : ops[i]? = some oi) :
    ∀ (fuel : Nat) (listed : Array Bool) (fr : Fr) (S : St),
      (∀ j oj, ops[j]? = some oj → j ≠ i → listed.getD j true = false → ¬ Aft ops i j → oi.apart ops oj = true ∧ SwH P ops F i j oi oj) →
      (∀ j, Aft ops i j → listed.getD j false = false) →
      i ∈ Region.ready .any ops listed →
      qH P ops F S0 B N i (wpAnyH P ops F S0 B N Q fuel (listed.setIfInBounds i true)) fr S → wpAnyH P ops F S0 B N Q (fuel + 1) listed fr S := by
  intro fuel
  induction fuel with
  | zero =>
    intro listed fr S hfree hinv hr H
    refine ⟨fun h => (by rw [h] at hr; cases hr), fun j hj => ?_⟩
    by_cases hji : j = i
    · subst hji; exact H
    · obtain ⟨hjun, oj, hoj, hall⟩ := mem_ready.1 hj
      have hiun := (mem_ready.1 hr).1
      have hiun' : listed.getD i false = false := by
        rcases Nat.lt_or_ge i listed.size with h' | h'
        · simpa [h'] using hiun
        · simp [Array.getElem?_eq_none h'] at hiun
      have hnot : ¬ Aft ops i j := fun h => by
        cases h with
        | here ho he hb heq =>
          rw [hoj] at ho; cases ho
          have := hall _ he hb
          rw [heq, hiun'] at this
          cases this
        | there ho he hb h' =>
          rw [hoj] at ho; cases ho
          have := hall _ he hb
          rw [hinv _ h'] at this
          cases this
      obtain ⟨hap, hc⟩ := hfree j oj hoj hji hjun hnot
      have h2 := ready_mono hj hji
      rw [qH_iff hi] at H
      obtain ⟨_, _, H⟩ := gh_ex hc H
      have := H.1
      rw [this] at h2
      cases h2
  | succ fuel ih =>
    intro listed fr S hfree hinv hr H
    refine ⟨fun h => (by rw [h] at hr; cases hr), fun j hj => ?_⟩
    by_cases hji : j = i
    · subst hji; exact H
    · obtain ⟨hjun, oj, hoj, hall⟩ := mem_ready.1 hj
      have hiun := (mem_ready.1 hr).1
      have hiun' : listed.getD i false = false := by
        rcases Nat.lt_or_ge i listed.size with h' | h'
        · simpa [h'] using hiun
        · simp [Array.getElem?_eq_none h'] at hiun
      have hnot : ¬ Aft ops i j := fun h => by
        cases h with
        | here ho he hb heq =>
          rw [hoj] at ho; cases ho
          have := hall _ he hb
          rw [heq, hiun'] at this
          cases this
        | there ho he hb h' =>
          rw [hoj] at ho; cases ho
          have := hall _ he hb
          rw [hinv _ h'] at this
          cases this
      obtain ⟨hap, hc⟩ := hfree j oj hoj hji hjun hnot
      have H2 : qH P ops F S0 B N i (qH P ops F S0 B N j (wpAnyH P ops F S0 B N Q fuel ((listed.setIfInBounds i true).setIfInBounds j true))) fr S := qH_mono (fun fr S h => h.2 j (ready_mono hj hji)) H
      refine qH_mono (fun fr' S' h3 => ih (listed.setIfInBounds j true) fr' S' ?_ ?_ (ready_mono hr (Ne.symm hji)) ?_) (qH_put hi hoj hap hc H2)
      · intro k ok hk hki hun hno
        refine hfree k ok hk hki ?_ hno
        by_cases hjk : j = k
        · subst hjk; exact hjun
        · rw [getD_set_ne true hjk] at hun; exact hun
      · intro k hk
        by_cases hjk : j = k
        · subst hjk; exact absurd hk hnot
        · rw [getD_set_ne false hjk]; exact hinv k hk
      · rw [Array.setIfInBounds_comm _ _ hji]
        exact h3

/-- One walk in the order that is chosen. -/
def lexV (P : Program) (ops : Array Oper) (F : List Nat) (S0 : St) (B N : Nat) (Q : Fr → St → Prop) : List Nat → Fr → St → Prop
  | [], fr, S => Q fr S
  | i :: l, fr, S => match ops[i]? with
    | some o => GH P ops F S0 B N i o (fun r S' => lexV P ops F S0 B N Q l (fr.put o.dst r) S') fr S
    | none => False
theorem okOrdH_all : ∀ (todo done : List Nat), okOrdH P ops F done todo = true → ∀ j, j < ops.size → j ∈ done ∨ j ∈ todo
  | [], done, h, j, hj => by
    simp only [okOrdH, List.all_eq_true, List.mem_range, List.contains_iff_mem] at h
    exact .inl (h j hj)
  | i :: rest, done, h, j, hj => by
    simp only [okOrdH, Bool.and_eq_true] at h
    rcases okOrdH_all rest (i :: done) h.2 j hj with h1 | h1
    · rcases List.mem_cons.1 h1 with rfl | h1
      · exact .inr (by simp)
      · exact .inl h1
    · exact .inr (by simp [h1])
theorem wpAnyH_ord {Q : Fr → St → Prop} : ∀ (todo done : List Nat) (listed : Array Bool) (fr : Fr) (S : St), okOrdH P ops F done todo = true → Closed ops done → (∀ j ∈ done, j < ops.size) → listed.size = ops.size →
    (∀ j, j < ops.size → listed.getD j false = done.contains j) → lexV P ops F S0 B N Q todo fr S → wpAnyH P ops F S0 B N Q todo.length listed fr S
  | [], done, listed, fr, S, hok, hcl, hlt, hsz, hl, h => by
    refine ⟨?_, h⟩
    rw [List.eq_nil_iff_forall_not_mem]
    intro j hj
    obtain ⟨g1, o, ho, _⟩ := mem_ready.1 hj
    have hj : j < ops.size := by
      rcases Nat.lt_or_ge j ops.size with h | h
      · exact h
      · rw [Array.getElem?_eq_none h] at ho; cases ho
    have := hl j hj
    simp only [okOrdH, List.all_eq_true, List.mem_range] at hok
    rw [hok j hj] at this
    have hjl : j < listed.size := by omega
    simp [hjl] at g1 this
    rw [g1] at this
    cases this
  | i :: rest, done, listed, fr, S, hok, hcl, hlt, hsz, hl, h => by
    have hall := okOrdH_all (i :: rest) done hok
    simp only [okOrdH, Bool.and_eq_true, decide_eq_true_eq, Bool.not_eq_true'] at hok
    obtain ⟨⟨⟨⟨hi, hnd⟩, hdep⟩, hfr⟩, hok2⟩ := hok
    have h0 : ops[i]? = some ops[i] := Array.getElem?_eq_getElem hi
    simp only [lexV, h0] at h
    have toT : ∀ j, j < ops.size → listed.getD j true = listed.getD j false := fun j hj => by
      have : j < listed.size := by omega
      simp [this]
    simp only [depsIn, h0, Array.all_eq_true', Bool.or_eq_true, Bool.not_eq_true', List.contains_iff_mem] at hdep
    have hcl2 : Closed ops (i :: done) := fun j hj o ho e he hbe => by
      rcases List.mem_cons.1 hj with rfl | hj
      · rw [h0] at ho; cases ho
        rcases hdep e he with h | h
        · rw [hbe] at h; cases h
        · exact List.mem_cons_of_mem _ h
      · exact List.mem_cons_of_mem _ (hcl j hj o ho e he hbe)
    rw [List.length_cons]
    refine wpAnyH_first h0 rest.length listed fr S ?_ ?_ ?_ ?_
    · intro j oj hj hji hun hno
      have hjs : j < ops.size := by
        rcases Nat.lt_or_ge j ops.size with h | h
        · exact h
        · rw [Array.getElem?_eq_none h] at hj; cases hj
      have hnd : j ∉ done := fun hm => by
        have := hl j hjs
        rw [toT j hjs, this, List.contains_iff_mem.2 hm] at hun
        cases hun
      have hr : j ∈ rest := by
        rcases hall j hjs with h | h
        · exact absurd h hnd
        · rcases List.mem_cons.1 h with h | h
          · exact absurd h hji
          · exact h
      have := List.all_eq_true.1 hfr j hr
      simp only [freeH, h0, hj, Bool.or_eq_true, Bool.and_eq_true] at this
      rcases this with h | ⟨h1, h2⟩
      · exact absurd (aftL_ok (by simpa using h)) hno
      · refine ⟨h1, ?_⟩
        rcases h2 with ⟨⟨⟨h2, h3⟩, h4⟩, h5⟩ | ⟨⟨h2, h3⟩, h4⟩
        · refine .inl ⟨by simpa using h2, by simpa using h3, h4, fun he => ?_⟩
          rcases h5 with h5 | h5
          · rw [he] at h5; cases h5
          · exact h5
        · obtain ⟨q, hq⟩ := Option.isSome_iff_exists.1 h2
          refine .inr ⟨q, hq, by rw [hq] at h3; simpa using h3, ?_⟩
          rcases h4 with h4 | ⟨h4, h5⟩
          · left; intro e; rw [e] at h4; cases h4
          · right
            refine ⟨h4, ?_⟩
            rcases h5 with h5 | h5
            · exact .inl h5
            · exact .inr (by simpa using h5)
    · intro j hj
      rcases Nat.lt_or_ge j ops.size with h | h
      · rw [hl j h]
        rw [← Bool.not_eq_true]
        intro hm
        have := closed_aft hcl hj (List.contains_iff_mem.1 hm)
        rw [List.contains_iff_mem.2 this] at hnd
        cases hnd
      · have : listed.size ≤ j := by omega
        simp [Array.getElem?_eq_none this]
    · refine mem_ready.2 ⟨by rw [toT i hi, hl i hi]; exact hnd, _, h0, fun e he hbe => ?_⟩
      rcases hdep e he with h | h
      · rw [hbe] at h; cases h
      · rw [hl _ (hlt _ h)]; exact List.contains_iff_mem.2 h
    · rw [qH_iff h0]
      refine GH.mono (K := fun r S' => lexV P ops F S0 B N Q rest (fr.put ops[i].dst r) S') h fun r S' hlx => ?_
      refine wpAnyH_ord rest (i :: done) _ _ _ hok2 hcl2 (fun j hj => by rcases List.mem_cons.1 hj with rfl | hj; exact hi; exact hlt j hj) (by simp [hsz]) ?_ hlx
      intro j hjs
      by_cases e : i = j
      · subst e
        have : i < listed.size := by omega
        simp [this]
      · rw [getD_set_ne false e, hl j hjs]
        simp [Ne.symm e]
theorem wpAny_of_H {Q : Exit → Fr → St → Prop} {G0 : Ctx} (hall : ∀ (i : Nat) o, ops[i]? = some o → ∃ s, sOper P n ops o = some s) :
    ∀ (fuel : Nat) (listed : Array Bool) (fr : Fr) (G : Ctx) (a : Act), Rel G → Step G0 G → Rfr n G fr a → wpAnyH P ops F S0 B N (fun fr S => Q .normal fr S) fuel listed fr G.S → wpAny P .any ops (Post n G0 Q) fuel listed a G.w
  | 0, _, fr, G, a, hR, h0, hf, h => ⟨h.1, G, fr, rfl, hR, h0, hf, h.2⟩
  | fuel + 1, listed, fr, G, a, hR, h0, hf, h => by
    refine ⟨fun he => ⟨G, fr, rfl, hR, h0, hf, h.1 he⟩, fun i hi => ?_⟩
    have h1 := h.2 i hi
    unfold wpOp
    cases ho : ops[i]? with
    | none =>
      unfold qH at h1
      simp only [ho] at h1 ⊢
      exact wpAny_of_H hall fuel _ fr G a hR h0 hf h1
    | some o =>
      rw [qH_iff ho] at h1
      simp only
      obtain ⟨s, hs⟩ := hall i o ho
      obtain ⟨ht, hop, hd⟩ := sOper_parts hs
      rcases h1 with ⟨hw, hp⟩ | ⟨hw, hK⟩
      · rw [guardOf_ok hs] at hw
        rw [if_pos (want_ok hf hs hw)]
        have eff : EffSem P o fr G.S (fun r S' => wpAnyH P ops F S0 B N (fun fr S => Q .normal fr S) fuel (listed.setIfInBounds i true) (fr.put o.dst r) S') → o.wp P a G.w (fun a w => wpAny P .any ops (Post n G0 Q) fuel (listed.setIfInBounds i true) a w) (Post n G0 Q) := fun hp => by
          refine oper_wp hf ht (hp G a.eval rfl hR (operand_ok hf ht)) fun G' r' v g1 g2 g3 g4 g5 => ?_
          exact wpAny_of_H hall fuel _ _ G' _ g1 (h0.trans g2) g5 g4
        have quiet : ∀ r, wpAnyH P ops F S0 B N (fun fr S => Q .normal fr S) fuel (listed.setIfInBounds i true) (fr.put o.dst r) G.S → r.bel G.S.n → PureSem P o fr G.S r → o.wp P a G.w (fun a w => wpAny P .any ops (Post n G0 Q) fuel (listed.setIfInBounds i true) a w) (Post n G0 Q) := fun r hk hbel hp => by
          refine oper_wp hf ht (hp G a.eval (Ext.refl _) hR (operand_ok hf ht)) fun G' r' v g1 g2 g3 g4 g5 => ?_
          obtain ⟨rfl, hE⟩ := g4
          have htd : Told G.S G'.S := fun l o ho => by
            obtain ⟨b1, b2, b3⟩ := hR.clean l o ho
            exact ⟨b1, hE.real hR ho, b3⟩
          have hst : Step G (G'.told G.S) := told_step g2 htd (Nat.le_refl _)
          refine wpAny_of_H hall fuel _ _ (G'.told G.S) _ (told_rel g1 htd) (h0.trans hst) ((hf.step hst).put (dst_ok ht) ?_) hk
          exact Rv.told htd _ _ hbel g3
        rcases TH.real hp with hp | ⟨r, hk, hbel, hq⟩
        · exact .inl (eff hp)
        · exact .inl (quiet r hk hbel hq)
      · rw [guardOf_ok hs] at hw
        rw [want_ok hf hs hw]
        exact wpAny_of_H hall fuel _ _ G _ hR h0 (hf.put (dst_ok ht) (by simp [Rv])) hK

theorem awp_regionH {id : Nat} {Q : Exit → Fr → St → Prop} {fr : Fr} {S : St} (hm : P.follows .mixedOrders = true) (hB : lexH P ops = true) (hall : ∀ (i : Nat) o, ops[i]? = some o → ∃ s, sOper P n ops o = some s)
    (S0 : St) (B N : Nat) (h : lexV P ops (flagG P false ops) S0 B N (fun fr S => Q .normal fr S) (ordH P ops) fr S) : AWp P n (.region id ops true) Q fr S := by
  intro G a hS hR hf
  subst hS
  simp only [lexH, Bool.and_eq_true, beq_iff_eq] at hB
  refine wp_region_any hm ?_
  have hd := drew_step G (G.w.drawn + 1)
  have := wpAnyH_ord (P := P) (ordH P ops) [] (Array.replicate ops.size false) fr G.S hB.2 (fun j hj => by simp at hj) (fun j hj => by simp at hj) (by simp) (fun j h => by simp [h]) h
  exact wpAny_of_H (G0 := G) (Q := Q) hall _ _ fr (G.drew (G.w.drawn + 1)) a (drew_rel hR _) hd (hf.step hd) (by rw [hB.1.1.2] at this; exact this)
end

/-! ### the walk -/
/-- A row of plain cells. -/
def plainB (cs : List AV) : Bool := !cs.isEmpty && cs.all fun c => match c with
  | .sc _ => true
  | _ => false
def hops (P : Program) (S0 : St) (B : Nat) : List (Bool × Option Nat × SOper) → (Fr → St → Prop) → Fr → St → Prop
  | [], K, fr, S => K fr S
  | (f, some q, o) :: os, K, fr, S => match o.op with
    | .alloc e k zs => o.guard = none ∧ zs ≠ [] ∧ zs.length ≤ 281474976710656 ∧ S.row? (B + q) 0 = some (e, k, []) ∧ hops P S0 B os K (fr.put o.dst (.ptr (B + q) zs.length 0)) (S.set (B + q) (.row e k (zs.map .sc)))
    | .mksl e k bytes zs len cap => o.guard = none ∧ orK (intOfAV (evS fr len)) fun n => orK (intOfAV (evS fr cap)) fun c =>
        0 < n.toNat * k ∧ n ≤ c ∧ c * bytes ≤ 281474976710656 ∧ c ≤ 281474976710656 ∧ n.toNat * k ≤ 281474976710656 ∧ S.row? (B + q) 0 = some (e, k, []) ∧ hops P S0 B os K (fr.put o.dst (.ref (B + q) (n.toNat * k) 0 n.toNat)) (S.set (B + q) (.row e k (zcells zs (n.toNat * k))))
    | .buildSl e k len zs ps => o.guard = none ∧ orK (fillA (zcells zs (len * k)) (ps.map fun p => (p.1, p.2.1, evS fr p.2.2))) fun cs =>
        cs.length = len * k ∧ plainB cs = true ∧ S.row? (B + q) 0 = some (e, k, []) ∧ hops P S0 B os K (fr.put o.dst (.ref (B + q) (len * k) 0 len)) (S.set (B + q) (.row e k cs))
    | _ => False
  | (f, none, o) :: os, K, fr, S => match o.guard with
    | none => o.op.fit fr ∧ nwp P S0 f o.op fr S fun r S' => hops P S0 B os K (fr.put o.dst r) S'
    | some (t, want) => match fr t with
      | .sc (.bool b) => (b = want → o.op.fit (fr.put (some t) (.sc (.bool want))) ∧ nwp P S0 f o.op (fr.put (some t) (.sc (.bool want))) S fun r S' => hops P S0 B os K ((fr.put (some t) (.sc (.bool want))).put o.dst r) S') ∧
          (b ≠ want → hops P S0 B os K ((fr.put (some t) (.sc (.bool !want))).put o.dst (.sc undef)) S)
      | .sc (.tuple _) => hops P S0 B os K (fr.put o.dst (.sc undef)) S
      | _ => False
def addsE : St → List (Nat × Nat) → St
  | S, [] => S
  | S, p :: fl => addsE (S.add (.row p.1 p.2 [])) fl

section
variable {P : Program} {n : Nat} {Q : Exit → Fr → St → Prop} {S0 : St} {ops : Array Oper} {F : List Nat} {B N : Nat}
theorem nwpH_sound {i : Nat} {o : Oper} {s : SOp} {fr : Fr} {S : St} {K : AV → St → Prop} (hs : sop P o.op = s) (hr : rankH P ops i = none) (hl : s.effG = true → s.loc = true) (hN : N ≤ S.n) (hfit : s.fit fr) (h : nwp P S0 (F.contains i) s fr S K) : TH P ops F S0 B N i o fr S fun r S' => N ≤ S'.n ∧ K r S' := by
  unfold nwp at h
  unfold TH
  simp only [hr]
  rw [hs]
  split at h
  · rename_i he
    rw [if_pos he]
    obtain ⟨r, S', ⟨h1, h2, h3, h4⟩, h5⟩ := loc_eff (hl he) he hfit h
    exact ⟨r, S', hN, ⟨⟨Nat.le_trans hN h2, h1.2⟩, h2, h3, h4⟩, h1.1, fun G ρ g1 g2 g3 => sop_ok g2 rfl hs g3 (h5 G.S g1)⟩
  · rename_i he
    rw [if_neg he]
    obtain ⟨hf, h⟩ := h
    split
    · rename_i hF
      obtain ⟨r, ⟨h1, h2⟩, h3⟩ := dwp_sound hs h
      rw [hF] at h1 h3
      exact ⟨r, ⟨hN, h2⟩, h1, hf hF, h3⟩
    · rename_i hF
      split
      · rename_i hlo
        obtain ⟨r, ⟨h1, h2⟩, h3⟩ := loc_pure hlo (by simpa using he) h
        exact ⟨r, ⟨hN, h2⟩, fun G ρ g1 g2 g3 => sop_ok g2 rfl hs g3 (h3 G.S)⟩
      · obtain ⟨r, ⟨h1, h2⟩, h3⟩ := dwp_sound hs h
        rw [Bool.not_eq_true] at hF
        rw [hF] at h1 h3
        exact ⟨r, ⟨hN, h2⟩, h1, h3⟩

theorem hops_lex {K : Fr → St → Prop} {sl : List SOper} (hl : ops.toList.mapM (sOper P n ops) = some sl) (hloc : locH P ops = true) (h0 : ∀ i q, rankH P ops i = some q → B + q < N ∧ S0.m (B + q) = none) : ∀ (is : List Nat), (∀ i ∈ is, i < ops.size) → ∀ fr S, N ≤ S.n → hops P S0 B (is.filterMap fun i => (sl[i]?).map fun o => (F.contains i, rankH P ops i, o)) K fr S → lexV P ops F S0 B N K is fr S
  | [], _, fr, S, _, h => h
  | i :: is, hlt, fr, S, hN, h => by
    have hi := hlt i (by simp)
    have e0 : ops[i]? = some ops[i] := Array.getElem?_eq_getElem hi
    obtain ⟨s, hs1, hs2⟩ : ∃ s, sOper P n ops ops[i] = some s ∧ sl[i]? = some s := mapM_at hl i _ (by rw [Array.getElem?_toList]; exact e0)
    obtain ⟨ht, hop, hd⟩ := sOper_parts hs1
    simp only [List.filterMap_cons, hs2, Option.map_some] at h
    simp only [lexV, e0]
    have ih : ∀ fr S, N ≤ S.n → hops P S0 B (is.filterMap fun i => (sl[i]?).map fun o => (F.contains i, rankH P ops i, o)) K fr S → lexV P ops F S0 B N K is fr S := fun fr S hN h => hops_lex hl hloc h0 is (fun j hj => hlt j (by simp [hj])) fr S hN h
    cases hr : rankH P ops i with
    | some q =>
      rw [hr] at h
      simp only [hops] at h
      split at h
      · rename_i e k zs ho
        obtain ⟨hg, a2, a3, a4, h⟩ := h
        obtain ⟨b1, b2⟩ := h0 i q hr
        obtain ⟨c1, c2⟩ := row?_some a4
        refine .inl ⟨by rw [guardOf_ok hs1, hg]; rfl, ?_⟩
        unfold TH
        simp only [hr]
        refine ⟨e, k, zs.map .sc, _, fun e => a2 (by simpa using e), fill_run (hop.trans ho) (fun e => a2 (by simpa using e)) (fun c hc => by obtain ⟨z, _, rfl⟩ := List.mem_map.1 hc; exact ⟨z, rfl⟩) (.inl rfl) (fun S => ?_), b1, hN, c1, b2, ?_⟩
        · simp only [swp]; exact ⟨a3, by simp, by trivial⟩
        rw [hd] at h
        rw [List.length_map]
        exact ih _ _ hN h
      · rename_i e k bytes zs len cap ho
        obtain ⟨hg, h⟩ := h
        obtain ⟨nn, hn, h⟩ := orK_elim h
        obtain ⟨cc, hc, h⟩ := orK_elim h
        obtain ⟨a1, a2, a3, a5, a6, a4, h⟩ := h
        obtain ⟨b1, b2⟩ := h0 i q hr
        obtain ⟨c1, c2⟩ := row?_some a4
        refine .inl ⟨by rw [guardOf_ok hs1, hg]; rfl, ?_⟩
        unfold TH
        simp only [hr]
        have hz : (zcells zs (nn.toNat * k)).length = nn.toNat * k := by simp [zcells]
        have hne : zcells zs (nn.toNat * k) ≠ [] := fun e => by rw [e] at hz; simp at hz; omega
        have hpos : 0 ≤ nn := by
          rcases Int.lt_or_le nn 0 with q | q
          · rw [show nn.toNat = 0 by omega] at a1; omega
          · exact q
        refine ⟨e, k, zcells zs (nn.toNat * k), .ref (B + q) (zcells zs (nn.toNat * k)).length 0 nn.toNat, hne, fill_run (res := fun l => .ref l (zcells zs (nn.toNat * k)).length 0 nn.toNat) (hop.trans ho) hne (fun c hc => by unfold zcells at hc; obtain ⟨z, _, rfl⟩ := List.mem_map.1 hc; exact ⟨_, rfl⟩) (.inr ⟨_, rfl⟩) (fun S => ?_), b1, hN, c1, b2, ?_⟩
        · simp only [swp, hn, hc, orK_some, hz]; exact ⟨hpos, a2, a3, a5, a6, by trivial, by trivial⟩
        rw [hd] at h
        rw [hz]
        exact ih _ _ hN h
      · rename_i e k len zs ps ho
        obtain ⟨hg, h⟩ := h
        obtain ⟨cs, hcs, h⟩ := orK_elim h
        obtain ⟨a1, a2, a4, h⟩ := h
        obtain ⟨b1, b2⟩ := h0 i q hr
        obtain ⟨c1, c2⟩ := row?_some a4
        refine .inl ⟨by rw [guardOf_ok hs1, hg]; rfl, ?_⟩
        unfold TH
        simp only [hr]
        simp only [plainB, Bool.and_eq_true, Bool.not_eq_true', List.isEmpty_eq_false_iff] at a2
        refine ⟨e, k, cs, .ref (B + q) cs.length 0 len, a2.1, fill_run (res := fun l => .ref l cs.length 0 len) (hop.trans ho) a2.1 (fun c hc => ?_) (.inr ⟨_, rfl⟩) (fun S => ?_), b1, hN, c1, b2, ?_⟩
        · have := List.all_eq_true.1 a2.2 c hc
          split at this
          · exact ⟨_, rfl⟩
          · cases this
        · simp only [swp, hcs, orK_some, a1]; exact ⟨by trivial, by trivial⟩
        rw [hd] at h
        rw [a1]
        exact ih _ _ hN h
      · exact h.elim
    | none =>
      rw [hr] at h
      have hle : (sop P ops[i].op).effG = true → (sop P ops[i].op).loc = true := fun he => by
        simp only [locH, List.all_eq_true, List.mem_range] at hloc
        have := hloc i hi
        simp only [e0, Bool.or_eq_true, Bool.not_eq_true'] at this
        rcases this with h | h
        · rw [he] at h; cases h
        · exact h
      have run : wantA fr s.guard = some true → s.op.fit fr ∧ (nwp P S0 (F.contains i) s.op fr S fun r S' => hops P S0 B (is.filterMap fun i => (sl[i]?).map fun o => (F.contains i, rankH P ops i, o)) K (fr.put s.dst r) S') → GH P ops F S0 B N i ops[i] (fun r S' => lexV P ops F S0 B N K is (fr.put ops[i].dst r) S') fr S := fun hw h =>
        .inl ⟨by rw [guardOf_ok hs1]; exact hw, (nwpH_sound hop hr (by rw [← hop]; exact hle) hN h.1 h.2).mono fun r S' hk => by rw [hd] at hk; exact ih _ _ hk.1 hk.2⟩
      have skip : wantA fr s.guard = some false → hops P S0 B (is.filterMap fun i => (sl[i]?).map fun o => (F.contains i, rankH P ops i, o)) K (fr.put s.dst (.sc undef)) S → GH P ops F S0 B N i ops[i] (fun r S' => lexV P ops F S0 B N K is (fr.put ops[i].dst r) S') fr S := fun hw h => by
        rw [hd] at h
        exact .inr ⟨by rw [guardOf_ok hs1]; exact hw, ih _ _ hN h⟩
      simp only [hops] at h
      split at h
      · rename_i hg
        exact run (by rw [hg]; rfl) h
      · rename_i t want hg
        split at h
        · rename_i b hb
          by_cases e : b = want
          · have h1 := h.1 e
            rw [put_self (by rw [hb, e])] at h1
            exact run (by rw [hg]; simp [wantA, hb, e]) h1
          · have h2 := h.2 e
            rw [put_self (by rw [hb]; cases b <;> cases want <;> simp_all)] at h2
            exact skip (by rw [hg]; simp [wantA, hb]; simpa using e) h2
        · rename_i vs hb
          exact skip (by rw [hg]; simp [wantA, hb]) h
        · exact h.elim

theorem addsE_n : ∀ (fl : List (Nat × Nat)) (S : St), (addsE S fl).n = S.n + fl.length
  | [], S => rfl
  | p :: fl, S => by rw [addsE, addsE_n fl]; simp [St.add]; omega
theorem addsE_ctx : ∀ (fl : List (Nat × Nat)) {G : Ctx}, Rel G → ∃ G' : Ctx, G'.w = G.w ∧ G'.S = addsE G.S fl ∧ Rel G' ∧ Step G G'
  | [], G, h => ⟨G, rfl, rfl, h, Step.refl G⟩
  | p :: fl, G, h => by
    obtain ⟨G', a1, a2, a3, a4⟩ := addsE_ctx fl (virt_rel h p.1 p.2)
    exact ⟨G', a1, a2, a3, (virt_step G p.1 p.2).trans a4⟩
def below (b : Nat) : List (Nat × Option Ob) → Prop
  | [] => True
  | p :: D => p.1 < b ∧ below b D
theorem killD_far {b x : Nat} (hx : b ≤ x) : ∀ (D : List (Nat × Option Ob)) (S : St), below b D → S.m x = none → (killD D S).m x = none
  | [], S, _, h => h
  | (y, o) :: D, S, hb, h => by
    have hne : x ≠ y := by have := hb.1; simp only at this; omega
    cases o with
    | none => rw [killD_cons]; exact killD_far hx D _ hb.2 (by simp [St.kill, hne, h])
    | some o => rw [killD_set]; exact killD_far hx D _ hb.2 (by simp [St.set, hne, h])
theorem ord_lt (h : (ordH P ops).length = ops.size) (hok : okOrdH P ops F [] (ordH P ops) = true) : ∀ i ∈ ordH P ops, i < ops.size := by
  have key : ∀ (todo done : List Nat), okOrdH P ops F done todo = true → ∀ i ∈ todo, i < ops.size := by
    intro todo
    induction todo with
    | nil => intro done _ i hi; simp at hi
    | cons x rest ih =>
      intro done h i hi
      simp only [okOrdH, Bool.and_eq_true, decide_eq_true_eq] at h
      rcases List.mem_cons.1 hi with rfl | hi
      · exact h.1.1.1.1
      · exact ih _ h.2 i hi
  exact key _ _ hok
theorem swp_regH {fl : List (Nat × Nat)} {l : List (Bool × Option Nat × SOper)} {fr : Fr} {S : St} (D : List (Nat × Option Ob)) (hD : below S.n D) (h : hops P (killD D S) S.n l (fun fr S => Q .normal fr S) fr (addsE S fl)) : SWp P n (.regH fl l) Q fr S := fun c hc => by
  have hc0 := hc
  cases c <;> simp only [strip, Option.bind_eq_some_iff] at hc
  case region id ops draw =>
    obtain ⟨rfl, ⟨l', hl, rfl⟩, rfl, hb1, hb2⟩ := strip_H hc0
    intro G a hS hR hf
    subst hS
    obtain ⟨G1, w1, s1, r1, t1⟩ := addsE_ctx (flT P ops) hR
    have hB := hb1
    simp only [lexH, Bool.and_eq_true, beq_iff_eq] at hB
    have hlen : (flT P ops).length = (flH P ops).length := by simp [flT]
    have hn1 : G1.S.n = G.S.n + (flH P ops).length := by rw [s1, addsE_n, hlen]
    have hz : ∀ i q, rankH P ops i = some q → G.S.n + q < G.S.n + (flH P ops).length ∧ (killD D G.S).m (G.S.n + q) = none := fun i q hq => by
      unfold rankH at hq
      split at hq
      · rename_i hi
        cases hq
        have hm : i ∈ flH P ops := by
          rw [flH, List.mem_filter]
          refine ⟨?_, hi⟩
          unfold isFl at hi
          split at hi
          · rename_i o ho
            exact List.mem_range.2 (Array.getElem?_eq_some_iff.1 ho).1
          · cases hi
        have := List.idxOf_lt_length_of_mem hm
        exact ⟨by omega, killD_far (by omega) D _ hD (hR.dom _ (by omega))⟩
      · cases hq
    have hx := hops_lex (n := n) (F := flagG P false ops) (B := G.S.n) (N := G.S.n + (flH P ops).length) hl hB.1.2 hz (ordH P ops) (ord_lt hB.1.1.2 hB.2) fr (addsE G.S (flT P ops)) (by rw [addsE_n, hlen]; exact Nat.le_refl _) h
    have hy := awp_regionH (id := id) hb2 hb1 (fun i o ho => mapM_get hl i o (by simpa using ho)) _ _ _ hx G1 a s1 r1 (hf.step t1)
    rw [w1] at hy
    exact wp_mono hy fun e a' w' ⟨G', fr', g1, g2, g3, g4, g5⟩ => ⟨G', fr', g1, g2, t1.trans g3, g4, g5⟩
  case cond => obtain ⟨q, _, hc⟩ := hc; split at hc <;> (first | (cases hc; done) | (simp [Option.bind_eq_some_iff] at hc; done))
  all_goals simp at hc
end
end Go.Proofs.Ytfihpbeihlpfcaa.Ev
