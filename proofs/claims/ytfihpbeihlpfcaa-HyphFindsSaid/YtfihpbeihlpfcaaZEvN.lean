/- Regions that draw their order and turn the store. -/
import Derived.Test.YtfihpbeihlpfcaaZEvO
set_option linter.unusedVariables false
set_option linter.unusedSimpArgs false
namespace Go.Proofs.Ytfihpbeihlpfcaa.Ev
open Go Go.RowKit

/-- The same rows in the same places, of the same lengths. -/
def shpO : Ob → Ob → Prop
  | .row e k cs, o => ∃ cs', o = .row e k cs' ∧ cs'.length = cs.length
  | o, o' => o' = o
def Shp (S S' : St) : Prop := S'.n = S.n ∧ ∀ l o, S.m l = some o → ∃ o', S'.m l = some o' ∧ shpO o o'
theorem shpO.refl (o : Ob) : shpO o o := by cases o <;> simp [shpO]
theorem shpO.trans {a b c : Ob} (h : shpO a b) (k : shpO b c) : shpO a c := by
  cases a with
  | row e q cs =>
    obtain ⟨cs', rfl, h2⟩ := h
    obtain ⟨cs2, rfl, h3⟩ := k
    exact ⟨cs2, rfl, by omega⟩
  | map es => simp only [shpO] at h; subst h; exact k
  | iter i => simp only [shpO] at h; subst h; exact k
theorem Shp.refl (S : St) : Shp S S := ⟨rfl, fun l o h => ⟨o, h, shpO.refl o⟩⟩
theorem Shp.trans {A B C : St} (h : Shp A B) (k : Shp B C) : Shp A C := ⟨k.1.trans h.1, fun l o ho => by
  obtain ⟨o', h1, h2⟩ := h.2 l o ho
  obtain ⟨o2, h3, h4⟩ := k.2 l o' h1
  exact ⟨o2, h3, h2.trans h4⟩⟩
theorem row?_shp {S S' : St} (h : Shp S S') {l tot : Nat} {r : TypeId × Nat × List AV} (hr : S.row? l tot = some r) : ∃ r', S'.row? l tot = some r' := by
  obtain ⟨h1, h2⟩ := row?_some hr
  obtain ⟨o', h3, cs', rfl, h4⟩ := h.2 _ _ h1
  exact ⟨(r.1, r.2.1, cs'), by unfold St.row?; simp [h3, h4, h2]⟩

section
variable {P : Program}
/-- What is not touched by a store gives the same in every store of that shape. -/
theorem ins_of {s : SOp} {fr : Fr} {S : St} {K : AV → Prop} (hq : s.ins = true) (h : dwp P s fr S K) : ∃ r, K r ∧ ∀ S', Shp S S' → swp P s fr S' fun r' S'' => r' = r ∧ S'' = S' := by
  cases s <;> simp only [SOp.ins, Bool.false_eq_true] at hq
  case mv x => exact ⟨_, h, fun S' _ => ⟨by trivial, by trivial⟩⟩
  case pick c a b =>
    simp only [dwp, swp] at h ⊢
    split at h
    · rename_i t ht
      cases t
      · exact ⟨_, h.2 rfl, fun S' _ => by simp [ht]⟩
      · exact ⟨_, h.1 rfl, fun S' _ => by simp [ht]⟩
    · exact h.elim
  case build zs ps =>
    simp only [dwp, swp] at h ⊢
    obtain ⟨c, hc, hK⟩ := orK_elim h
    exact ⟨_, hK, fun S' hE => by simp only [hc, orK_some]; exact ⟨by trivial, by trivial⟩⟩
  case nilck x =>
    simp only [dwp, swp] at h ⊢
    split at h
    · rename_i l tot off he
      obtain ⟨r, hr, h⟩ := orK_elim h
      exact ⟨_, h, fun S' hE => by obtain ⟨r', hr'⟩ := row?_shp hE hr; simp only [he, hr', orK_some]; exact ⟨by trivial, by trivial⟩⟩
    · rename_i cs he
      exact ⟨_, h, fun S' hE => by simp only [he]; exact ⟨by trivial, by trivial⟩⟩
    · rename_i f cs he
      exact ⟨_, h, fun S' hE => by simp only [he]; exact ⟨by trivial, by trivial⟩⟩
    · exact h.elim
  case bin op x y =>
    simp only [dwp, swp] at h ⊢
    split at h
    · rename_i u v hu hv
      have key : ∀ {K : Value → Prop}, binV op u v K → ∃ r, K r ∧ ∀ K' : Value → Prop, K' r → binV op u v K' := by
        intro K h
        unfold binV at h ⊢
        split at h
        · cases op <;> simp only at h ⊢
          all_goals first
            | exact ⟨_, h.2, fun K' hk => ⟨h.1, hk⟩⟩
            | exact ⟨_, h.2.2, fun K' hk => ⟨h.1, h.2.1, hk⟩⟩
        · cases op <;> simp only at h ⊢
          all_goals first
            | exact h.elim
            | exact ⟨_, h.2, fun K' hk => ⟨h.1, hk⟩⟩
            | exact ⟨_, h, fun K' hk => hk⟩
        · exact h.elim
      obtain ⟨r, h1, h2⟩ := key h
      exact ⟨_, h1, fun S' hE => h2 _ ⟨rfl, by trivial⟩⟩
    · exact h.elim
  case un op x =>
    simp only [dwp, swp] at h ⊢
    split at h
    · rename_i u hu
      unfold unV at h
      split at h
      · exact ⟨_, h, fun S' hE => by simp only [hu, unV]; exact ⟨by trivial, by trivial⟩⟩
      · exact ⟨_, h, fun S' hE => by simp only [hu, unV]; exact ⟨by trivial, by trivial⟩⟩
      · exact h.elim
    · exact h.elim
  case cvi k x =>
    simp only [dwp, swp] at h ⊢
    split at h
    · rename_i he; exact ⟨_, h, fun S' hE => by simp [he]⟩
    · exact h.elim
  case cvs x =>
    simp only [dwp, swp] at h ⊢
    split at h
    · rename_i he; exact ⟨_, h, fun S' hE => by simp [he]⟩
    · exact h.elim
  case mkbnd f cs => exact ⟨_, h, fun S' _ => ⟨by trivial, by trivial⟩⟩
  case mkfunc f cs => exact ⟨_, h, fun S' _ => ⟨by trivial, by trivial⟩⟩
  case mkif t x => exact ⟨_, h, fun S' _ => ⟨by trivial, by trivial⟩⟩
  case faddr off x =>
    simp only [dwp, swp] at h ⊢
    split at h
    · rename_i l tot o he
      obtain ⟨r, hr, h⟩ := orK_elim h
      exact ⟨_, h, fun S' hE => by obtain ⟨r', hr'⟩ := row?_shp hE hr; simp only [he, hr', orK_some]; exact ⟨by trivial, by trivial⟩⟩
    · rename_i cs he
      exact ⟨_, h, fun S' hE => by simp only [he]; exact ⟨by trivial, by trivial⟩⟩
    · exact h.elim
  case fld k off x =>
    simp only [dwp, swp] at h ⊢
    split at h
    · rename_i cs he
      cases k with
      | none =>
        obtain ⟨c, hc, hK⟩ := orK_elim h
        exact ⟨c, hK, fun S' hE => by simp only [he, hc, orK_some]; exact ⟨by trivial, by trivial⟩⟩
      | some k => exact ⟨_, h.2, fun S' hE => by simp only [he]; exact ⟨h.1, by trivial, by trivial⟩⟩
    · exact h.elim
  case iaddr k x i =>
    simp only [dwp, swp] at h ⊢
    obtain ⟨j, hj, h⟩ := orK_elim h
    split at h
    · rename_i n cs he
      exact ⟨_, h.2.2.2, fun S' hE => by simp only [hj, he, orK_some]; exact ⟨h.1, h.2.1, h.2.2.1, by trivial, by trivial⟩⟩
    · rename_i l tot off n he
      obtain ⟨r, hr, h0, h1, hK⟩ := orK_elim h
      exact ⟨_, hK, fun S' hE => by obtain ⟨r', hr'⟩ := row?_shp hE hr; simp only [hj, he, hr', orK_some]; exact ⟨h0, h1, by trivial, by trivial⟩⟩
    · exact h.elim
  case iaddrA n k x i =>
    simp only [dwp, swp] at h ⊢
    obtain ⟨j, hj, h⟩ := orK_elim h
    split at h
    · rename_i l tot off he
      obtain ⟨r, hr, h0, h1, hK⟩ := orK_elim h
      exact ⟨_, hK, fun S' hE => by obtain ⟨r', hr'⟩ := row?_shp hE hr; simp only [hj, he, hr', orK_some]; exact ⟨h0, h1, by trivial, by trivial⟩⟩
    · rename_i cs he
      exact ⟨_, h.2.2, fun S' hE => by simp only [hj, he, orK_some]; exact ⟨h.1, h.2.1, by trivial, by trivial⟩⟩
    · exact h.elim
  case ixs x i =>
    simp only [dwp, swp] at h ⊢
    obtain ⟨j, hj, h⟩ := orK_elim h
    split at h
    · rename_i s he
      exact ⟨_, h.2.2, fun S' hE => by simp only [hj, he, orK_some]; exact ⟨h.1, h.2.1, by trivial, by trivial⟩⟩
    · exact h.elim
  case ixa n k g x i =>
    simp only [dwp, swp] at h ⊢
    obtain ⟨j, hj, h⟩ := orK_elim h
    split at h
    · rename_i cs he
      obtain ⟨h0, h1, h2⟩ := h
      cases g with
      | true =>
        simp only [if_true] at h2
        exact ⟨_, h2.2, fun S' hE => by simp only [hj, he, orK_some, if_true]; exact ⟨h0, h1, h2.1, by trivial, by trivial⟩⟩
      | false =>
        simp only [Bool.false_eq_true, if_false] at h2
        obtain ⟨c, hc, hK⟩ := orK_elim h2
        exact ⟨_, hK, fun S' hE => by simp only [hj, he, orK_some, Bool.false_eq_true, if_false, hc]; exact ⟨h0, h1, by trivial, by trivial⟩⟩
    · exact h.elim
  case ext x i =>
    simp only [dwp, swp] at h ⊢
    split at h
    · rename_i vs he
      obtain ⟨c, hc, hK⟩ := orK_elim h
      exact ⟨c, hK, fun S' hE => by simp only [he, hc, orK_some]; exact ⟨by trivial, by trivial⟩⟩
    · exact h.elim
  case capL x =>
    simp only [dwp, swp] at h ⊢
    split at h
    · rename_i he; exact ⟨_, h, fun S' hE => by simp only [he]; exact ⟨by trivial, by trivial⟩⟩
    · exact h.elim
  case lenS x =>
    simp only [dwp, swp] at h ⊢
    split at h
    · rename_i s he; exact ⟨_, h, fun S' hE => by simp only [he]; exact ⟨by trivial, by trivial⟩⟩
    · exact h.elim
  case lenL x =>
    simp only [dwp] at h
    split at h
    · rename_i n cs he
      exact ⟨_, h, fun S' hE => by simp only [swp, he]; exact fun _ => ⟨by trivial, by trivial⟩⟩
    · rename_i l tot off n he
      obtain ⟨r, hr, hK⟩ := orK_elim h
      exact ⟨_, hK, fun S' hE => by obtain ⟨r', hr'⟩ := row?_shp hE hr; simp only [swp, he, hr', orK_some]; exact fun _ => ⟨by trivial, by trivial⟩⟩
    · rename_i c he
      exact ⟨_, h, fun S' hE => by simp only [swp, he]; exact ⟨by trivial, by trivial⟩⟩
    · exact h.elim
  case min x y =>
    simp only [dwp, swp] at h ⊢
    split at h
    · rename_i u v hu hv
      unfold minV at h ⊢
      split at h
      · exact ⟨_, h, fun S' hE => by simp only [hu, hv]; exact ⟨by trivial, by trivial⟩⟩
      · exact h.elim
    · exact h.elim
  case max x y =>
    simp only [dwp, swp] at h ⊢
    split at h
    · rename_i u v hu hv
      unfold maxV at h ⊢
      split at h
      · exact ⟨_, h, fun S' hE => by simp only [hu, hv]; exact ⟨by trivial, by trivial⟩⟩
      · exact h.elim
    · exact h.elim
  case max3 x y z =>
    simp only [dwp, swp] at h ⊢
    split at h
    · rename_i u v w hu hv hw
      unfold max3V at h ⊢
      split at h
      · exact ⟨_, h, fun S' hE => by simp only [hu, hv, hw]; exact ⟨by trivial, by trivial⟩⟩
      · exact h.elim
    · exact h.elim

/-- A store keeps the shape. -/
theorem store_shp {k : Nat} {a x : SA} {fr : Fr} {S : St} {K : AV → St → Prop} (h : swp P (.store k a x) fr S K) : ∃ r S', K r S' ∧ (Shp S S' ∧ Shp S' S) ∧ swp P (.store k a x) fr S fun r' S2 => r' = r ∧ S2 = S' := by
  simp only [swp] at h ⊢
  split at h
  · rename_i l tot off he
    obtain ⟨r, hr, h⟩ := orK_elim h
    obtain ⟨xs, hxs, h1, h2, hK⟩ := orK_elim h
    obtain ⟨hm, hlen⟩ := row?_some hr
    have hl : (r.2.2.take off ++ xs ++ r.2.2.drop (off + k)).length = r.2.2.length := by simp; omega
    refine ⟨_, _, hK, ⟨⟨rfl, fun l' o ho => ?_⟩, ⟨rfl, fun l' o ho => ?_⟩⟩, by simp only [hr, hxs, orK_some]; exact ⟨h1, h2, by trivial, by trivial⟩⟩
    · simp only [St.set]
      by_cases e : l' = l
      · subst e
        rw [hm] at ho
        cases ho
        exact ⟨_, by simp, _, rfl, hl⟩
      · exact ⟨o, by simp [e, ho], shpO.refl o⟩
    · simp only [St.set] at ho
      by_cases e : l' = l
      · subst e
        simp at ho
        subst ho
        exact ⟨_, hm, _, rfl, by rw [← hl, List.append_assoc]⟩
      · simp [e] at ho
        exact ⟨o, ho, shpO.refl o⟩
  · exact h.elim
end

/-! ### what an operation does, by its kind -/
def InsSem (P : Program) (o : Oper) (fr : Fr) (S : St) (r : AV) : Prop :=
  ∀ (G : Ctx) (ρ : Operand → Value), Shp S G.S → Rel G → (∀ x q, x ∈ o.op.operands → sa x = some q → Rv G (evS fr q) (ρ x)) → OpRun P (execOp ρ o) G fun r' S' => r' = r ∧ S' = G.S
def EffSem (P : Program) (o : Oper) (fr : Fr) (S : St) (K : AV → St → Prop) : Prop :=
  ∀ (G : Ctx) (ρ : Operand → Value), G.S = S → Rel G → (∀ x q, x ∈ o.op.operands → sa x = some q → Rv G (evS fr q) (ρ x)) → OpRun P (execOp ρ o) G K

/-- Operation o, carried out at (fr, S), leaves r and S' (for K: where the kind is neither a store nor quiet, r and S' are only told by K). -/
def TE (q : Oper → Bool) (P : Program) (o : Oper) (fr : Fr) (S : St) (K : AV → St → Prop) : Prop :=
  if (sop P o.op).isStore = true then ∃ r S', K r S' ∧ (Shp S S' ∧ Shp S' S) ∧ EffSem P o fr S fun r' S2 => r' = r ∧ S2 = S'
  else if (sop P o.op).effC (q o) = true then EffSem P o fr S K
  else if (sop P o.op).ins = true then ∃ r, K r S ∧ r.bel S.n ∧ InsSem P o fr S r
  else ∃ r, K r S ∧ r.bel S.n ∧ PureSem P o fr S r

def qE (q : Oper → Bool) (P : Program) (ops : Array Oper) (i : Nat) (K : Fr → St → Prop) (fr : Fr) (S : St) : Prop :=
  match ops[i]? with
  | none => K fr S
  | some o => (wantA fr (guardOf ops o) = some true ∧ TE q P o fr S fun r S' => K (fr.put o.dst r) S') ∨ (wantA fr (guardOf ops o) = some false ∧ K (fr.put o.dst (.sc undef)) S)

def wpAnyE (q : Oper → Bool) (P : Program) (ops : Array Oper) (Q : Fr → St → Prop) : Nat → Array Bool → Fr → St → Prop
  | 0, listed, fr, S => Region.ready .any ops listed = [] ∧ Q fr S
  | fuel + 1, listed, fr, S => (Region.ready .any ops listed = [] → Q fr S) ∧ ∀ i ∈ Region.ready .any ops listed, qE q P ops i (wpAnyE q P ops Q fuel (listed.setIfInBounds i true)) fr S

section
variable {P : Program} {q : Oper → Bool} {n : Nat} {ops : Array Oper}
theorem TE.mono {o : Oper} {fr : Fr} {S : St} {K K' : AV → St → Prop} (h : TE q P o fr S K) (hk : ∀ r S', K r S' → K' r S') : TE q P o fr S K' := by
  unfold TE at *
  split at h
  · obtain ⟨r, S', h1, h2⟩ := h; rw [if_pos (by assumption)]; exact ⟨r, S', hk _ _ h1, h2⟩
  · rename_i e1
    rw [if_neg e1]
    split at h
    · rw [if_pos (by assumption)]; exact fun G ρ a b c => (h G ρ a b c).mono hk
    · rename_i e2
      rw [if_neg e2]
      split at h
      · obtain ⟨r, h1, h2⟩ := h; rw [if_pos (by assumption)]; exact ⟨r, hk _ _ h1, h2⟩
      · rename_i e3
        rw [if_neg e3]
        obtain ⟨r, h1, h2⟩ := h; exact ⟨r, hk _ _ h1, h2⟩

theorem qE_mono {i : Nat} {fr : Fr} {S : St} {K K' : Fr → St → Prop} (h : ∀ fr S, K fr S → K' fr S) (hh : qE q P ops i K fr S) : qE q P ops i K' fr S := by
  unfold qE at *
  split
  · exact h _ _ (by simpa [*] using hh)
  · rename_i o ho
    simp only [ho] at hh
    rcases hh with ⟨h1, h2⟩ | ⟨h1, h2⟩
    · exact .inl ⟨h1, h2.mono fun r S' => h _ _⟩
    · exact .inr ⟨h1, h _ _ h2⟩

theorem InsSem.put {S : St} {o : Oper} {r r' : AV} {fr : Fr} {d : Option Nat} (h : ∀ t, d = some t → t ∉ o.looksAt ops) : InsSem P o (fr.put d r') S r ↔ InsSem P o fr S r :=
  ⟨fun h2 G ρ a b c => h2 G ρ a b fun x q hx hq => by rw [evS_put h hx hq]; exact c x q hx hq,
   fun h2 G ρ a b c => h2 G ρ a b fun x q hx hq => by have := c x q hx hq; rwa [evS_put h hx hq] at this⟩
theorem EffSem.put {S : St} {o : Oper} {K : AV → St → Prop} {r' : AV} {fr : Fr} {d : Option Nat} (h : ∀ t, d = some t → t ∉ o.looksAt ops) : EffSem P o (fr.put d r') S K ↔ EffSem P o fr S K :=
  ⟨fun h2 G ρ a b c => h2 G ρ a b fun x q hx hq => by rw [evS_put h hx hq]; exact c x q hx hq,
   fun h2 G ρ a b c => h2 G ρ a b fun x q hx hq => by have := c x q hx hq; rwa [evS_put h hx hq] at this⟩
theorem PureSem.put {S : St} {o : Oper} {r r' : AV} {fr : Fr} {d : Option Nat} (h : ∀ t, d = some t → t ∉ o.looksAt ops) : PureSem P o (fr.put d r') S r ↔ PureSem P o fr S r :=
  ⟨fun h2 G ρ a b c => h2 G ρ a b fun x q hx hq => by rw [evS_put h hx hq]; exact c x q hx hq,
   fun h2 G ρ a b c => h2 G ρ a b fun x q hx hq => by have := c x q hx hq; rwa [evS_put h hx hq] at this⟩
theorem TE.put {S : St} {o : Oper} {K : AV → St → Prop} {r' : AV} {fr : Fr} {d : Option Nat} (h : ∀ t, d = some t → t ∉ o.looksAt ops) : TE q P o (fr.put d r') S K ↔ TE q P o fr S K := by
  unfold TE
  simp only [InsSem.put h, EffSem.put h, PureSem.put h]

/-- Two that may change places. -/
theorem TE.swap {oi oj : Oper} {fr : Fr} {S : St} {K : AV → AV → St → Prop} (hc : commB (q oi) (q oj) (sop P oi.op) (sop P oj.op) = true) (h : TE q P oi fr S fun ri Si => TE q P oj fr Si fun rj Sj => K ri rj Sj) :
    TE q P oj fr S fun rj Sj => TE q P oi fr Sj fun ri Si => K ri rj Si := by
  simp only [commB, Bool.or_eq_true, Bool.and_eq_true, Bool.not_eq_true'] at hc
  have se : ∀ s : SOp, s.isStore = true → s.ins = false := by intro s; cases s <;> simp [SOp.isStore, SOp.ins]
  have ie : ∀ {b : Bool} (s : SOp), s.ins = true → s.effC b = false ∧ s.isStore = false := by intro b s; cases s <;> simp [SOp.isStore, SOp.ins, SOp.effC, SOp.eff]
  have es : ∀ {b : Bool} (s : SOp), s.effC b = false → s.isStore = false := by intro b s; cases s <;> simp [SOp.isStore, SOp.effC, SOp.eff]
  rcases hc with (⟨h1, h2⟩ | ⟨h1, h2⟩) | ⟨h1, h2⟩
  · unfold TE at *
    simp only [h1, h2, es _ h1, es _ h2, Bool.false_eq_true, if_false] at h ⊢
    by_cases ei : (sop P oi.op).ins = true <;> by_cases ej : (sop P oj.op).ins = true <;> simp only [ei, ej, Bool.false_eq_true, if_false, if_true] at h ⊢ <;>
      (obtain ⟨ri, ⟨rj, h5, h6⟩, h4⟩ := h; exact ⟨rj, ⟨ri, h5, h4⟩, h6⟩)
  · unfold TE at *
    simp only [h1, h2, (ie (b := q oi) _ h1).1, (ie (b := q oi) _ h1).2, Bool.false_eq_true, if_false, if_true] at h ⊢
    obtain ⟨ri, ⟨rj, Sj, h5, h6, h7⟩, h4, h8⟩ := h
    exact ⟨rj, Sj, ⟨ri, h5, by rw [h6.1.1]; exact h4, fun G ρ a b c => h8 G ρ (h6.1.trans a) b c⟩, h6, h7⟩
  · unfold TE at *
    simp only [h1, h2, (ie (b := q oj) _ h2).1, (ie (b := q oj) _ h2).2, Bool.false_eq_true, if_false, if_true] at h ⊢
    obtain ⟨ri, Si, ⟨rj, h5, h6, h7⟩, h4, h8⟩ := h
    exact ⟨rj, ⟨ri, Si, h5, h4, h8⟩, by rw [← h4.1.1]; exact h6, fun G ρ a b c => h7 G ρ (h4.2.trans a) b c⟩

/-- A step, guard and all. -/
def GE (q : Oper → Bool) (P : Program) (ops : Array Oper) (o : Oper) (K : AV → St → Prop) (fr : Fr) (S : St) : Prop :=
  (wantA fr (guardOf ops o) = some true ∧ TE q P o fr S K) ∨ (wantA fr (guardOf ops o) = some false ∧ K (.sc undef) S)
theorem GE.put {S : St} {o : Oper} {K : AV → St → Prop} {r' : AV} {fr : Fr} {d : Option Nat} (h : ∀ t, d = some t → t ∉ o.looksAt ops) : GE q P ops o K (fr.put d r') S ↔ GE q P ops o K fr S := by
  unfold GE
  rw [want_put h, TE.put h]
theorem GE.mono {o : Oper} {fr : Fr} {S : St} {K K' : AV → St → Prop} (h : GE q P ops o K fr S) (hk : ∀ r S', K r S' → K' r S') : GE q P ops o K' fr S := by
  rcases h with ⟨h1, h2⟩ | ⟨h1, h2⟩
  · exact .inl ⟨h1, h2.mono hk⟩
  · exact .inr ⟨h1, hk _ _ h2⟩
theorem GE.want {o : Oper} {fr : Fr} {S : St} {K : AV → St → Prop} {b : Bool} (h : GE q P ops o K fr S) (hw : wantA fr (guardOf ops o) = some b) : (b = true ∧ TE q P o fr S K) ∨ (b = false ∧ K (.sc undef) S) := by
  rcases h with ⟨h1, h2⟩ | ⟨h1, h2⟩
  · rw [hw] at h1; cases h1; exact .inl ⟨rfl, h2⟩
  · rw [hw] at h1; cases h1; exact .inr ⟨rfl, h2⟩
theorem GE.swap {oi oj : Oper} {fr : Fr} {S : St} {K : AV → AV → St → Prop} (hc : commB (q oi) (q oj) (sop P oi.op) (sop P oj.op) = true) (hnj : ∃ b, wantA fr (guardOf ops oj) = some b)
    (h : GE q P ops oi (fun ri Si => GE q P ops oj (fun rj Sj => K ri rj Sj) fr Si) fr S) :
    GE q P ops oj (fun rj Sj => GE q P ops oi (fun ri Si => K ri rj Si) fr Sj) fr S := by
  obtain ⟨b, hb⟩ := hnj
  rcases h with ⟨h1, h2⟩ | ⟨h1, h2⟩
  · cases b with
    | true =>
      have h3 : TE q P oi fr S fun ri Si => TE q P oj fr Si fun rj Sj => K ri rj Sj := h2.mono fun r S' hg => by
        rcases hg.want hb with ⟨_, h⟩ | ⟨h, _⟩
        · exact h
        · cases h
      exact .inl ⟨hb, (TE.swap hc h3).mono fun r S' hg => .inl ⟨h1, hg⟩⟩
    | false =>
      exact .inr ⟨hb, .inl ⟨h1, h2.mono fun r S' hg => by
        rcases hg.want hb with ⟨h, _⟩ | ⟨_, h⟩
        · cases h
        · exact h⟩⟩
  · cases b with
    | true =>
      rcases h2.want hb with ⟨_, h⟩ | ⟨h, _⟩
      · exact .inl ⟨hb, h.mono fun r S' hg => .inr ⟨h1, hg⟩⟩
      · cases h
    | false =>
      rcases h2.want hb with ⟨h, _⟩ | ⟨_, h⟩
      · cases h
      · exact .inr ⟨hb, .inr ⟨h1, h⟩⟩
theorem GE.some {oi oj : Oper} {fr : Fr} {S : St} {K : AV → St → Prop} (hc : commB (q oi) (q oj) (sop P oi.op) (sop P oj.op) = true) (h : GE q P ops oi K fr S) : ∃ r S', K r S' := by
  rcases h with ⟨_, h⟩ | ⟨_, h⟩
  · have ie : ∀ {b : Bool} (s : SOp), s.ins = true → s.effC b = false := by intro b s; cases s <;> simp [SOp.ins, SOp.effC, SOp.eff]
    unfold TE at h
    split at h
    · obtain ⟨r, S', h, _⟩ := h; exact ⟨r, S', h⟩
    · rename_i e
      split at h
      · rename_i e2
        simp only [commB, Bool.or_eq_true, Bool.and_eq_true, Bool.not_eq_true'] at hc
        rcases hc with (⟨h1, h2⟩ | ⟨h1, h2⟩) | ⟨h1, h2⟩
        · rw [h1] at e2; cases e2
        · rw [ie _ h1] at e2; cases e2
        · exact absurd h1 e
      · split at h <;> (obtain ⟨r, h, _⟩ := h; exact ⟨r, _, h⟩)
  · exact ⟨_, _, h⟩

theorem qE_iff {i : Nat} {o : Oper} {K : Fr → St → Prop} {fr : Fr} {S : St} (ho : ops[i]? = some o) : qE q P ops i K fr S ↔ GE q P ops o (fun r S' => K (fr.put o.dst r) S') fr S := by
  unfold qE GE
  simp only [ho]

/-- i before j may be j before i. -/
theorem qE_put {i j : Nat} {oi oj : Oper} (hi : ops[i]? = some oi) (hj : ops[j]? = some oj) (hap : oi.apart ops oj = true) (hc : commB (q oi) (q oj) (sop P oi.op) (sop P oj.op) = true) {K : Fr → St → Prop} {fr : Fr} {S : St}
    (h : qE q P ops i (qE q P ops j K) fr S) : qE q P ops j (qE q P ops i K) fr S := by
  obtain ⟨h1, h2, h3⟩ := Oper.apart_spec hap
  rw [qE_iff hi] at h
  have h' : GE q P ops oi (fun ri Si => GE q P ops oj (fun rj Sj => K ((fr.put oj.dst rj).put oi.dst ri) Sj) fr Si) fr S := h.mono fun ri Si hg => by
    rw [qE_iff hj, GE.put h1] at hg
    exact hg.mono fun rj Sj hk => by rw [Fr.put_comm (d := oi.dst) (e := oj.dst) h2] at hk; exact hk
  have hnj : ∃ b, wantA fr (guardOf ops oj) = some b := by
    obtain ⟨_, _, hg⟩ := h'.some hc
    rcases hg with ⟨h, _⟩ | ⟨h, _⟩ <;> exact ⟨_, h⟩
  have h4 := GE.swap (oi := oi) (oj := oj) (K := fun ri rj Sj => K ((fr.put oj.dst rj).put oi.dst ri) Sj) hc hnj h'
  rw [qE_iff hj]
  refine h4.mono fun rj Sj hg => ?_
  rw [qE_iff hi, GE.put h3]
  exact hg

theorem wpAnyE_first {Q : Fr → St → Prop} {i : Nat} {oi : Oper} (hi : ops[i]? = some oi) :
    ∀ (fuel : Nat) (listed : Array Bool) (fr : Fr) (S : St),
      (∀ j oj, ops[j]? = some oj → j ≠ i → listed.getD j true = false → ¬ Aft ops i j → oi.apart ops oj = true ∧ commB (q oi) (q oj) (sop P oi.op) (sop P oj.op) = true) →
      (∀ j, Aft ops i j → listed.getD j false = false) →
      i ∈ Region.ready .any ops listed →
      qE q P ops i (wpAnyE q P ops Q fuel (listed.setIfInBounds i true)) fr S → wpAnyE q P ops Q (fuel + 1) listed fr S := by
  intro fuel
  induction fuel with
  | zero =>
    intro listed fr S hfree hinv hr H
    refine ⟨fun h => (by rw [h] at hr; cases hr), fun j hj => ?_⟩
    by_cases hji : j = i
    · subst hji; exact H
    · obtain ⟨hjun, oj, hoj, hall⟩ := mem_ready.1 hj
      have hiun := (mem_ready.1 hr).1
      have hiun' : listed.getD i false = false := by
        rcases Nat.lt_or_ge i listed.size with h' | h'
        · simpa [h'] using hiun
        · simp [Array.getElem?_eq_none h'] at hiun
      have hnot : ¬ Aft ops i j := fun h => by
        cases h with
        | here ho he hb heq =>
          rw [hoj] at ho; cases ho
          have := hall _ he hb
          rw [heq, hiun'] at this
          cases this
        | there ho he hb h' =>
          rw [hoj] at ho; cases ho
          have := hall _ he hb
          rw [hinv _ h'] at this
          cases this
      obtain ⟨hap, hc⟩ := hfree j oj hoj hji hjun hnot
      have h2 := ready_mono hj hji
      rw [qE_iff hi] at H
      obtain ⟨_, _, H⟩ := H.some hc
      have := H.1
      rw [this] at h2
      cases h2
  | succ fuel ih =>
    intro listed fr S hfree hinv hr H
    refine ⟨fun h => (by rw [h] at hr; cases hr), fun j hj => ?_⟩
    by_cases hji : j = i
    · subst hji; exact H
    · obtain ⟨hjun, oj, hoj, hall⟩ := mem_ready.1 hj
      have hiun := (mem_ready.1 hr).1
      have hiun' : listed.getD i false = false := by
        rcases Nat.lt_or_ge i listed.size with h' | h'
        · simpa [h'] using hiun
        · simp [Array.getElem?_eq_none h'] at hiun
      have hnot : ¬ Aft ops i j := fun h => by
        cases h with
        | here ho he hb heq =>
          rw [hoj] at ho; cases ho
          have := hall _ he hb
          rw [heq, hiun'] at this
          cases this
        | there ho he hb h' =>
          rw [hoj] at ho; cases ho
          have := hall _ he hb
          rw [hinv _ h'] at this
          cases this
      obtain ⟨hap, hc⟩ := hfree j oj hoj hji hjun hnot
      have H2 : qE q P ops i (qE q P ops j (wpAnyE q P ops Q fuel ((listed.setIfInBounds i true).setIfInBounds j true))) fr S := qE_mono (fun fr S h => h.2 j (ready_mono hj hji)) H
      refine qE_mono (fun fr' S' h3 => ih (listed.setIfInBounds j true) fr' S' ?_ ?_ (ready_mono hr (Ne.symm hji)) ?_) (qE_put hi hoj hap hc H2)
      · intro k ok hk hki hun hno
        refine hfree k ok hk hki ?_ hno
        by_cases hjk : j = k
        · subst hjk; exact hjun
        · rw [getD_set_ne true hjk] at hun; exact hun
      · intro k hk
        by_cases hjk : j = k
        · subst hjk; exact absurd hk hnot
        · rw [getD_set_ne false hjk]; exact hinv k hk
      · rw [Array.setIfInBounds_comm _ _ hji]
        exact h3

/-- One walk in the order of the text. -/
def lexS (q : Oper → Bool) (P : Program) (ops : Array Oper) (Q : Fr → St → Prop) : List Oper → Fr → St → Prop
  | [], fr, S => Q fr S
  | o :: l, fr, S => GE q P ops o (fun r S' => lexS q P ops Q l (fr.put o.dst r) S') fr S

theorem back_lt (hb : backB ops = true) {i j : Nat} (h : Aft ops i j) : i < j := by
  have one : ∀ {j : Nat} {o : Oper} {e : Edge}, ops[j]? = some o → e ∈ o.after → Region.binds .any e = true → e.on < j := fun {j o e} ho he hbe => by
    simp only [backB, List.all_eq_true, List.mem_range] at hb
    have hj : j < ops.size := by
      rcases Nat.lt_or_ge j ops.size with h | h
      · exact h
      · rw [Array.getElem?_eq_none h] at ho; cases ho
    have := hb j hj
    simp only [ho, Array.all_eq_true', Bool.or_eq_true, Bool.not_eq_true', decide_eq_true_eq] at this
    rcases this e he with h | h
    · rw [hbe] at h; cases h
    · exact h
  induction h with
  | here ho he hbe h => rw [← h]; exact one ho he hbe
  | there ho he hbe h ih => exact Nat.lt_trans ih (one ho he hbe)

theorem wpAnyE_lex (hb : backB ops = true) (hf : ∀ i, i < ops.size → freeE q P ops i = true) {Q : Fr → St → Prop} : ∀ (l : List Oper) (k : Nat) (listed : Array Bool) (fr : Fr) (S : St), (∀ j, l[j]? = ops[k + j]?) → listed.size = ops.size →
    (∀ j, j < k → j < ops.size → listed.getD j false = true) → (∀ j, k ≤ j → j < ops.size → listed.getD j false = false) → lexS q P ops Q l fr S → wpAnyE q P ops Q l.length listed fr S
  | [], k, listed, fr, S, hl, hsz, h1, h2, h => by
    refine ⟨?_, h⟩
    rw [List.eq_nil_iff_forall_not_mem]
    intro j hj
    obtain ⟨g1, o, ho, _⟩ := mem_ready.1 hj
    have hj : j < ops.size := by
      rcases Nat.lt_or_ge j ops.size with h | h
      · exact h
      · rw [Array.getElem?_eq_none h] at ho; cases ho
    have hk : ops.size ≤ k := by
      have := hl 0
      simp at this
      omega
    have := h1 j (by omega) hj
    have hjl : j < listed.size := by omega
    simp [hjl] at g1 this
    rw [g1] at this
    cases this
  | o :: l, k, listed, fr, S, hl, hsz, h1, h2, h => by
    have h0 : ops[k]? = some o := by simpa using (hl 0).symm
    have hk : k < ops.size := by
      rcases Nat.lt_or_ge k ops.size with h | h
      · exact h
      · rw [Array.getElem?_eq_none h] at h0; cases h0
    have toT : ∀ j, j < ops.size → listed.getD j true = listed.getD j false := fun j hj => by
      have : j < listed.size := by omega
      simp [this]
    rw [List.length_cons]
    refine wpAnyE_first h0 l.length listed fr S ?_ ?_ ?_ ?_
    · intro j oj hj hji hun hno
      have hjs : j < ops.size := by
        rcases Nat.lt_or_ge j ops.size with h | h
        · exact h
        · rw [Array.getElem?_eq_none h] at hj; cases hj
      have hjk : ¬ j ≤ k := fun hle => by
        have := h1 j (by omega) hjs
        rw [toT j hjs, this] at hun
        cases hun
      have := hf k hk
      simp only [freeE, h0, List.all_eq_true, List.mem_range, Bool.or_eq_true, decide_eq_true_eq] at this
      rcases this j hjs with (h | h) | h
      · exact absurd h hjk
      · exact absurd (aftL_ok (by simpa using h)) hno
      · simp only [hj, Bool.and_eq_true] at h
        exact h
    · intro j hj
      have hlt := back_lt hb hj
      rcases Nat.lt_or_ge j ops.size with h | h
      · exact h2 j (by omega) h
      · have : listed.size ≤ j := by omega
        simp [Array.getElem?_eq_none this]
    · refine mem_ready.2 ⟨by rw [toT k hk]; exact h2 k (Nat.le_refl _) hk, o, h0, fun e he hbe => ?_⟩
      have := back_lt hb (Aft.here h0 he hbe rfl)
      exact h1 _ this (by omega)
    · rw [qE_iff h0]
      refine GE.mono (K := fun r S' => lexS q P ops Q l (fr.put o.dst r) S') h fun r S' hlx => ?_
      refine wpAnyE_lex hb hf l (k + 1) _ _ _ (fun j => by have := hl (j + 1); simpa [Nat.add_assoc, Nat.add_comm 1 j] using this) (by simp [hsz]) ?_ ?_ hlx
      · intro j hj hjs
        by_cases e : k = j
        · subst e
          have : k < listed.size := by omega
          simp [this]
        · rw [getD_set_ne false e]; exact h1 j (by omega) hjs
      · intro j hj hjs
        rw [getD_set_ne false (by omega)]; exact h2 j (by omega) hjs

theorem wpAny_of_E {Q : Exit → Fr → St → Prop} {G0 : Ctx} (hall : ∀ (i : Nat) o, ops[i]? = some o → ∃ s, sOper P n ops o = some s) :
    ∀ (fuel : Nat) (listed : Array Bool) (fr : Fr) (G : Ctx) (a : Act), Rel G → Step G0 G → Rfr n G fr a → wpAnyE q P ops (fun fr S => Q .normal fr S) fuel listed fr G.S → wpAny P .any ops (Post n G0 Q) fuel listed a G.w
  | 0, _, fr, G, a, hR, h0, hf, h => ⟨h.1, G, fr, rfl, hR, h0, hf, h.2⟩
  | fuel + 1, listed, fr, G, a, hR, h0, hf, h => by
    refine ⟨fun he => ⟨G, fr, rfl, hR, h0, hf, h.1 he⟩, fun i hi => ?_⟩
    have h1 := h.2 i hi
    unfold wpOp
    cases ho : ops[i]? with
    | none =>
      unfold qE at h1
      simp only [ho] at h1 ⊢
      exact wpAny_of_E hall fuel _ fr G a hR h0 hf h1
    | some o =>
      rw [qE_iff ho] at h1
      simp only
      obtain ⟨s, hs⟩ := hall i o ho
      obtain ⟨ht, hop, hd⟩ := sOper_parts hs
      rcases h1 with ⟨hw, hp⟩ | ⟨hw, hK⟩
      · rw [guardOf_ok hs] at hw
        rw [if_pos (want_ok hf hs hw)]
        have eff : EffSem P o fr G.S (fun r S' => wpAnyE q P ops (fun fr S => Q .normal fr S) fuel (listed.setIfInBounds i true) (fr.put o.dst r) S') → o.wp P a G.w (fun a w => wpAny P .any ops (Post n G0 Q) fuel (listed.setIfInBounds i true) a w) (Post n G0 Q) := fun hp => by
          refine oper_wp hf ht (hp G a.eval rfl hR (operand_ok hf ht)) fun G' r' v g1 g2 g3 g4 g5 => ?_
          exact wpAny_of_E hall fuel _ _ G' _ g1 (h0.trans g2) g5 g4
        have quiet : ∀ r, wpAnyE q P ops (fun fr S => Q .normal fr S) fuel (listed.setIfInBounds i true) (fr.put o.dst r) G.S → r.bel G.S.n → PureSem P o fr G.S r → o.wp P a G.w (fun a w => wpAny P .any ops (Post n G0 Q) fuel (listed.setIfInBounds i true) a w) (Post n G0 Q) := fun r hk hbel hp => by
          refine oper_wp hf ht (hp G a.eval (Ext.refl _) hR (operand_ok hf ht)) fun G' r' v g1 g2 g3 g4 g5 => ?_
          obtain ⟨rfl, hE⟩ := g4
          have htd : Told G.S G'.S := fun l o ho => by
            obtain ⟨b1, b2, b3⟩ := hR.clean l o ho
            exact ⟨b1, hE.real hR ho, b3⟩
          have hst : Step G (G'.told G.S) := told_step g2 htd (Nat.le_refl _)
          refine wpAny_of_E hall fuel _ _ (G'.told G.S) _ (told_rel g1 htd) (h0.trans hst) ((hf.step hst).put (dst_ok ht) ?_) hk
          exact Rv.told htd _ _ hbel g3
        unfold TE at hp
        split at hp
        · obtain ⟨r, S', hk, _, he⟩ := hp
          exact .inl (eff fun G ρ a b c => (he G ρ a b c).mono fun r' S2 ⟨x, y⟩ => by subst x; subst y; exact hk)
        · split at hp
          · exact .inl (eff hp)
          · split at hp
            · obtain ⟨r, hk, hbel, hi⟩ := hp
              refine .inl (eff fun G' ρ a b c => (hi G' ρ (by rw [a]; exact Shp.refl _) b c).mono fun r' S2 ⟨x, y⟩ => by subst x; subst y; rw [a]; exact hk)
            · obtain ⟨r, hk, hbel, hq⟩ := hp
              exact .inl (quiet r hk hbel hq)
      · rw [guardOf_ok hs] at hw
        rw [want_ok hf hs hw]
        exact wpAny_of_E hall fuel _ _ G _ hR h0 (hf.put (dst_ok ht) (by simp [Rv])) hK

theorem awp_regionE {id : Nat} {Q : Exit → Fr → St → Prop} {fr : Fr} {S : St} (hm : P.follows .mixedOrders = true) (hB : lexE q P ops = true) (hall : ∀ (i : Nat) o, ops[i]? = some o → ∃ s, sOper P n ops o = some s)
    (h : lexS q P ops (fun fr S => Q .normal fr S) ops.toList fr S) : AWp P n (.region id ops true) Q fr S := by
  intro G a hS hR hf
  subst hS
  simp only [lexE, Bool.and_eq_true, List.all_eq_true, List.mem_range] at hB
  refine wp_region_any hm ?_
  have hd := drew_step G (G.w.drawn + 1)
  have := wpAnyE_lex (P := P) hB.1.2 hB.2 ops.toList 0 (Array.replicate ops.size false) fr G.S (by simp) (by simp) (by simp) (fun j _ h => by simp [h]) h
  exact wpAny_of_E (G0 := G) (Q := Q) hall _ _ fr (G.drew (G.w.drawn + 1)) a (drew_rel hR _) hd (hf.step hd) (by simp only [Array.length_toList] at this; exact this)
end

/-! ### the walk -/
def ewp (b : Bool) (P : Program) (s : SOp) (fr : Fr) (S : St) (K : AV → St → Prop) : Prop := if s.effC b = true then swp P s fr S K else dwp P s fr S fun r => r.bel S.n ∧ K r S
def eops (P : Program) : List SOper → (Fr → St → Prop) → Fr → St → Prop
  | [], K, fr, S => K fr S
  | o :: os, K, fr, S => match o.guard with
    | none => ewp false P o.op fr S fun r S' => eops P os K (fr.put o.dst r) S'
    | some (t, want) => match fr t with
      | .sc (.bool b) => (b = want → ewp false P o.op (fr.put (some t) (.sc (.bool want))) S fun r S' => eops P os K ((fr.put (some t) (.sc (.bool want))).put o.dst r) S') ∧
          (b ≠ want → eops P os K ((fr.put (some t) (.sc (.bool !want))).put o.dst (.sc undef)) S)
      | .sc (.tuple _) => eops P os K (fr.put o.dst (.sc undef)) S
      | _ => False

def bops (P : Program) : List (Bool × SOper) → (Fr → St → Prop) → Fr → St → Prop
  | [], K, fr, S => K fr S
  | (b, o) :: os, K, fr, S => match o.guard with
    | none => ewp b P o.op fr S fun r S' => bops P os K (fr.put o.dst r) S'
    | some (t, want) => match fr t with
      | .sc (.bool t') => (t' = want → ewp b P o.op (fr.put (some t) (.sc (.bool want))) S fun r S' => bops P os K ((fr.put (some t) (.sc (.bool want))).put o.dst r) S') ∧
          (t' ≠ want → bops P os K ((fr.put (some t) (.sc (.bool !want))).put o.dst (.sc undef)) S)
      | .sc (.tuple _) => bops P os K (fr.put o.dst (.sc undef)) S
      | _ => False

section
variable {P : Program} {n : Nat} {Q : Exit → Fr → St → Prop}
theorem ewp_sound {q : Oper → Bool} {o : Oper} {s : SOp} {fr : Fr} {S : St} {K : AV → St → Prop} (hs : sop P o.op = s) (h : ewp (q o) P s fr S K) : TE q P o fr S K := by
  unfold ewp at h
  have se : ∀ s : SOp, s.isStore = true → s.effC (q o) = true := by intro s; cases s <;> simp [SOp.isStore, SOp.effC, SOp.eff]
  have eff : s.effC (q o) = true → swp P s fr S K → EffSem P o fr S K := fun _ h G ρ a b c => sop_ok b rfl hs c (by subst a; exact h)
  unfold TE
  rw [hs]
  split at h
  · rename_i he
    split
    · rename_i hst
      cases s <;> simp only [SOp.isStore, Bool.false_eq_true] at hst
      obtain ⟨r, S', h1, h2, h3⟩ := store_shp h
      exact ⟨r, S', h1, h2, fun G ρ a b c => sop_ok b rfl hs c (by subst a; exact h3)⟩
    · exact eff he h
  · rename_i he
    rw [if_neg fun hst => he (se s hst), if_neg he]
    split
    · rename_i hi
      obtain ⟨r, ⟨h1, h2⟩, h3⟩ := ins_of hi h
      exact ⟨r, h2, h1, fun G ρ a b c => sop_ok b rfl hs c (h3 G.S a)⟩
    · obtain ⟨r, ⟨h1, h2⟩, h3⟩ := dwp_sound hs h
      exact ⟨r, h2, h1, h3⟩

theorem eops_lex {ops : Array Oper} {K : Fr → St → Prop} : ∀ (l : List Oper) (sl : List SOper), l.mapM (sOper P n ops) = some sl → ∀ fr S, eops P sl K fr S → lexS (fun _ => false) P ops K l fr S
  | [], sl, hs, fr, S, h => by simp at hs; subst hs; exact h
  | o :: l, sl, hs, fr, S, h => by
    simp only [List.mapM_cons, Option.bind_eq_bind, Option.bind_eq_some_iff, Option.pure_def, Option.some.injEq] at hs
    obtain ⟨s, hs1, sl', hs2, rfl⟩ := hs
    obtain ⟨ht, hop, hd⟩ := sOper_parts hs1
    have run : wantA fr s.guard = some true → (ewp false P s.op fr S fun r S' => eops P sl' K (fr.put s.dst r) S') → lexS (fun _ => false) P ops K (o :: l) fr S := fun hw h =>
      .inl ⟨by rw [guardOf_ok hs1]; exact hw, (ewp_sound (q := fun _ => false) hop h).mono fun r S' hk => by rw [hd] at hk; exact eops_lex l sl' hs2 _ _ hk⟩
    have skip : wantA fr s.guard = some false → eops P sl' K (fr.put s.dst (.sc undef)) S → lexS (fun _ => false) P ops K (o :: l) fr S := fun hw h => by
      rw [hd] at h
      exact .inr ⟨by rw [guardOf_ok hs1]; exact hw, eops_lex l sl' hs2 _ _ h⟩
    simp only [eops] at h
    split at h
    · rename_i hg
      exact run (by rw [hg]; rfl) h
    · rename_i t want hg
      split at h
      · rename_i b hb
        by_cases e : b = want
        · have h1 := h.1 e
          rw [put_self (by rw [hb, e])] at h1
          exact run (by rw [hg]; simp [wantA, hb, e]) h1
        · have h2 := h.2 e
          rw [put_self (by rw [hb]; cases b <;> cases want <;> simp_all)] at h2
          exact skip (by rw [hg]; simp [wantA, hb]; simpa using e) h2
      · rename_i vs hb
        exact skip (by rw [hg]; simp [wantA, hb]) h
      · exact h.elim

theorem bops_lex {ops : Array Oper} {K : Fr → St → Prop} : ∀ (l : List Oper) (sl : List SOper), l.mapM (sOper P n ops) = some sl → ∀ fr S, bops P (flagC P ops sl) K fr S → lexS (barQ P ops) P ops K l fr S
  | [], sl, hs, fr, S, h => by simp at hs; subst hs; exact h
  | o :: l, sl, hs, fr, S, h => by
    simp only [List.mapM_cons, Option.bind_eq_bind, Option.bind_eq_some_iff, Option.pure_def, Option.some.injEq] at hs
    obtain ⟨s, hs1, sl', hs2, rfl⟩ := hs
    obtain ⟨ht, hop, hd⟩ := sOper_parts hs1
    have run : wantA fr s.guard = some true → (ewp ((barD P ops).contains s.dst) P s.op fr S fun r S' => bops P (flagC P ops sl') K (fr.put s.dst r) S') → lexS (barQ P ops) P ops K (o :: l) fr S := fun hw h =>
      .inl ⟨by rw [guardOf_ok hs1]; exact hw, (ewp_sound (q := barQ P ops) hop (by rw [barQ, ← hd]; exact h)).mono fun r S' hk => by rw [hd] at hk; exact bops_lex l sl' hs2 _ _ hk⟩
    have skip : wantA fr s.guard = some false → bops P (flagC P ops sl') K (fr.put s.dst (.sc undef)) S → lexS (barQ P ops) P ops K (o :: l) fr S := fun hw h => by
      rw [hd] at h
      exact .inr ⟨by rw [guardOf_ok hs1]; exact hw, bops_lex l sl' hs2 _ _ h⟩
    simp only [flagC, List.map_cons, bops] at h
    split at h
    · rename_i hg
      exact run (by rw [hg]; rfl) h
    · rename_i t want hg
      split at h
      · rename_i b hb
        by_cases e : b = want
        · have h1 := h.1 e
          rw [put_self (by rw [hb, e])] at h1
          exact run (by rw [hg]; simp [wantA, hb, e]) h1
        · have h2 := h.2 e
          rw [put_self (by rw [hb]; cases b <;> cases want <;> simp_all)] at h2
          exact skip (by rw [hg]; simp [wantA, hb]; simpa using e) h2
      · rename_i vs hb
        exact skip (by rw [hg]; simp [wantA, hb]) h
      · exact h.elim

theorem swp_regE {l : List SOper} {fr : Fr} {S : St} (h : eops P l (fun fr S => Q .normal fr S) fr S) : SWp P n (.regE l) Q fr S := fun c hc => by
  have hc0 := hc
  cases c <;> simp only [strip, Option.bind_eq_some_iff] at hc
  case region id ops draw =>
    obtain ⟨rfl, hl, hb1, hb2⟩ := strip_E hc0
    exact awp_regionE hb2 hb1 (fun i o ho => mapM_get hl i o (by simpa using ho)) (eops_lex ops.toList _ hl fr S h)
  case cond => obtain ⟨q, _, hc⟩ := hc; split at hc <;> (first | (cases hc; done) | (simp [Option.bind_eq_some_iff] at hc; done))
  all_goals simp at hc
/-- A choice between two walks. -/
def DepB (K : Bool → Prop) : Type := Unit
def pickB (K : Bool → Prop) (b : DepB K) : Prop := ∃ b, K b
theorem pickB_f {K : Bool → Prop} (h : K false) : pickB K () := ⟨false, h⟩
/-- What stands in a region with a call that all else is before or behind: in turn, or as if all were quiet. -/
def regCB (P : Program) (l : List (Bool × SOper)) (K : Fr → St → Prop) (fr : Fr) (S : St) : Bool → Prop
  | true => bops P l K fr S
  | false => dops P S (l.map (·.2)) (fun fr => belD S.n fr (l.map (·.2)) ∧ K fr S) fr
theorem swp_regC {l : List (Bool × SOper)} {fr : Fr} {S : St} (h : pickB (regCB P l (fun fr S => Q .normal fr S) fr S) ()) : SWp P n (.regC l) Q fr S := fun c hc => by
  have hc0 := hc
  cases c <;> simp only [strip, Option.bind_eq_some_iff] at hc
  case region id ops draw =>
    obtain ⟨rfl, ⟨l', hl, rfl⟩, hb0, hb1, hb2⟩ := strip_C hc0
    obtain ⟨b, h⟩ := h
    have e : (flagC P ops l').map (·.2) = l' := by simp [flagC, Function.comp_def]
    cases b
    · simp only [regCB, e] at h
      exact awp_dops hl hb0 hb2 h
    · exact awp_regionE hb2 hb1 (fun i o ho => mapM_get hl i o (by simpa using ho)) (bops_lex ops.toList _ hl fr S h)
  case cond => obtain ⟨q, _, hc⟩ := hc; split at hc <;> (first | (cases hc; done) | (simp [Option.bind_eq_some_iff] at hc; done))
  all_goals simp at hc
end
end Go.Proofs.Ytfihpbeihlpfcaa.Ev
