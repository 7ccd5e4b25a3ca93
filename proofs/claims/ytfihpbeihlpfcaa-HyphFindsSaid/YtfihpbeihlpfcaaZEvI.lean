/- Code in short, and the rules by which it is gone through. -/
import Derived.Test.YtfihpbeihlpfcaaZEvH
set_option linter.unusedVariables false
set_option linter.unusedSimpArgs false
namespace Go.Proofs.Ytfihpbeihlpfcaa.Ev
open Go Go.RowKit

/-! ### operations in a region that draws its order -/
def isRo : AV → Bool
  | .ro _ _ => true
  | _ => false
def dwp (P : Program) (s : SOp) (fr : Fr) (S : St) (K : AV → Prop) : Prop :=
  match s with
  | .store _ _ _ => False
  | .alloc _ _ _ => False
  | .box _ _ _ => False
  | .mksl _ _ _ _ _ _ => False
  | .app _ _ _ _ _ => False
  | .appZ _ _ _ _ _ _ => False
  | .copy _ _ _ => False
  | .mkmap => False
  | .mupd _ _ _ _ => False
  | .rangeM _ => False
  | .nextM _ => False
  | .mentry _ _ _ _ => False
  | .mstore _ _ _ => False
  | .entryM _ => False
  | .sl3 _ _ _ _ _ => False
  | .clr _ _ _ => False
  | .slA _ _ _ _ _ => False
  | .no => False
  | .buildSl e k len zs ps => orK (fillA (zcells zs (len * k)) (ps.map fun p => (p.1, p.2.1, evS fr p.2.2))) fun cs => K (.ro len cs)
  | .call f args => match evS fr f with
    | .clo g caps => ∃ r, (∀ S', Ext S S' → ACall P g (args.map (evS fr) ++ caps) S' fun r' S'' => r' = r ∧ Ext S' S'') ∧ K r
    | .bnd g fs => ∃ r, (∀ S', Ext S S' → ACall P g (fs ++ args.map (evS fr)) S' fun r' S'' => r' = r ∧ Ext S' S'') ∧ K r
    | _ => False
  | .look kd z ok m k => match zOf S (evS fr m) with
    | some p => p.1 = kd ∧ p.2.1 = z ∧ ok = false ∧ orK (keyV (evS fr k)) fun v => keysOk kd p.2.2 = true ∧ kd.is v = true ∧ K ((findE p.2.2 v).getD (avOf z))
    | none => swp P (.look kd z ok m k) fr S fun r _ => K r
  | .eq neg k x y => isRo (evS fr x) = false ∧ isRo (evS fr y) = false ∧ eqA k neg (evS fr x) (evS fr y) K
  | .lenL x => match evS fr x with
    | .ro n cs => K (.sc (.int .i64 n))
    | .ref l tot off n => orK (S.row? l tot) fun r => K (.sc (.int .i64 n))
    | .sc (.slice none 0 _) => K (.sc (.int .i64 0))
    | _ => False
  | s => swp P s fr S fun r _ => K r

def isQuiet : SOp → Prop
  | .store _ _ _ | .alloc _ _ _ | .box _ _ _ | .mksl _ _ _ _ _ _ | .app _ _ _ _ _ | .appZ _ _ _ _ _ _ | .copy _ _ _ | .buildSl _ _ _ _ _ | .call _ _ | .eq _ _ _ _ | .lenL _ | .mkmap | .mupd _ _ _ _ | .rangeM _ | .nextM _ | .mentry _ _ _ _ | .mstore _ _ _ | .entryM _ | .sl3 _ _ _ _ _ | .clr _ _ _ | .slA _ _ _ _ _ | .no => False
  | _ => True

theorem findE_more {z : Value} {v : Value} : ∀ {es ex : List (Value × AV)}, (∀ e ∈ ex, e.2 = avOf z) → (findE (es ++ ex) v).getD (avOf z) = (findE es v).getD (avOf z)
  | [], [], _ => rfl
  | [], e :: ex, h => by
    obtain ⟨k, x⟩ := e
    have := findE_more (v := v) (es := []) (ex := ex) fun q hq => h q (by simp [hq])
    have hx : x = avOf z := h (k, x) (by simp)
    simp only [List.nil_append, findE] at this ⊢
    split
    · simp [hx]
    · exact this
  | e :: es, ex, h => by
    obtain ⟨k, x⟩ := e
    simp only [List.cons_append, findE]
    split
    · rfl
    · exact findE_more h
theorem row?_ext {S S' : St} (h : Ext S S') {l tot : Nat} {r : TypeId × Nat × List AV} (hr : S.row? l tot = some r) : S'.row? l tot = some r := by
  obtain ⟨h1, h2⟩ := row?_some hr
  have := (h.2 _ _ h1).row
  unfold St.row?
  simp [this, h2]

theorem mapOf_ext {S S' : St} (h : Ext S S') {x : AV} {es : List (Value × AV)} (hm : mapOf S x = some es) : mapOf S' x = some es := by
  unfold mapOf at hm ⊢
  split at hm
  · unfold St.map? at hm ⊢
    split at hm
    · rename_i ho; rw [(h.2 _ _ ho).map]; exact hm
    · cases hm
  · exact hm
  · exact hm
  · cases hm

section
variable {P : Program}

theorem quiet_of {s : SOp} {fr : Fr} {S : St} {K : AV → Prop}
    (hq : isQuiet s)
    (h : swp P s fr S fun r _ => K r) : ∃ r, K r ∧ ∀ S', Ext S S' → swp P s fr S' fun r' S'' => r' = r ∧ S'' = S' := by
  cases s <;> simp only [isQuiet] at hq
  case mv x => exact ⟨_, h, fun S' _ => ⟨by trivial, by trivial⟩⟩
  case pick c a b =>
    simp only [swp] at h ⊢
    split at h
    · rename_i t ht
      cases t
      · exact ⟨_, h.2 rfl, fun S' _ => by simp [ht]⟩
      · exact ⟨_, h.1 rfl, fun S' _ => by simp [ht]⟩
    · exact h.elim
  case eqS neg fs x y =>
    simp only [swp] at h ⊢
    split at h
    · obtain ⟨b, hb, h3⟩ := orK_elim h
      exact ⟨_, h3, fun S' hE => by simp only [hb, orK_some]; exact ⟨by trivial, by trivial⟩⟩
    · exact h.elim
  case look kd z ok m k =>
    simp only [swp] at h ⊢
    split at h
    · rename_i v hv
      obtain ⟨es, hm, h1, h2, h3⟩ := orK_elim h
      exact ⟨_, h3, fun S' hE => by rw [mapOf_ext hE hm]; exact ⟨h1, h2, by trivial, by trivial⟩⟩
    · exact h.elim
  case lenM x =>
    simp only [swp] at h ⊢
    obtain ⟨es, hm, h3⟩ := orK_elim h
    exact ⟨_, h3, fun S' hE => by rw [mapOf_ext hE hm]; exact ⟨by trivial, by trivial⟩⟩
  case load k a =>
    simp only [swp] at h ⊢
    split at h
    · rename_i l tot off he
      obtain ⟨r, hr, h⟩ := orK_elim h
      cases k with
      | none =>
        obtain ⟨c, hc, hK⟩ := orK_elim h
        exact ⟨c, hK, fun S' hE => by simp only [he, row?_ext hE hr, orK_some, hc]; exact ⟨by trivial, by trivial⟩⟩
      | some k => exact ⟨_, h.2, fun S' hE => by simp only [he, row?_ext hE hr, orK_some]; exact ⟨h.1, by trivial, by trivial⟩⟩
    · rename_i cs he
      cases k with
      | none =>
        obtain ⟨c, hc, hK⟩ := orK_elim h
        exact ⟨c, hK, fun S' hE => by simp only [he, hc, orK_some]; exact ⟨by trivial, by trivial⟩⟩
      | some k => exact ⟨_, h.2, fun S' hE => by simp only [he]; exact ⟨h.1, by trivial, by trivial⟩⟩
    · exact h.elim
  case build zs ps =>
    simp only [swp] at h ⊢
    obtain ⟨c, hc, hK⟩ := orK_elim h
    exact ⟨_, hK, fun S' hE => by simp only [hc, orK_some]; exact ⟨by trivial, by trivial⟩⟩
  case nilck x =>
    simp only [swp] at h ⊢
    split at h
    · rename_i l tot off he
      obtain ⟨r, hr, h⟩ := orK_elim h
      exact ⟨_, h, fun S' hE => by simp only [he, row?_ext hE hr, orK_some]; exact ⟨by trivial, by trivial⟩⟩
    · rename_i cs he
      exact ⟨_, h, fun S' hE => by simp only [he]; exact ⟨by trivial, by trivial⟩⟩
    · rename_i f cs he
      exact ⟨_, h, fun S' hE => by simp only [he]; exact ⟨by trivial, by trivial⟩⟩
    · exact h.elim
  case bin op x y =>
    simp only [swp] at h ⊢
    split at h
    · rename_i u v hu hv
      have key : ∀ {K : Value → Prop}, binV op u v K → ∃ r, K r ∧ ∀ K' : Value → Prop, K' r → binV op u v K' := by
        intro K h
        unfold binV at h ⊢
        split at h
        · cases op <;> simp only at h ⊢
          all_goals first
            | exact ⟨_, h.2, fun K' hk => ⟨h.1, hk⟩⟩
            | exact ⟨_, h.2.2, fun K' hk => ⟨h.1, h.2.1, hk⟩⟩
        · cases op <;> simp only at h ⊢
          all_goals first
            | exact h.elim
            | exact ⟨_, h.2, fun K' hk => ⟨h.1, hk⟩⟩
            | exact ⟨_, h, fun K' hk => hk⟩
        · exact h.elim
      obtain ⟨r, h1, h2⟩ := key h
      exact ⟨_, h1, fun S' hE => h2 _ ⟨rfl, by trivial⟩⟩
    · exact h.elim
  case un op x =>
    simp only [swp] at h ⊢
    split at h
    · rename_i u hu
      unfold unV at h
      split at h
      · exact ⟨_, h, fun S' hE => by simp only [hu, unV]; exact ⟨by trivial, by trivial⟩⟩
      · exact ⟨_, h, fun S' hE => by simp only [hu, unV]; exact ⟨by trivial, by trivial⟩⟩
      · exact h.elim
    · exact h.elim
  case cvi k x =>
    simp only [swp] at h ⊢
    split at h
    · rename_i he; exact ⟨_, h, fun S' hE => by simp [he]⟩
    · exact h.elim
  case cvs x =>
    simp only [swp] at h ⊢
    split at h
    · rename_i he; exact ⟨_, h, fun S' hE => by simp [he]⟩
    · exact h.elim
  case mkbnd f cs => exact ⟨_, h, fun S' _ => ⟨by trivial, by trivial⟩⟩
  case mkfunc f cs => exact ⟨_, h, fun S' _ => ⟨by trivial, by trivial⟩⟩
  case mkif t x => exact ⟨_, h, fun S' _ => ⟨by trivial, by trivial⟩⟩
  case sls x lo hi =>
    simp only [swp] at h ⊢
    split at h
    · rename_i s he
      obtain ⟨l, hl, h⟩ := orK_elim h
      obtain ⟨h', hh, h0, h1, h2, hK⟩ := orK_elim h
      exact ⟨_, hK, fun S' hE => by simp only [he, hl, hh, orK_some]; exact ⟨h0, h1, h2, by trivial, by trivial⟩⟩
    · exact h.elim
  case sl k x lo hi =>
    simp only [swp] at h ⊢
    split at h
    · rename_i n cs he
      obtain ⟨l, hl, h⟩ := orK_elim h
      obtain ⟨h', hh, h0, h1, h2, h3, hK⟩ := orK_elim h
      exact ⟨_, hK, fun S' hE => by simp only [he, hl, hh, orK_some]; exact ⟨h0, h1, h2, h3, by trivial, by trivial⟩⟩
    · rename_i q tot off n he
      obtain ⟨r, hr, h⟩ := orK_elim h
      obtain ⟨l, hl, h⟩ := orK_elim h
      obtain ⟨h', hh, h0, h1, h2, h3, h4, hK⟩ := orK_elim h
      exact ⟨_, hK, fun S' hE => by simp only [he, row?_ext hE hr, hl, hh, orK_some]; exact ⟨h0, h1, h2, h3, h4, by trivial, by trivial⟩⟩
    · rename_i he
      obtain ⟨l, hl, h⟩ := orK_elim h
      obtain ⟨h', hh, h0, h1, hK⟩ := orK_elim h
      exact ⟨_, hK, fun S' hE => by simp only [he, hl, hh, orK_some]; exact ⟨h0, h1, by trivial, by trivial⟩⟩
    · exact h.elim
  case faddr off x =>
    simp only [swp] at h ⊢
    split at h
    · rename_i l tot o he
      obtain ⟨r, hr, h⟩ := orK_elim h
      exact ⟨_, h, fun S' hE => by simp only [he, row?_ext hE hr, orK_some]; exact ⟨by trivial, by trivial⟩⟩
    · rename_i cs he
      exact ⟨_, h, fun S' hE => by simp only [he]; exact ⟨by trivial, by trivial⟩⟩
    · exact h.elim
  case fld k off x =>
    simp only [swp] at h ⊢
    split at h
    · rename_i cs he
      cases k with
      | none =>
        obtain ⟨c, hc, hK⟩ := orK_elim h
        exact ⟨c, hK, fun S' hE => by simp only [he, hc, orK_some]; exact ⟨by trivial, by trivial⟩⟩
      | some k => exact ⟨_, h.2, fun S' hE => by simp only [he]; exact ⟨h.1, by trivial, by trivial⟩⟩
    · exact h.elim
  case iaddr k x i =>
    simp only [swp] at h ⊢
    obtain ⟨j, hj, h⟩ := orK_elim h
    split at h
    · rename_i n cs he
      exact ⟨_, h.2.2.2, fun S' hE => by simp only [hj, he, orK_some]; exact ⟨h.1, h.2.1, h.2.2.1, by trivial, by trivial⟩⟩
    · rename_i l tot off n he
      obtain ⟨r, hr, h0, h1, hK⟩ := orK_elim h
      exact ⟨_, hK, fun S' hE => by simp only [hj, he, row?_ext hE hr, orK_some]; exact ⟨h0, h1, by trivial, by trivial⟩⟩
    · exact h.elim
  case iaddrA n k x i =>
    simp only [swp] at h ⊢
    obtain ⟨j, hj, h⟩ := orK_elim h
    split at h
    · rename_i l tot off he
      obtain ⟨r, hr, h0, h1, hK⟩ := orK_elim h
      exact ⟨_, hK, fun S' hE => by simp only [hj, he, row?_ext hE hr, orK_some]; exact ⟨h0, h1, by trivial, by trivial⟩⟩
    · rename_i cs he
      exact ⟨_, h.2.2, fun S' hE => by simp only [hj, he, orK_some]; exact ⟨h.1, h.2.1, by trivial, by trivial⟩⟩
    · exact h.elim
  case ixs x i =>
    simp only [swp] at h ⊢
    obtain ⟨j, hj, h⟩ := orK_elim h
    split at h
    · rename_i s he
      exact ⟨_, h.2.2, fun S' hE => by simp only [hj, he, orK_some]; exact ⟨h.1, h.2.1, by trivial, by trivial⟩⟩
    · exact h.elim
  case ixa n k g x i =>
    simp only [swp] at h ⊢
    obtain ⟨j, hj, h⟩ := orK_elim h
    split at h
    · rename_i cs he
      obtain ⟨h0, h1, h2⟩ := h
      cases g with
      | true =>
        simp only [if_true] at h2
        exact ⟨_, h2.2, fun S' hE => by simp only [hj, he, orK_some, if_true]; exact ⟨h0, h1, h2.1, by trivial, by trivial⟩⟩
      | false =>
        simp only [Bool.false_eq_true, if_false] at h2
        obtain ⟨c, hc, hK⟩ := orK_elim h2
        exact ⟨_, hK, fun S' hE => by simp only [hj, he, orK_some, Bool.false_eq_true, if_false, hc]; exact ⟨h0, h1, by trivial, by trivial⟩⟩
    · exact h.elim
  case ext x i =>
    simp only [swp] at h ⊢
    split at h
    · rename_i vs he
      obtain ⟨c, hc, hK⟩ := orK_elim h
      exact ⟨c, hK, fun S' hE => by simp only [he, hc, orK_some]; exact ⟨by trivial, by trivial⟩⟩
    · exact h.elim
  case capL x =>
    simp only [swp] at h ⊢
    split at h
    · rename_i he; exact ⟨_, h, fun S' hE => by simp only [he]; exact ⟨by trivial, by trivial⟩⟩
    · exact h.elim
  case lenS x =>
    simp only [swp] at h ⊢
    split at h
    · rename_i s he; exact ⟨_, h, fun S' hE => by simp only [he]; exact ⟨by trivial, by trivial⟩⟩
    · exact h.elim
  case min x y =>
    simp only [swp] at h ⊢
    split at h
    · rename_i u v hu hv
      unfold minV at h ⊢
      split at h
      · exact ⟨_, h, fun S' hE => by simp only [hu, hv]; exact ⟨by trivial, by trivial⟩⟩
      · exact h.elim
    · exact h.elim
  case max x y =>
    simp only [swp] at h ⊢
    split at h
    · rename_i u v hu hv
      unfold maxV at h ⊢
      split at h
      · exact ⟨_, h, fun S' hE => by simp only [hu, hv]; exact ⟨by trivial, by trivial⟩⟩
      · exact h.elim
    · exact h.elim
  case max3 x y z =>
    simp only [swp] at h ⊢
    split at h
    · rename_i u v w hu hv hw
      unfold max3V at h ⊢
      split at h
      · exact ⟨_, h, fun S' hE => by simp only [hu, hv, hw]; exact ⟨by trivial, by trivial⟩⟩
      · exact h.elim
    · exact h.elim

theorem OpRun.mono {x : Sem Next} {G : Ctx} {K K' : AV → St → Prop} (h : OpRun P x G K) (hk : ∀ r S, K r S → K' r S) : OpRun P x G K' := by
  rcases h with ⟨v, w', h1, G', r, h2⟩ | ⟨f, args, h1, h2⟩
  · exact .inl ⟨v, w', h1, G', r, h2.1, h2.2.1, h2.2.2.1, h2.2.2.2.1, hk _ _ h2.2.2.2.2⟩
  · exact .inr ⟨f, args, h1, h2.mono fun e w' ⟨v, he, G', r, h3⟩ => ⟨v, he, G', r, h3.1, h3.2.1, h3.2.2.1, h3.2.2.2.1, hk _ _ h3.2.2.2.2⟩⟩

theorem dwp_sound {o : Oper} {s : SOp} {fr : Fr} {S : St} {K : AV → Prop} (hs : sop P o.op = s) (h : dwp P s fr S K) : ∃ r, K r ∧ PureSem P o fr S r := by
  have plain : isQuiet s →
      (swp P s fr S fun r _ => K r) → ∃ r, K r ∧ PureSem P o fr S r := fun hq h => by
    obtain ⟨r, h1, h2⟩ := quiet_of hq h
    exact ⟨r, h1, fun G ρ hE hR hop => (sop_ok hR rfl hs hop (h2 G.S hE)).mono fun r' S' ⟨a, b⟩ => ⟨a, by rw [b]; exact Ext.refl _⟩⟩
  cases s
  case look kd z ok m k =>
    simp only [dwp] at h
    split at h
    · rename_i p hp
      obtain ⟨kd', z', es⟩ := p
      obtain ⟨rfl, rfl, rfl, h⟩ := h
      obtain ⟨v, hv, h1, h2, h3⟩ := orK_elim h
      refine ⟨_, h3, fun G ρ hE hR hop => sop_ok hR rfl hs hop ?_⟩
      unfold zOf at hp
      split at hp
      · rename_i l hm
        split at hp
        · rename_i ho
          cases hp
          rcases hE.2 l _ ho with hq | ⟨ex, hq, k1, k2⟩
          · obtain ⟨b, _, q2⟩ := hR.ok l _ hq
            exact q2.elim
          · have e1 : mapOf G.S (evS fr m) = some (es ++ ex) := by rw [hm]; simp [mapOf, St.map?, hq]
            have e2 : (findE (es ++ ex) v).getD (avOf z') = (findE es v).getD (avOf z') := findE_more k2
            have e3 : keysOk kd' (es ++ ex) = true := by simp only [keysOk, List.all_append, Bool.and_eq_true] at h1 k1 ⊢; exact ⟨h1, k1⟩
            simp only [swp, hv, e1, orK_some, e2, e3, h2, true_and]
            exact ⟨by trivial, Ext.refl _⟩
        · cases hp
      · cases hp
    · exact plain (by trivial) h
  case store => exact h.elim
  case alloc => exact h.elim
  case box => exact h.elim
  case mksl => exact h.elim
  case appZ => exact h.elim
  case app => exact h.elim
  case copy => exact h.elim
  case no => exact h.elim
  case mkmap => exact h.elim
  case mupd => exact h.elim
  case rangeM => exact h.elim
  case nextM => exact h.elim
  case mentry => exact h.elim
  case mstore => exact h.elim
  case entryM => exact h.elim
  case sl3 => exact h.elim
  case clr => exact h.elim
  case slA => exact h.elim
  case buildSl e k len zs ps =>
    simp only [dwp] at h
    obtain ⟨cs, hcs, hK⟩ := orK_elim h
    refine ⟨_, hK, fun G ρ hE hR hop => ?_⟩
    have hrun : OpRun P (execOp ρ o) G fun r' S' => r' = .ref G.S.n (len * k) 0 len ∧ S' = G.S.add (.row e k cs) := sop_ok hR rfl hs hop (by
      simp only [swp, hcs, orK_some]; exact ⟨by trivial, by trivial⟩)
    have fin : ∀ v w', Left G (fun r' S' => r' = .ref G.S.n (len * k) 0 len ∧ S' = G.S.add (.row e k cs)) v w' → Left G (fun r' S' => r' = .ro len cs ∧ Ext G.S S') v w' := by
      rintro v w' ⟨G', r, rfl, hR', hst, hv, rfl, hS'⟩
      simp only [Rv] at hv
      have hm : G'.S.m G.S.n = some (.row e k cs) := by rw [hS']; simp [St.add]
      have hrow := hv.2.2 e k cs hm
      refine ⟨G'.kill G.S.n, .ro len cs, rfl, kill_rel hR' _, hst.trans (kill_step G' _), ?_, rfl, ?_⟩
      · simp only [Rv]
        have fl : ∀ (qs : List (Nat × Nat × AV)) (cs cs' : List AV), fillA cs qs = some cs' → cs'.length = cs.length := by
          intro qs
          induction qs with
          | nil => intro cs cs' h; simp [fillA] at h; rw [h]
          | cons q qs ih =>
            intro cs cs' h
            obtain ⟨off, k, x⟩ := q
            simp only [fillA] at h
            split at h
            · rename_i xs hxs
              split at h
              · rename_i hc
                rw [ih _ _ h]
                simp
                omega
              · cases h
            · cases h
        have hlen : len * k = cs.length := by rw [fl _ _ _ hcs]; simp [zcells]
        rcases hrow.2 hlen with ⟨m0, rfl, _, rfl, rfl⟩ | ⟨b, c, cap, hb, hc, hu, hn, _⟩
        · exact ⟨none, 0, rfl, by omega, by omega, fun _ => rfl, .inl rfl⟩
        · rcases hu with rfl | ⟨_, _, h0, _⟩
          · obtain ⟨c', hc', _, hat⟩ := row_block hR' hm hb
            exact ⟨_, _, rfl, hn.1, hn.2, (fun x => by cases x), .inr ⟨b, 0, rfl, kill_old hR' ⟨⟨_, hm⟩, hb⟩, hat.step (kill_step G' _) _ _ _ (fun _ => rfl)⟩⟩
          · omega
      · show Ext G.S (G'.S.kill G.S.n)
        rw [hS']
        refine ⟨by simp [St.add, St.kill], fun l q hq => ?_⟩
        have hlt := live_lt hR hq
        simp only [St.add, St.kill]
        rw [if_neg (by omega), if_neg (by omega)]
        exact .inl hq
    rcases hrun with ⟨v, w', h1, h2⟩ | ⟨f, args, h1, h2⟩
    · exact .inl ⟨v, w', h1, fin v w' h2⟩
    · exact .inr ⟨f, args, h1, h2.mono fun e' w' ⟨v, he, hl⟩ => ⟨v, he, fin v w' hl⟩⟩
  case call f args =>
    simp only [dwp] at h
    split at h
    · rename_i g caps he
      obtain ⟨r, hc, hK⟩ := h
      exact ⟨r, hK, fun G ρ hE hR hop => sop_ok hR rfl hs hop (by simp only [swp, he]; exact hc G.S hE)⟩
    · rename_i g caps he
      obtain ⟨r, hc, hK⟩ := h
      exact ⟨r, hK, fun G ρ hE hR hop => sop_ok hR rfl hs hop (by simp only [swp, he]; exact hc G.S hE)⟩
    · exact h.elim
  case eq neg k x y =>
    simp only [dwp] at h
    obtain ⟨hx, hy, h⟩ := h
    have : ∃ r, K r ∧ ∀ K' : AV → Prop, K' r → eqA k neg (evS fr x) (evS fr y) K' := by
      unfold eqA at h ⊢
      split at h
      · exact ⟨_, h, fun K' hk => hk⟩
      · exact ⟨_, h, fun K' hk => hk⟩
      · rename_i he _; rw [he] at hx; cases hx
      · rename_i he _ ; first | (rw [he] at hy; cases hy) | skip
        all_goals (first | (rename_i he2; rw [he2] at hy; cases hy) | skip)
      · exact ⟨_, h, fun K' hk => hk⟩
      · exact ⟨_, h, fun K' hk => hk⟩
      · exact h.elim
    obtain ⟨r, h1, h2⟩ := this
    exact ⟨r, h1, fun G ρ hE hR hop => sop_ok hR rfl hs hop (by simp only [swp]; exact eqO_of (h2 _ ⟨rfl, Ext.refl _⟩))⟩
  case lenL x =>
    simp only [dwp] at h
    split at h
    · rename_i n cs he
      exact ⟨_, h, fun G ρ hE hR hop => sop_ok hR rfl hs hop (by simp only [swp, he]; exact fun _ => ⟨by trivial, Ext.refl _⟩)⟩
    · rename_i l tot off n he
      obtain ⟨r, hr, hK⟩ := orK_elim h
      exact ⟨_, hK, fun G ρ hE hR hop => sop_ok hR rfl hs hop (by simp only [swp, he, row?_ext hE hr, orK_some]; exact fun _ => ⟨by trivial, Ext.refl _⟩)⟩
    · rename_i c he
      exact ⟨_, h, fun G ρ hE hR hop => sop_ok hR rfl hs hop (by simp only [swp, he]; exact ⟨by trivial, Ext.refl _⟩)⟩
    · exact h.elim
  all_goals exact plain trivial h
end
end Go.Proofs.Ytfihpbeihlpfcaa.Ev
