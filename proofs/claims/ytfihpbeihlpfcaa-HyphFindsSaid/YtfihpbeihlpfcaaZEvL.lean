/- What is owned is read: results that are handed on, arguments that are lent; functions that compute. -/
import Derived.Test.YtfihpbeihlpfcaaZEvK
set_option linter.unusedVariables false
set_option linter.unusedSimpArgs false
namespace Go.Proofs.Ytfihpbeihlpfcaa.Ev
open Go Go.RowKit

def St.kills (D : Nat → Bool) (S : St) : St := ⟨fun l => if D l then none else S.m l, S.n⟩
def Ctx.kills (D : Nat → Bool) (G : Ctx) : Ctx := { G with S := G.S.kills D }

theorem kills_some {D : Nat → Bool} {S : St} {l : Nat} {o : Ob} (h : (S.kills D).m l = some o) : D l = false ∧ S.m l = some o := by
  simp only [St.kills] at h
  split at h
  · cases h
  · rename_i hd; exact ⟨by simpa using hd, h⟩

theorem kills_step (D : Nat → Bool) (G : Ctx) : Step G (G.kills D) := by
  refine ⟨rfl, rfl, Nat.le_refl _, rfl, Nat.le_refl _, fun b hb => rfl, ?_, Nat.le_refl _, ?_, MapsGo.refl _⟩
  · rintro b hb ⟨l', ⟨o', ho'⟩, hm⟩
    exact ⟨l', ⟨o', (kills_some ho').2⟩, hm⟩
  · intro l' o' hl ho'
    have h0 : G.S.m l' = some o' := (kills_some ho').2
    cases o' with
    | row e k cs => exact ⟨cs, h0, Nat.le_refl _, fun _ => ⟨rfl, fun b c hb hc => ⟨c, hc, rfl⟩⟩⟩
    | map es => exact ⟨es, h0, rfl⟩
    | iter i => exact ⟨i, h0, rfl⟩
theorem kills_rel {G : Ctx} (hR : Rel G) (D : Nat → Bool) : Rel (G.kills D) := by
  refine ⟨fun l' hl => ?_, fun l' o' h => (hR.ok l' o' (kills_some h).2).keep (kills_step D G) rfl (fun b hb => rfl), fun l1 l2 b h1 h2 => ?_⟩
  · have := hR.dom l' hl
    simp only [Ctx.kills, St.kills, this]
    split <;> rfl
  · obtain ⟨⟨o1, h1⟩, m1⟩ := h1
    obtain ⟨⟨o2, h2⟩, m2⟩ := h2
    exact hR.inj l1 l2 b ⟨⟨o1, (kills_some h1).2⟩, m1⟩ ⟨⟨o2, (kills_some h2).2⟩, m2⟩
theorem kills_old {G : Ctx} (hR : Rel G) {D : Nat → Bool} {l b : Nat} (hD : D l = true) (h : G.live l b) : (G.kills D).old b := by
  refine ⟨owned_lt hR ⟨l, h⟩, ?_⟩
  rintro ⟨l', ⟨o', ho'⟩, hm⟩
  obtain ⟨h1, h2⟩ := kills_some ho'
  have : l' = l := hR.inj l' l b ⟨⟨o', h2⟩, hm⟩ h
  rw [this, hD] at h1
  cases h1

/-- A value told as one that is only read, d steps deep; what stands in D is given up. -/
def seen (D : Nat → Bool) (S : St) : Nat → AV → AV
  | 0, x => x
  | d + 1, .sc (.slice none 0 0) => .ro 0 []
  | d + 1, .ref l tot off n => if D l then (match S.row? l tot with
      | some r => if off + n * r.2.1 ≤ tot then .ro n (((r.2.2.drop off).take (n * r.2.1)).map (seen D S d)) else .junk
      | none => .junk) else .ref l tot off n
  | d + 1, .ptr l tot off => if D l then (match S.row? l tot with
      | some r => .rop ((r.2.2.drop off).map (seen D S d))
      | none => .junk) else .ptr l tot off
  | d + 1, .mp l => if D l then (match S.m l with
      | some (.map es) => .rom (es.map (·.1)) ((es.map (·.2)).map (seen D S d))
      | _ => .junk) else .mp l
  | d + 1, .tup vs => .tup (vs.map (seen D S d))
  | d + 1, .agg vs => .agg (vs.map (seen D S d))
  | d + 1, .clo f caps => .clo f (caps.map (seen D S d))
  | d + 1, .bnd f caps => .bnd f (caps.map (seen D S d))
  | d + 1, x => x

theorem rvs_tell {G G' : Ctx} {g : AV → AV} (h : ∀ x v, Rv G x v → Rv G' (g x) v) : ∀ (cs : List AV) (vs : List Value), Rvs G cs vs → Rvs G' (cs.map g) vs
  | [], vs, hr => by simpa only [List.map_nil, Rvs] using hr
  | x :: xs, vs, hr => by
    simp only [Rvs, List.map_cons] at hr ⊢
    obtain ⟨v, us, e, hv, ht⟩ := hr
    exact ⟨v, us, e, h x v hv, rvs_tell h xs us ht⟩

theorem rat_map {G G' : Ctx} {g : AV → AV} (hw : G'.w = G.w) (h : ∀ x v, Rv G x v → Rv G' (g x) v) : ∀ (cs : List AV) (b off : Nat), Rat G cs b off → Rat G' (cs.map g) b off
  | [], b, off, hr => by simp only [List.map_nil, Rat]
  | x :: xs, b, off, hr => by
    simp only [Rat, List.map_cons] at hr ⊢
    obtain ⟨⟨v, e, hv⟩, ht⟩ := hr
    exact ⟨⟨v, by rw [hw]; exact e, h x v hv⟩, rat_map hw h xs b _ ht⟩

theorem seen_ok {G : Ctx} (hR : Rel G) (D : Nat → Bool) : ∀ (d : Nat) (x : AV) (v : Value), Rv G x v → Rv (G.kills D) (seen D G.S d x) v := by
  intro d
  induction d with
  | zero => intro x v h; simpa only [seen] using h.step (kills_step D G)
  | succ d ih =>
    intro x v h
    have same : Rv (G.kills D) x v := h.step (kills_step D G)
    rw [seen.eq_def]
    split
    · rename_i e; cases e
    · have := scR h
      subst this
      simp only [Rv]
      exact ⟨none, 0, rfl, by omega, by omega, fun _ => rfl, .inl trivial⟩
    · rename_i l tot off n e0
      cases e0
      split
      · rename_i hD
        split
        · rename_i r hr
          split
          · rename_i hk
            obtain ⟨hm, ht⟩ := row?_some hr
            simp only [Rv] at h ⊢
            rcases (h.2.2 _ _ _ hm).2 ht.symm with ⟨m0, hcs, _, rfl, rfl⟩ | ⟨b, c, cap, hb, hc, hu, hn, hx1, hx2⟩
            · exact ⟨none, 0, rfl, by omega, by omega, fun _ => rfl, .inl (by simp)⟩
            · rcases hu with rfl | ⟨_, rfl, _, o', rfl⟩
              · obtain ⟨c', hc', _, hat⟩ := row_block hR hm hb
                refine ⟨_, _, rfl, hn.1, hn.2, (fun x => by cases x), .inr ⟨b, off, rfl, kills_old hR hD ⟨⟨_, hm⟩, hb⟩, ?_⟩⟩
                have := rat_take (n := n * r.2.1) (rat_drop (n := off) hat)
                rw [Nat.zero_add] at this
                exact rat_map (G := G) (G' := G.kills D) rfl ih _ _ _ this
              · exact ⟨_, 0, rfl, by omega, by omega, fun _ => rfl, .inl (by simp)⟩
          · simp only [Rv]
        · simp only [Rv]
      · exact same
    · rename_i l tot off e0
      cases e0
      split
      · rename_i hD
        split
        · rename_i r hr
          obtain ⟨hm, ht⟩ := row?_some hr
          simp only [Rv] at h ⊢
          obtain ⟨b, hb, rfl⟩ := (h.2.2 _ _ _ hm).2 ht.symm
          obtain ⟨c', hc', _, hat⟩ := row_block hR hm hb
          refine ⟨b, off, rfl, kills_old hR hD ⟨⟨_, hm⟩, hb⟩, ?_⟩
          have := rat_drop (n := off) hat
          rw [Nat.zero_add] at this
          exact rat_map (G := G) (G' := G.kills D) rfl ih _ _ _ this
        · simp only [Rv]
      · exact same
    · rename_i l0 e0
      cases e0
      split
      · rename_i hD
        split
        · rename_i es hm
          simp only [Rv] at h ⊢
          obtain ⟨b, hb, rfl⟩ := h.2.2 es hm
          obtain ⟨b', en, cl, h1, h2, h3, h9⟩ := hR.ok _ _ hm
          rw [hb] at h1; cases h1
          obtain ⟨h4, h5⟩ := ents_iff.1 h3
          exact .inr ⟨b, en, cl, rfl, kills_old hR hD ⟨⟨_, hm⟩, hb⟩, h2, h4, rvs_tell ih _ _ h5, h9⟩
        · simp only [Rv]
      · exact same
    · rename_i e0; cases e0
      simp only [Rv] at h ⊢
      obtain ⟨vs, e, hs⟩ := h
      exact ⟨vs, e, rvs_tell ih _ _ hs⟩
    · rename_i e0; cases e0
      simp only [Rv] at h ⊢
      obtain ⟨vs, e, hs⟩ := h
      exact ⟨vs, e, rvs_tell ih _ _ hs⟩
    · rename_i e0; cases e0
      simp only [Rv] at h ⊢
      obtain ⟨vs, e, hs⟩ := h
      exact ⟨vs, e, rvs_tell ih _ _ hs⟩
    · rename_i e0; cases e0
      simp only [Rv] at h ⊢
      obtain ⟨vs, e, hs⟩ := h
      exact ⟨vs, e, rvs_tell ih _ _ hs⟩
    · exact same

/-- Slots told anew; what stands in D is given up. -/
theorem View.shutD (D : Nat → Bool) {fr fr' : Fr} {S : St} (h : ∀ i, fr' i = fr i ∨ fr' i = .junk ∨ ∃ d, fr' i = seen D S d (fr i)) : View fr S fr' (S.kills D) := fun n G a h1 h2 h3 => by
  subst h1
  refine ⟨G.kills D, rfl, rfl, kills_rel h2 D, kills_step D G, h3.1, h3.2.1, fun i hi => ?_⟩
  rcases h i with e | e | ⟨d, e⟩
  · rw [e]; exact (h3.2.2 i hi).step (kills_step D G)
  · rw [e]; simp [Rv]
  · rw [e]; exact seen_ok h2 D d _ _ (h3.2.2 i hi)

def freshIn (S0 : St) (l : Nat) : Bool := decide (S0.n ≤ l)
/-- Values that stay whatever the memory. -/
def AV.flat : AV → Bool
  | .sc _ => true
  | .ifc _ x => x.flat
  | _ => false
def flatT : AV → Bool
  | .tup vs => vs.all AV.flat
  | x => x.flat
theorem flat_rv {G G' : Ctx} : ∀ {x : AV} {v : Value}, x.flat = true → Rv G x v → Rv G' x v
  | .sc u, v, _, h => by simpa only [Rv] using h
  | .ifc t x, v, hf, h => by
    simp only [Rv] at h ⊢
    obtain ⟨u, e, hs⟩ := h
    exact ⟨u, e, flat_rv (by simpa [AV.flat] using hf) hs⟩
theorem flatT_rv {G G' : Ctx} : ∀ {x : AV} {v : Value}, flatT x = true → Rv G x v → Rv G' x v := by
  intro x v hf h
  cases x with
  | tup vs =>
    simp only [Rv] at h ⊢
    obtain ⟨us, e, hs⟩ := h
    refine ⟨us, e, ?_⟩
    simp only [flatT, List.all_eq_true] at hf
    clear e
    induction vs generalizing us with
    | nil => simpa only [Rvs] using hs
    | cons x xs ih =>
      simp only [Rvs] at hs ⊢
      obtain ⟨v, us', e, hv, ht⟩ := hs
      exact ⟨v, us', e, flat_rv (hf x (by simp)) hv, ih us' ht (fun y hy => hf y (by simp [hy]))⟩
  | sc u => exact flat_rv (by simpa [flatT] using hf) h
  | ifc t y => exact flat_rv (by simpa [flatT] using hf) h
  | _ => simp [flatT, AV.flat] at hf

end Go.Proofs.Ytfihpbeihlpfcaa.Ev
