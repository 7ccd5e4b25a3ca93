/- Names: what a value leads to lies below a bound; what is told of the store may be told anew, less or weaker. -/
import Derived.Test.YtfihpbeihlpfcaaZEvJ
set_option linter.unusedVariables false
set_option linter.unusedSimpArgs false
namespace Go.Proofs.Ytfihpbeihlpfcaa.Ev
open Go Go.RowKit

mutual
/-- Every own row that a value leads to has a name below k. -/
def AV.bel (k : Nat) : AV → Prop
  | .sc _ => True
  | .ro _ cs => bels k cs
  | .ref l _ _ _ => l < k
  | .ptr l _ _ => l < k
  | .rop cs => bels k cs
  | .clo _ cs => bels k cs
  | .bnd _ cs => bels k cs
  | .mp l => l < k
  | .rom _ vs => bels k vs
  | .it l => l < k
  | .stamp l _ => l < k
  | .agg cs => bels k cs
  | .tup cs => bels k cs
  | .ifc _ x => x.bel k
  | .junk => True
def bels (k : Nat) : List AV → Prop
  | [] => True
  | x :: xs => x.bel k ∧ bels k xs
end

theorem bels_iff {k : Nat} : ∀ {cs : List AV}, bels k cs ↔ ∀ x ∈ cs, x.bel k
  | [] => by simp [bels]
  | x :: xs => by simp [bels, bels_iff (cs := xs)]

mutual
theorem Rv.bel {G : Ctx} : ∀ (x : AV) (v : Value), Rv G x v → x.bel G.S.n
  | .sc u, v, h => by simp only [AV.bel]
  | .ro n cs, v, h => by
    simp only [Rv] at h
    simp only [AV.bel]
    obtain ⟨a, c, e, h1, h2, h0, h3⟩ := h
    rcases h3 with h3 | ⟨b, off, e1, ho, hat⟩
    · subst h3; simp [bels]
    · exact Rat.bel cs b off hat
  | .ref l t o n, v, h => by simp only [Rv] at h; simp only [AV.bel]; exact h.1
  | .ptr l t o, v, h => by simp only [Rv] at h; simp only [AV.bel]; exact h.1
  | .rop cs, v, h => by
    simp only [Rv] at h
    simp only [AV.bel]
    obtain ⟨b, off, e, ho, hat⟩ := h
    exact Rat.bel cs b off hat
  | .clo f caps, v, h => by
    simp only [Rv] at h
    simp only [AV.bel]
    obtain ⟨vs, e, hs⟩ := h
    exact Rvs.bel caps vs hs
  | .bnd f caps, v, h => by
    simp only [Rv] at h
    simp only [AV.bel]
    obtain ⟨vs, e, hs⟩ := h
    exact Rvs.bel caps vs hs
  | .mp l, v, h => by simp only [Rv] at h; simp only [AV.bel]; exact h.1
  | .rom ks vs, v, h => by
    simp only [Rv] at h
    simp only [AV.bel]
    rcases h with ⟨_, _, h⟩ | ⟨b, en, cl, e, ho, hb, hk, hs⟩
    · subst h; simp [bels]
    · exact Rvs.bel vs _ hs.1
  | .it l, v, h => by simp only [Rv] at h; simp only [AV.bel]; exact h.1
  | .stamp l k, v, h => by simp only [Rv] at h; simp only [AV.bel]; exact h.1
  | .agg cs, v, h => by
    simp only [Rv] at h
    simp only [AV.bel]
    obtain ⟨vs, e, hs⟩ := h
    exact Rvs.bel cs vs hs
  | .tup cs, v, h => by
    simp only [Rv] at h
    simp only [AV.bel]
    obtain ⟨vs, e, hs⟩ := h
    exact Rvs.bel cs vs hs
  | .ifc t x, v, h => by
    simp only [Rv] at h
    simp only [AV.bel]
    obtain ⟨u, e, hs⟩ := h
    exact Rv.bel x u hs
  | .junk, v, h => by simp only [AV.bel]
theorem Rat.bel {G : Ctx} : ∀ (xs : List AV) (b off : Nat), Rat G xs b off → bels G.S.n xs
  | [], _, _, _ => by simp only [bels]
  | x :: xs, b, off, h => by
    simp only [Rat] at h
    simp only [bels]
    obtain ⟨⟨v, e, hv⟩, ht⟩ := h
    exact ⟨Rv.bel x v hv, Rat.bel xs b (off + 1) ht⟩
theorem Rvs.bel {G : Ctx} : ∀ (xs : List AV) (vs : List Value), Rvs G xs vs → bels G.S.n xs
  | [], _, _ => by simp only [bels]
  | x :: xs, vs, h => by
    simp only [Rvs] at h
    simp only [bels]
    obtain ⟨v, us, e, hv, ht⟩ := h
    exact ⟨Rv.bel x v hv, Rvs.bel xs us ht⟩
end

def It.bel (k : Nat) : It → Prop
  | .str _ _ => True
  | .mapz _ _ es => bels k (es.map (·.2))
  | .map cur left => bels k (left.map (·.2)) ∧ bels k (cur.toList.map (·.2))
def Ob.bel (k : Nat) : Ob → Prop
  | .row _ _ cs => bels k cs
  | .map es => bels k (es.map (·.2))
  | .iter i => i.bel k

theorem Ents.bel {G : Ctx} : ∀ {es : List (Value × AV)} {us : List MapEntry}, Ents G es us → bels G.S.n (es.map (·.2))
  | [], us, h => by simp [bels]
  | x :: xs, us, h => by
    simp only [Ents] at h
    obtain ⟨e, us', rfl, h1, h2, h3⟩ := h
    simp only [List.map_cons, bels]
    exact ⟨Rv.bel _ _ h2, Ents.bel h3⟩

theorem ObOk.bel {G : Ctx} {l : Nat} {o : Ob} (h : ObOk G l o) : o.bel G.S.n := by
  cases o with
  | row e k cs =>
    rcases h.2 with ⟨a1, a2⟩ | ⟨b, c, a1, a2, a3, a4⟩
    · subst a2; simp [Ob.bel, bels]
    · exact Rat.bel cs b 0 a4
  | map es =>
    obtain ⟨b, en, cl, a1, a2, a3, _⟩ := h
    exact Ents.bel a3
  | iter i =>
    obtain ⟨b, a1, a2⟩ := h
    cases i with
    | mapz kd z es => exact a2.elim
    | str s p => trivial
    | map cur left =>
      rcases a2 with ⟨s, e, la, h1, rfl, rfl⟩ | ⟨bm, s, e, la, en, cl, h1, h2, h3, h4, h5, h6, h8, h7, h9⟩
      · simp [Ob.bel, It.bel, bels]
      · refine ⟨Ents.bel h7, ?_⟩
        cases cur with
        | none => simp [bels]
        | some c =>
          obtain ⟨q1, st, x, q2, q3, q4, q5⟩ := h9 c rfl
          simp only [Option.toList_some, List.map_cons, List.map_nil, bels]
          exact ⟨Rv.bel _ _ q5, trivial⟩

/-- The store T tells of S less: names below its own bound alone. -/
def Told (T S : St) : Prop := ∀ l o, T.m l = some o → l < T.n ∧ S.m l = some o ∧ o.bel T.n

/-- A store whose names are in order. -/
def Clean (S : St) : Prop := Told S S
theorem Rel.clean {G : Ctx} (h : Rel G) : Clean G.S := fun l o ho => ⟨live_lt h ho, ho, (h.ok l o ho).bel⟩

def Ctx.told (G : Ctx) (T : St) : Ctx := { G with S := T }

section
variable {G : Ctx} {T : St}
theorem told_owned (ht : Told T G.S) {b : Nat} (h : (G.told T).owned b) : G.owned b := by
  obtain ⟨l, ⟨o, ho⟩, hm⟩ := h
  exact ⟨l, ⟨o, (ht l o ho).2.1⟩, hm⟩
theorem told_old (ht : Told T G.S) {b : Nat} (h : G.old b) : (G.told T).old b := ⟨h.1, fun hm => h.2 (told_owned ht hm)⟩

mutual
theorem Rv.told (ht : Told T G.S) : ∀ (x : AV) (v : Value), x.bel T.n → Rv G x v → Rv (G.told T) x v
  | .sc u, v, hb, h => by simpa only [Rv] using h
  | .ro n cs, v, hb, h => by
    simp only [Rv, AV.bel] at h hb ⊢
    obtain ⟨a, c, e, h1, h2, h0, h3⟩ := h
    refine ⟨a, c, e, h1, h2, h0, ?_⟩
    rcases h3 with h3 | ⟨b, off, e1, ho, hat⟩
    · exact .inl h3
    · exact .inr ⟨b, off, e1, told_old ht ho, Rat.told ht cs b off hb hat⟩
  | .ref l t o n, v, hb, h => by
    simp only [Rv, AV.bel] at h hb ⊢
    exact ⟨hb, h.2.1, fun e k cs hm => h.2.2 e k cs (ht _ _ hm).2.1⟩
  | .ptr l t o, v, hb, h => by
    simp only [Rv, AV.bel] at h hb ⊢
    exact ⟨hb, h.2.1, fun e k cs hm => h.2.2 e k cs (ht _ _ hm).2.1⟩
  | .rop cs, v, hb, h => by
    simp only [Rv, AV.bel] at h hb ⊢
    obtain ⟨b, off, e, ho, hat⟩ := h
    exact ⟨b, off, e, told_old ht ho, Rat.told ht cs b off hb hat⟩
  | .clo f caps, v, hb, h => by
    simp only [Rv, AV.bel] at h hb ⊢
    obtain ⟨vs, e, hs⟩ := h
    exact ⟨vs, e, Rvs.told ht caps vs hb hs⟩
  | .bnd f caps, v, hb, h => by
    simp only [Rv, AV.bel] at h hb ⊢
    obtain ⟨vs, e, hs⟩ := h
    exact ⟨vs, e, Rvs.told ht caps vs hb hs⟩
  | .mp l, v, hb, h => by
    simp only [Rv, AV.bel] at h hb ⊢
    exact ⟨hb, h.2.1, fun es hm => h.2.2 es (ht _ _ hm).2.1⟩
  | .rom ks vs, v, hb, h => by
    simp only [Rv, AV.bel] at h hb ⊢
    rcases h with h | ⟨b, en, cl, e, ho, hb2, hk, hs⟩
    · exact .inl h
    · exact .inr ⟨b, en, cl, e, told_old ht ho, hb2, hk, Rvs.told ht vs _ hb hs.1, hs.2⟩
  | .it l, v, hb, h => by
    simp only [Rv, AV.bel] at h hb ⊢
    exact ⟨hb, h.2.1, fun i hm => h.2.2 i (ht _ _ hm).2.1⟩
  | .stamp l k, v, hb, h => by
    simp only [Rv, AV.bel] at h hb ⊢
    obtain ⟨h1, n, h2, h3⟩ := h
    exact ⟨hb, n, h2, fun es hm => h3 es (ht _ _ hm).2.1⟩
  | .agg cs, v, hb, h => by
    simp only [Rv, AV.bel] at h hb ⊢
    obtain ⟨vs, e, hs⟩ := h
    exact ⟨vs, e, Rvs.told ht cs vs hb hs⟩
  | .tup cs, v, hb, h => by
    simp only [Rv, AV.bel] at h hb ⊢
    obtain ⟨vs, e, hs⟩ := h
    exact ⟨vs, e, Rvs.told ht cs vs hb hs⟩
  | .ifc t x, v, hb, h => by
    simp only [Rv, AV.bel] at h hb ⊢
    obtain ⟨u, e, hs⟩ := h
    exact ⟨u, e, Rv.told ht x u hb hs⟩
  | .junk, v, hb, h => by simp only [Rv]
theorem Rat.told (ht : Told T G.S) : ∀ (xs : List AV) (b off : Nat), bels T.n xs → Rat G xs b off → Rat (G.told T) xs b off
  | [], _, _, _, _ => by simp only [Rat]
  | x :: xs, b, off, hb, h => by
    simp only [Rat, bels] at h hb ⊢
    obtain ⟨⟨v, e, hv⟩, hr⟩ := h
    exact ⟨⟨v, e, Rv.told ht x v hb.1 hv⟩, Rat.told ht xs b (off + 1) hb.2 hr⟩
theorem Rvs.told (ht : Told T G.S) : ∀ (xs : List AV) (vs : List Value), bels T.n xs → Rvs G xs vs → Rvs (G.told T) xs vs
  | [], vs, _, h => by simpa only [Rvs] using h
  | x :: xs, vs, hb, h => by
    simp only [Rvs, bels] at h hb ⊢
    obtain ⟨v, us, e, hv, hr⟩ := h
    exact ⟨v, us, e, Rv.told ht x v hb.1 hv, Rvs.told ht xs us hb.2 hr⟩
end

theorem Ents.told (ht : Told T G.S) : ∀ {es : List (Value × AV)} {us : List MapEntry}, bels T.n (es.map (·.2)) → Ents G es us → Ents (G.told T) es us
  | [], us, _, h => by simpa only [Ents] using h
  | x :: xs, us, hb, h => by
    simp only [Ents, List.map_cons, bels] at h hb ⊢
    obtain ⟨e, us', rfl, h1, h2, h3⟩ := h
    exact ⟨e, us', rfl, h1, Rv.told ht _ _ hb.1 h2, Ents.told ht hb.2 h3⟩

theorem told_rel (hR : Rel G) (ht : Told T G.S) : Rel (G.told T) := by
  refine ⟨fun l hl => ?_, fun l o h => ?_, fun l l' b h h' => ?_⟩
  · have h2 : T.n ≤ l := hl
    cases hm : T.m l with
    | none => exact hm
    | some o => have := (ht l o hm).1; omega
  · obtain ⟨h1, h2, h3⟩ := ht l o h
    have ho := hR.ok l o h2
    cases o with
    | row e k cs =>
      refine ⟨ho.1, ?_⟩
      rcases ho.2 with a | ⟨b, c, a1, a2, a3, a4⟩
      · exact .inl a
      · exact .inr ⟨b, c, a1, a2, a3, Rat.told ht cs b 0 h3 a4⟩
    | map es =>
      obtain ⟨b, en, cl, a1, a2, a3, a4⟩ := ho
      exact ⟨b, en, cl, a1, a2, Ents.told ht h3 a3, a4⟩
    | iter i =>
      obtain ⟨b, a1, a2⟩ := ho
      refine ⟨b, a1, ?_⟩
      cases i with
      | mapz kd z es => exact a2.elim
      | str s p => exact a2
      | map cur left =>
        rcases a2 with ⟨s, e, la, h1, h2⟩ | ⟨bm, s, e, la, en, cl, q1, q2, q3, q4, q5, q6, q8, q7, q9⟩
        · exact .inl ⟨s, e, la, h1, h2⟩
        · refine .inr ⟨bm, s, e, la, en, cl, q1, told_old ht q2, q3, q4, q5, q6, q8, Ents.told ht h3.1 q7, fun c hc => ?_⟩
          subst hc
          obtain ⟨r1, st, x, r2, r3, r4, r5⟩ := q9 c rfl
          have hb := h3.2
          simp only [Option.toList_some, List.map_cons, List.map_nil, bels] at hb
          exact ⟨r1, st, x, r2, r3, r4, Rv.told ht _ _ hb.1 r5⟩
  · obtain ⟨⟨o, ho⟩, hm⟩ := h
    obtain ⟨⟨o', ho'⟩, hm'⟩ := h'
    exact hR.inj l l' b ⟨⟨o, (ht l o ho).2.1⟩, hm⟩ ⟨⟨o', (ht l' o' ho').2.1⟩, hm'⟩

theorem told_step {G0 : Ctx} (hs : Step G0 G) (ht : Told T G.S) (hn : G0.S.n ≤ T.n) : Step G0 (G.told T) := by
  refine ⟨hs.os, hs.tape, hs.drawn, hs.output, hs.size, hs.keep, fun b hb hm => hs.own b hb (told_owned ht hm), hn, fun l o hl ho => ?_, hs.maps⟩
  have h := hs.row l o hl (ht l o ho).2.1
  cases o with
  | row e k cs => exact h
  | map es => exact h
  | iter i => exact h
end

/-- What is told of a value may be weaker. -/
def Wk (x y : AV) : Prop := ∀ (G : Ctx) (v : Value), Rv G x v → Rv G y v
theorem Wk.refl (x : AV) : Wk x x := fun _ _ h => h
theorem wk_junk (x : AV) : Wk x .junk = True := eq_true fun _ _ _ => by simp [Rv]
theorem wk_nil : Wk (.sc (.slice none 0 0)) (.ro 0 []) = True := eq_true fun G v h => by
  have := scR h
  subst this
  simp only [Rv]
  exact ⟨none, 0, rfl, by omega, by omega, fun _ => rfl, .inl trivial⟩
/-- A frame given by its slots; the others are forgotten. -/
def frL : List (Nat × AV) → Fr
  | [] => fun _ => .junk
  | (i, x) :: A => (frL A).put (some i) x
theorem frL_nil (i : Nat) : frL [] i = .junk := rfl
theorem frL_cons (j : Nat) (x : AV) (A : List (Nat × AV)) (i : Nat) : frL ((j, x) :: A) i = if j = i then x else frL A i := by simp [frL, Fr.put]

/-- A value that may be told as another one. -/
def fit (x y : AV) : Prop := x = y ∨ (x = .sc (.slice none 0 0) ∧ y = .ro 0 []) ∨ y = .junk
theorem fit.wk {x y : AV} (h : fit x y) : Wk x y := by
  rcases h with rfl | ⟨rfl, rfl⟩ | rfl
  · exact Wk.refl _
  · rw [wk_nil]; trivial
  · rw [wk_junk]; trivial
/-- The slots are so. -/
def fits : List (Nat × AV) → Fr → Prop
  | [], _ => True
  | (i, x) :: A, fr => fit (fr i) x ∧ fits A fr
def belF (k : Nat) : List (Nat × AV) → Prop
  | [] => True
  | (_, x) :: A => x.bel k ∧ belF k A
theorem fits_wk {A : List (Nat × AV)} {fr : Fr} (h : fits A fr) (i : Nat) : Wk (fr i) (frL A i) := by
  induction A with
  | nil => rw [frL_nil, wk_junk]; trivial
  | cons p A ih =>
    obtain ⟨j, x⟩ := p
    rw [frL_cons]
    simp only [fits] at h
    split
    · rename_i e; subst e; exact h.1.wk
    · exact ih h.2
theorem belF_bel {k : Nat} {A : List (Nat × AV)} (h : belF k A) (i : Nat) : (frL A i).bel k := by
  induction A with
  | nil => simp [frL_nil, AV.bel]
  | cons p A ih =>
    obtain ⟨j, x⟩ := p
    rw [frL_cons]
    simp only [belF] at h
    split
    · exact h.1
    · exact ih h.2

section
variable {P : Program} {n : Nat} {Q : Exit → Fr → St → Prop} {fr : Fr} {S : St}

/-- What comes out may be told anew. -/
theorem SWp.retell {c : SC} {Q' : Exit → Fr → St → Prop} (h : SWp P n c Q fr S)
    (hq : ∀ e fr1 S1, Q e fr1 S1 → Q' e fr1 S1 ∨ ∃ fr2 S2, (∀ i, Wk (fr1 i) (fr2 i) ∧ (fr2 i).bel S2.n) ∧ Told S2 S1 ∧ S.n ≤ S2.n ∧ Q' e fr2 S2) : SWp P n c Q' fr S := fun c' hc G a h1 h2 h3 =>
  wp_mono (h c' hc G a h1 h2 h3) fun e a' w' ⟨G', fr', g1, g2, g3, g4, g5⟩ => by
    rcases hq e fr' G'.S g5 with hq | ⟨fr2, S2, k1, k2, k3, k4⟩
    · exact ⟨G', fr', g1, g2, g3, g4, hq⟩
    · exact ⟨G'.told S2, fr2, g1, told_rel g2 k2, told_step g3 k2 (by rw [h1]; exact k3), ⟨g4.1, g4.2.1, fun i hi => Rv.told k2 _ _ (k1 i).2 ((k1 i).1 _ _ (g4.2.2 i hi))⟩, k4⟩

/-- What comes in may be told anew, no name given up. -/
theorem SWp.tell {c : SC} {fr' : Fr} {S' : St} (hw : ∀ i, Wk (fr i) (fr' i)) (hn : S'.n = S.n) (ht : ∀ l o, S'.m l = some o → S.m l = some o) (h : SWp P n c Q fr' S') : SWp P n c Q fr S := fun c' hc G a h1 h2 h3 => by
  subst h1
  have h2c := h2.clean
  have k : Told S' G.S := fun l o ho => by
    obtain ⟨a1, a2, a3⟩ := h2c l o (ht l o ho)
    exact ⟨by rw [hn]; exact a1, a2, by rw [hn]; exact a3⟩
  have hst : Step G (G.told S') := told_step (Step.refl G) k (by rw [hn]; exact Nat.le_refl _)
  have := h c' hc (G.told S') a rfl (told_rel h2 k) ⟨h3.1, h3.2.1, fun i hi => ?_⟩
  · exact wp_mono this fun _ _ _ hp => hp.of_step hst
  · have hv := h3.2.2 i hi
    exact Rv.told k _ _ (by rw [hn]; exact Rv.bel _ _ (hw i _ _ hv)) (hw i _ _ hv)

/-- A loop whose head is told by a state s: slots F s, store R s. -/
theorem loop_go {σ : Type} (F : σ → List (Nat × AV)) (R : σ → St) (I : σ → Prop) (m : σ → Nat) (s0 : σ) {x : SC}
    (h0 : I s0 ∧ fits (F s0) fr ∧ (R s0).n = S.n ∧ ∀ l o, (R s0).m l = some o → S.m l = some o) (hn : ∀ s, (R s).n = (R s0).n)
    (round : ∀ s, I s → SWp P n x (thenQ (fun fr' S' => ∃ s', m s' < m s ∧ I s' ∧ fits (F s') fr' ∧ belF (R s').n (F s') ∧ Told (R s') S') Q) (frL (F s)) (R s)) :
    SWp P n (.loop x) Q fr S := by
  obtain ⟨i0, f0, n0, t0⟩ := h0
  refine SWp.tell (fr' := frL (F s0)) (S' := R s0) (fun i => fits_wk f0 i) n0 t0 ?_
  refine swp_loop (fun s fr S => I s ∧ fr = frL (F s) ∧ S = R s) m ?_ s0 _ _ ⟨i0, rfl, rfl⟩
  rintro s _ _ ⟨hi, rfl, rfl⟩
  refine (round s hi).retell fun e fr1 S1 hq => ?_
  cases e with
  | normal =>
    obtain ⟨s', k1, k2, k3, k4, k5⟩ := hq
    exact .inr ⟨frL (F s'), R s', fun i => ⟨fits_wk k3 i, belF_bel k4 i⟩, k5, by rw [hn s, hn s']; exact Nat.le_refl _, s', k1, k2, rfl, rfl⟩
  | _ => exact .inl hq
end

/-! ### regions that draw -/
/-- What a region's operations leave lies below k. -/
def belD (k : Nat) (fr : Fr) : List SOper → Prop
  | [] => True
  | o :: os => (match o.dst with | some d => (fr d).bel k | none => True) ∧ belD k fr os

section
variable {P : Program} {n : Nat} {Q : Exit → Fr → St → Prop} {fr : Fr} {S : St}
theorem belD_at {ops : Array Oper} {k : Nat} {fr : Fr} : ∀ {l : List Oper} {sl : List SOper}, l.mapM (sOper P n ops) = some sl → belD k fr sl → ∀ o ∈ l, ∀ d, o.dst = some d → (fr d).bel k
  | [], sl, hs, h, o, ho, d, hd => by simp at ho
  | x :: l, sl, hs, h, o, ho, d, hd => by
    simp only [List.mapM_cons, Option.bind_eq_bind, Option.bind_eq_some_iff, Option.pure_def, Option.some.injEq] at hs
    obtain ⟨s, hs1, sl', hs2, rfl⟩ := hs
    simp only [belD] at h
    rcases List.mem_cons.1 ho with rfl | ho
    · have := (sOper_parts hs1).2.2
      rw [this, hd] at h
      exact h.1
    · exact belD_at hs2 h.2 o ho d hd

theorem lexA_keeps {ops : Array Oper} {K : Fr → Prop} : ∀ (l : List Oper) (fr : Fr), lexA P ops S K l fr → lexA P ops S (fun fr' => K fr' ∧ ∀ i, (∀ o ∈ l, o.dst ≠ some i) → fr' i = fr i) l fr := by
  have key : ∀ (l : List Oper) (fr : Fr) (K : Fr → Prop), lexA P ops S K l fr → lexA P ops S (fun fr' => K fr' ∧ ∀ i, (∀ o ∈ l, o.dst ≠ some i) → fr' i = fr i) l fr := by
    intro l
    induction l with
    | nil => intro fr K h; exact ⟨h, fun _ _ => rfl⟩
    | cons o l ih =>
      intro fr K h
      obtain ⟨r, hy, h2⟩ := h
      refine ⟨r, hy, ?_⟩
      have h3 := ih _ _ h2
      have mono : ∀ (l : List Oper) (fr : Fr) (K K' : Fr → Prop), (∀ fr, K fr → K' fr) → lexA P ops S K l fr → lexA P ops S K' l fr := by
        intro l
        induction l with
        | nil => intro fr K K' hk h; exact hk _ h
        | cons o l ih => intro fr K K' hk ⟨r, hy, h⟩; exact ⟨r, hy, ih _ _ _ hk h⟩
      refine mono _ _ _ _ ?_ h3
      rintro fr' ⟨a, b⟩
      refine ⟨a, fun i hi => ?_⟩
      rw [b i fun o' ho' => hi o' (List.mem_cons_of_mem _ ho')]
      exact put_off (hi o (List.mem_cons_self ..))
  exact fun l fr h => key l fr K h

theorem awp_dops {id : Nat} {ops : Array Oper} {l : List SOper} (hl : ops.toList.mapM (sOper P n ops) = some l) (hb1 : Region.lexB .any ops = true) (hb2 : P.follows .mixedOrders = true)
    (h : dops P S l (fun fr' => belD S.n fr' l ∧ Q .normal fr' S) fr) : AWp P n (.region id ops true) Q fr S := by
    intro G a h1 h2 h3
    subst h1
    have hx := lexA_keeps ops.toList fr (dops_lex ops.toList _ hl fr h)
    have hmono : lexA P ops G.S (fun fr' => ∀ S', Ext G.S S' → (fun (e : Exit) (fr' : Fr) (S' : St) => e = .normal ∧ Ext G.S S' ∧ (belD G.S.n fr' l ∧ Q .normal fr' G.S) ∧ ∀ i, (∀ o ∈ ops.toList, o.dst ≠ some i) → fr' i = fr i) .normal fr' S') ops.toList fr := by
      have mono : ∀ (l : List Oper) (fr : Fr) (K K' : Fr → Prop), (∀ fr, K fr → K' fr) → lexA P ops G.S K l fr → lexA P ops G.S K' l fr := by
        intro l
        induction l with
        | nil => intro fr K K' hk h; exact hk _ h
        | cons o l ih => intro fr K K' hk ⟨r, hy, h⟩; exact ⟨r, hy, ih _ _ _ hk h⟩
      exact mono _ _ _ _ (fun fr' hh S' hE => ⟨rfl, hE, hh.1, hh.2⟩) hx
    refine wp_mono (awp_regionD (id := id) (Q := fun e fr' S' => e = .normal ∧ Ext G.S S' ∧ (belD G.S.n fr' l ∧ Q .normal fr' G.S) ∧ ∀ i, (∀ o ∈ ops.toList, o.dst ≠ some i) → fr' i = fr i) hb2 hb1 (fun i o ho => mapM_get hl i o (by simpa using ho)) hmono G a rfl h2 h3) ?_
    rintro e a' w' ⟨G', fr', rfl, g2, g3, g4, rfl, hE, ⟨hbel, hQ⟩, hk⟩
    have ht : Told G.S G'.S := fun l o ho => by
      obtain ⟨b1, b2, b3⟩ := h2.clean l o ho
      exact ⟨b1, hE.real h2 ho, b3⟩
    refine ⟨G'.told G.S, fr', rfl, told_rel g2 ht, told_step g3 ht (Nat.le_refl _), ⟨g4.1, g4.2.1, fun i hi => ?_⟩, hQ⟩
    refine Rv.told ht _ _ ?_ (g4.2.2 i hi)
    by_cases hd : ∀ o ∈ ops.toList, o.dst ≠ some i
    · rw [hk i hd]; exact Rv.bel _ _ (h3.2.2 i hi)
    · simp only [Classical.not_forall] at hd
      obtain ⟨o, ho, hd⟩ := hd
      exact belD_at hl hbel o ho i (by simpa using hd)
theorem swp_regD' {l : List SOper} (h : dops P S l (fun fr' => belD S.n fr' l ∧ Q .normal fr' S) fr) : SWp P n (.regD l) Q fr S := fun c hc => by
  have hc0 := hc
  cases c <;> simp only [strip, Option.bind_eq_some_iff] at hc
  case region id ops draw =>
    obtain ⟨rfl, hl, hb1, hb2⟩ := strip_D hc0
    exact awp_dops hl hb1 hb2 h
  case cond => obtain ⟨q, _, hc⟩ := hc; split at hc <;> (first | (cases hc; done) | (simp [Option.bind_eq_some_iff] at hc; done))
  all_goals simp at hc
end
end Go.Proofs.Ytfihpbeihlpfcaa.Ev
