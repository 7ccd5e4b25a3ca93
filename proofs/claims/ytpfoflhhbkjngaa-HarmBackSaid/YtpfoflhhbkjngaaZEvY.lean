/- Loops at whose end the store is told anew: a row that is new in each round is written no more. -/
import Derived.Test.YtpfoflhhbkjngaaZEvX
set_option linter.unusedVariables false
set_option linter.unusedSimpArgs false
namespace Go.Proofs.Ytpfoflhhbkjngaa.Ev
open Go Go.RowKit
section
variable {P : Program} {n : Nat} {Q : Exit → Fr → St → Prop} {fr : Fr} {S : St}
theorem SWp.vmono {c : SC} {Q' : Exit → Fr → St → Prop} (h : SWp P n c Q' fr S) (hq : ∀ e fr S, Q' e fr S → ∃ fr' S', View fr S fr' S' ∧ Q e fr' S') : SWp P n c Q fr S := fun c' hc G a h1 h2 h3 =>
  wp_mono (h c' hc G a h1 h2 h3) fun e a' w' ⟨G', fr', g1, g2, g3, g4, g5⟩ => by
    obtain ⟨fr2, S2, hv, hk⟩ := hq e fr' G'.S g5
    obtain ⟨G2, w2, s2, r2, t2, f2⟩ := hv n G' a' rfl g2 g4
    exact ⟨G2, fr2, w2.trans g1, r2, g3.trans t2, f2, by rw [s2]; exact hk⟩
def viewed (K : Fr → St → Prop) (fr : Fr) (S : St) : Prop := ∃ fr' S', View fr S fr' S' ∧ K fr' S'
theorem viewed_done {K : Fr → St → Prop} (h : K fr S) : viewed K fr S := ⟨fr, S, View.refl _ _, h⟩
theorem viewed_of {K : Fr → St → Prop} {fr' : Fr} {S' : St} (hv : View fr S fr' S') (h : viewed K fr' S') : viewed K fr S := by
  obtain ⟨fr2, S2, h1, h2⟩ := h
  exact ⟨fr2, S2, hv.trans h1, h2⟩
theorem loopV {σ : Type} (hS : Clean S) {L0 : List (Option Ob)} (C : List Nat) {V : List (Nat × AV)} (hV : keep C fr = V) (F : σ → List (Nat × AV)) (R : σ → List (Option Ob)) (I : σ → Prop) (m : σ → Nat) (s0 : σ) {x : SC}
    (h0 : I s0 ∧ fits (F s0) fr ∧ tolds (S.nm (R s0).length) (R s0) L0) (hn : ∀ s, (R s).length = L0.length)
    (round : ∀ s, I s → SWp P n x (thenQ (viewed fun fr' S' => ∃ s', (m s' < m s ∧ I s') ∧ again S (V ++ F s') (R s') fr' S') Q) (frL (V ++ F s)) (S.stk (R s))) :
    SWp P n (.loop x) Q fr (S.stk L0) := by
  refine loopC hS C hV F R I m s0 h0 hn fun s hs => (round s hs).vmono fun e fr' S' hq => ?_
  cases e with
  | normal => exact hq
  | _ => exact ⟨fr', S', View.refl _ _, hq⟩
theorem View.freezeR {α : Type} {k : Nat} [Enc α k] {L : List (Option Ob)} (i j e : Nat) (l : List α) (h : fit (fr i) (own S j l)) (hr : rowAt L j (l.length * k) = some (e, k, cellsL l)) (hj : j < L.length) :
    View fr (S.stk L) (fr.put (some i) (sl l)) (S.stk (L.set j none)) := by
  have h : fr i = own S j l := by
    rcases h with h | ⟨_, h⟩ | h
    · exact h
    · cases h
    · cases h
  rw [← stk_row S] at hr
  obtain ⟨hm, ht⟩ := row?_some hr
  have := View.freeze (i := i) (k := k) h hm ht (Nat.le_refl _)
  rw [stk_killL S hj, List.take_of_length_le (by rw [cellsL_len]; exact Nat.le_refl _)] at this
  exact this
end
/-! ### own rows lent in a region that draws its order -/
theorem row_ext2 {S S' : St} (hE : Ext S S') {l tot : Nat} {r : TypeId × Nat × List AV} (h : S.row? l tot = some r) : S'.row? l tot = some r := by
  obtain ⟨h1, h2⟩ := row?_some h
  rw [St.row?, (hE.2 l _ h1).row]
  dsimp only
  rw [if_pos h2]
theorem rats_weak {G : Ctx} {f g : AV → AV} (h : ∀ x v, Rv G (f x) v → Rv G (g x) v) (cs : List AV) (b off : Nat) (hr : Rat G (cs.map f) b off) : Rat G (cs.map g) b off := by
  induction cs generalizing off with
  | nil => simp only [List.map_nil, Rat]
  | cons x xs ih =>
    simp only [Rat, List.map_cons] at hr ⊢
    obtain ⟨⟨v, e, hv⟩, ht⟩ := hr
    exact ⟨⟨v, e, h x v hv⟩, ih _ ht⟩
theorem rvs_weak {G : Ctx} {f g : AV → AV} (h : ∀ x v, Rv G (f x) v → Rv G (g x) v) (cs : List AV) (vs : List Value) (hr : Rvs G (cs.map f) vs) : Rvs G (cs.map g) vs := by
  induction cs generalizing vs with
  | nil => simpa only [List.map_nil, Rvs] using hr
  | cons x xs ih =>
    simp only [Rvs, List.map_cons] at hr ⊢
    obtain ⟨v, us, e, hv, ht⟩ := hr
    exact ⟨v, us, e, h x v hv, ih _ ht⟩
theorem seen_ext {S S' : St} (hE : Ext S S') {G : Ctx} : ∀ (d : Nat) (x : AV) (v : Value), Rv G (seen (fun _ => true) S' d x) v → Rv G (seen (fun _ => true) S d x) v := by
  intro d
  induction d with
  | zero => intro x v h; exact h
  | succ d ih =>
    intro x v h
    cases x with
    | ref l tot off n =>
      simp only [seen, if_true] at h ⊢
      cases hr : S.row? l tot with
      | none => simp only [Rv]
      | some r =>
        rw [row_ext2 hE hr] at h
        dsimp only at h ⊢
        split
        · rename_i hk
          rw [if_pos hk] at h
          simp only [Rv] at h ⊢
          obtain ⟨a, c, h1, h2, h3, h4, h5⟩ := h
          refine ⟨a, c, h1, h2, h3, h4, ?_⟩
          rcases h5 with h5 | ⟨b, o, q1, q2, q3⟩
          · exact .inl (by simpa using h5)
          · exact .inr ⟨b, o, q1, q2, rats_weak ih _ _ _ q3⟩
        · simp only [Rv]
    | ptr l tot off =>
      simp only [seen, if_true] at h ⊢
      cases hr : S.row? l tot with
      | none => simp only [Rv]
      | some r =>
        rw [row_ext2 hE hr] at h
        simp only [Rv] at h ⊢
        obtain ⟨b, o, q1, q2, q3⟩ := h
        exact ⟨b, o, q1, q2, rats_weak ih _ _ _ q3⟩
    | mp l =>
      simp only [seen, if_true] at h ⊢
      cases hr : S.m l with
      | none => simp only [Rv]
      | some o =>
        cases o with
        | map es =>
          rw [(hE.2 l _ hr).map] at h
          simp only [Rv] at h ⊢
          rcases h with ⟨q1, q2, q3⟩ | ⟨b, en, cl, q1, q2, q3, q4, q5, q6⟩
          · exact .inl ⟨q1, q2, by simpa using q3⟩
          · exact .inr ⟨b, en, cl, q1, q2, q3, q4, rvs_weak ih _ _ q5, q6⟩
        | _ => simp only [Rv]
    | tup vs =>
      simp only [seen, Rv] at h ⊢
      obtain ⟨us, e, q⟩ := h
      exact ⟨us, e, rvs_weak ih _ _ q⟩
    | agg vs =>
      simp only [seen, Rv] at h ⊢
      obtain ⟨us, e, q⟩ := h
      exact ⟨us, e, rvs_weak ih _ _ q⟩
    | clo f vs =>
      simp only [seen, Rv] at h ⊢
      obtain ⟨us, e, q⟩ := h
      exact ⟨us, e, rvs_weak ih _ _ q⟩
    | bnd f vs =>
      simp only [seen, Rv] at h ⊢
      obtain ⟨us, e, q⟩ := h
      exact ⟨us, e, rvs_weak ih _ _ q⟩
    | sc u =>
      have e : seen (fun _ => true) S' (d + 1) (.sc u) = seen (fun _ => true) S (d + 1) (.sc u) := by
        cases u with
        | slice a n c => cases a <;> cases n <;> cases c <;> rfl
        | _ => rfl
      rw [← e]; exact h
    | _ => exact h
theorem callD_lend {P : Program} {f : FuncId} {xs ys : List AV} {r : AV} {S : St} {K : AV → Prop} (h : Fn P f ys r) (hs : xs.map (seen (fun _ => true) S 4) = ys) (hf : flatT r = true) (hk : K r) : callD P f xs S K () := by
  refine ⟨r, fun S' hE => ⟨(h.2 S').1, fun G vs g1 g2 g3 => ?_⟩, hk⟩
  subst g1
  have hv : Rvs (G.kills fun _ => true) ys vs := by
    rw [← hs]
    exact rvs_weak (seen_ext hE 4) _ _ (rvs_tell (seen_ok g2 _ 4) _ _ g3)
  refine ((h.2 (G.S.kills fun _ => true)).2 (G.kills fun _ => true) vs rfl (kills_rel g2 _) hv).mono ?_
  rintro e w' ⟨G', r', v, rfl, rfl, k3, k4, k5, k6, k7⟩
  have hold : ∀ l b, G.live l b → G'.w.heap[b]? = G.w.heap[b]? := fun l b hb => k4.keep b (kills_old g2 rfl hb)
  let G2 : Ctx := ⟨G'.w, G.μ, G.S⟩
  have hstep : Step G G2 := by
    refine ⟨k4.os, k4.tape, k4.drawn, k4.output, k4.size, fun b hb => k4.keep b ⟨hb.1, fun ⟨l, ⟨o, ho⟩, hm⟩ => by simp [Ctx.kills, St.kills] at ho⟩, fun b _ hb => hb, Nat.le_refl _, ?_, k4.maps⟩
    intro l o hl ho
    cases o with
    | row e k cs => exact ⟨cs, ho, Nat.le_refl _, fun _ => ⟨rfl, fun b c hb hc => ⟨c, (hold l b ⟨⟨_, ho⟩, hb⟩).trans hc, rfl⟩⟩⟩
    | map es => exact ⟨es, ho, rfl⟩
    | iter i => exact ⟨i, ho, rfl⟩
  subst k6
  refine ⟨G2, _, v, rfl, rfl, ?_, hstep, flatT_rv hf k5, rfl, Ext.refl _⟩
  refine ⟨fun l hl => g2.dom l hl, fun l o ho => ?_, fun l l' b h1 h2 => g2.inj l l' b h1 h2⟩
  exact (g2.ok l o ho).keep hstep rfl fun b hb => hold l b ⟨⟨_, ho⟩, hb⟩
end Go.Proofs.Ytpfoflhhbkjngaa.Ev
