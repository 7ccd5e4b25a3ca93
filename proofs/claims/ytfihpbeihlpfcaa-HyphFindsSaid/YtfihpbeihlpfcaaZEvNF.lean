/- Regions that draw their order and store, with loads of rows that the region stores nothing into. -/
import Derived.Test.YtfihpbeihlpfcaaZEvN
set_option linter.unusedVariables false
set_option linter.unusedSimpArgs false
namespace Go.Proofs.Ytfihpbeihlpfcaa.Ev
open Go Go.RowKit

/-- The same rows, and those of D hold the same. -/
def ShpD (D : List Nat) (S S' : St) : Prop := Shp S S' ∧ ∀ l ∈ D, S'.m l = S.m l
theorem ShpD.refl {D : List Nat} (S : St) : ShpD D S S := ⟨Shp.refl S, fun _ _ => rfl⟩
theorem ShpD.trans {D : List Nat} {A B C : St} (h : ShpD D A B) (k : ShpD D B C) : ShpD D A C := ⟨h.1.trans k.1, fun l hl => (k.2 l hl).trans (h.2 l hl)⟩

/-! ### what an operation does, by its kind -/
def InsF (P : Program) (D : List Nat) (o : Oper) (fr : Fr) (S : St) (r : AV) : Prop :=
  ∀ (G : Ctx) (ρ : Operand → Value), ShpD D S G.S → Rel G → (∀ x q, x ∈ o.op.operands → sa x = some q → Rv G (evS fr q) (ρ x)) → OpRun P (execOp ρ o) G fun r' S' => r' = r ∧ S' = G.S

/-- Operation o, carried out at (fr, S), leaves r and S' (for K: where the kind is neither a store nor quiet, r and S' are only told by K). -/
def TF (P : Program) (D : List Nat) (o : Oper) (fr : Fr) (S : St) (K : AV → St → Prop) : Prop :=
  if (sop P o.op).isStore = true then ∃ r S', K r S' ∧ (ShpD D S S' ∧ ShpD D S' S) ∧ EffSem P o fr S fun r' S2 => r' = r ∧ S2 = S'
  else if (sop P o.op).eff = true then EffSem P o fr S K
  else if (sop P o.op).insF = true then ∃ r, K r S ∧ r.bel S.n ∧ InsF P D o fr S r
  else ∃ r, K r S ∧ r.bel S.n ∧ PureSem P o fr S r

def qF (P : Program) (D : List Nat) (ops : Array Oper) (i : Nat) (K : Fr → St → Prop) (fr : Fr) (S : St) : Prop :=
  match ops[i]? with
  | none => K fr S
  | some o => (wantA fr (guardOf ops o) = some true ∧ TF P D o fr S fun r S' => K (fr.put o.dst r) S') ∨ (wantA fr (guardOf ops o) = some false ∧ K (fr.put o.dst (.sc undef)) S)

def wpAnyF (P : Program) (D : List Nat) (ops : Array Oper) (Q : Fr → St → Prop) : Nat → Array Bool → Fr → St → Prop
  | 0, listed, fr, S => Region.ready .any ops listed = [] ∧ Q fr S
  | fuel + 1, listed, fr, S => (Region.ready .any ops listed = [] → Q fr S) ∧ ∀ i ∈ Region.ready .any ops listed, qF P D ops i (wpAnyF P D ops Q fuel (listed.setIfInBounds i true)) fr S

section
variable {P : Program} {n : Nat} {ops : Array Oper} {D : List Nat}
theorem TF.mono {o : Oper} {fr : Fr} {S : St} {K K' : AV → St → Prop} (h : TF P D o fr S K) (hk : ∀ r S', K r S' → K' r S') : TF P D o fr S K' := by
  unfold TF at *
  split at h
  · obtain ⟨r, S', h1, h2⟩ := h; rw [if_pos (by assumption)]; exact ⟨r, S', hk _ _ h1, h2⟩
  · rename_i e1
    rw [if_neg e1]
    split at h
    · rw [if_pos (by assumption)]; exact fun G ρ a b c => (h G ρ a b c).mono hk
    · rename_i e2
      rw [if_neg e2]
      split at h
      · obtain ⟨r, h1, h2⟩ := h; rw [if_pos (by assumption)]; exact ⟨r, hk _ _ h1, h2⟩
      · rename_i e3
        rw [if_neg e3]
        obtain ⟨r, h1, h2⟩ := h; exact ⟨r, hk _ _ h1, h2⟩

theorem qF_mono {i : Nat} {fr : Fr} {S : St} {K K' : Fr → St → Prop} (h : ∀ fr S, K fr S → K' fr S) (hh : qF P D ops i K fr S) : qF P D ops i K' fr S := by
  unfold qF at *
  split
  · exact h _ _ (by simpa [*] using hh)
  · rename_i o ho
    simp only [ho] at hh
    rcases hh with ⟨h1, h2⟩ | ⟨h1, h2⟩
    · exact .inl ⟨h1, h2.mono fun r S' => h _ _⟩
    · exact .inr ⟨h1, h _ _ h2⟩

theorem InsF.put {S : St} {o : Oper} {r r' : AV} {fr : Fr} {d : Option Nat} (h : ∀ t, d = some t → t ∉ o.looksAt ops) : InsF P D o (fr.put d r') S r ↔ InsF P D o fr S r :=
  ⟨fun h2 G ρ a b c => h2 G ρ a b fun x q hx hq => by rw [evS_put h hx hq]; exact c x q hx hq,
   fun h2 G ρ a b c => h2 G ρ a b fun x q hx hq => by have := c x q hx hq; rwa [evS_put h hx hq] at this⟩
theorem TF.put {S : St} {o : Oper} {K : AV → St → Prop} {r' : AV} {fr : Fr} {d : Option Nat} (h : ∀ t, d = some t → t ∉ o.looksAt ops) : TF P D o (fr.put d r') S K ↔ TF P D o fr S K := by
  unfold TF
  simp only [InsF.put h, EffSem.put h, PureSem.put h]

/-- Two that may change places. -/
theorem TF.swap {oi oj : Oper} {fr : Fr} {S : St} {K : AV → AV → St → Prop} (hc : commF (sop P oi.op) (sop P oj.op) = true) (h : TF P D oi fr S fun ri Si => TF P D oj fr Si fun rj Sj => K ri rj Sj) :
    TF P D oj fr S fun rj Sj => TF P D oi fr Sj fun ri Si => K ri rj Si := by
  simp only [commF, Bool.or_eq_true, Bool.and_eq_true, Bool.not_eq_true'] at hc
  have se : ∀ s : SOp, s.isStore = true → s.insF = false := by intro s; cases s <;> simp [SOp.isStore, SOp.ins, SOp.insF, SOp.isLoad]
  have ie : ∀ s : SOp, s.insF = true → s.eff = false ∧ s.isStore = false := by intro s; cases s <;> simp [SOp.isStore, SOp.ins, SOp.eff, SOp.insF, SOp.isLoad]
  have es : ∀ s : SOp, s.eff = false → s.isStore = false := by intro s; cases s <;> simp [SOp.isStore, SOp.eff]
  rcases hc with (⟨h1, h2⟩ | ⟨h1, h2⟩) | ⟨h1, h2⟩
  · unfold TF at *
    simp only [h1, h2, es _ h1, es _ h2, Bool.false_eq_true, if_false] at h ⊢
    by_cases ei : (sop P oi.op).insF = true <;> by_cases ej : (sop P oj.op).insF = true <;> simp only [ei, ej, Bool.false_eq_true, if_false, if_true] at h ⊢ <;>
      (obtain ⟨ri, ⟨rj, h5, h6⟩, h4⟩ := h; exact ⟨rj, ⟨ri, h5, h4⟩, h6⟩)
  · unfold TF at *
    simp only [h1, h2, (ie _ h1).1, (ie _ h1).2, Bool.false_eq_true, if_false, if_true] at h ⊢
    obtain ⟨ri, ⟨rj, Sj, h5, h6, h7⟩, h4, h8⟩ := h
    exact ⟨rj, Sj, ⟨ri, h5, by rw [h6.1.1.1]; exact h4, fun G ρ a b c => h8 G ρ (h6.1.trans a) b c⟩, h6, h7⟩
  · unfold TF at *
    simp only [h1, h2, (ie _ h2).1, (ie _ h2).2, Bool.false_eq_true, if_false, if_true] at h ⊢
    obtain ⟨ri, Si, ⟨rj, h5, h6, h7⟩, h4, h8⟩ := h
    exact ⟨rj, ⟨ri, Si, h5, h4, h8⟩, by rw [← h4.1.1.1]; exact h6, fun G ρ a b c => h7 G ρ (h4.2.trans a) b c⟩

/-- A step, guard and all. -/
def GF (P : Program) (D : List Nat) (ops : Array Oper) (o : Oper) (K : AV → St → Prop) (fr : Fr) (S : St) : Prop :=
  (wantA fr (guardOf ops o) = some true ∧ TF P D o fr S K) ∨ (wantA fr (guardOf ops o) = some false ∧ K (.sc undef) S)
theorem GF.put {S : St} {o : Oper} {K : AV → St → Prop} {r' : AV} {fr : Fr} {d : Option Nat} (h : ∀ t, d = some t → t ∉ o.looksAt ops) : GF P D ops o K (fr.put d r') S ↔ GF P D ops o K fr S := by
  unfold GF
  rw [want_put h, TF.put h]
theorem GF.mono {o : Oper} {fr : Fr} {S : St} {K K' : AV → St → Prop} (h : GF P D ops o K fr S) (hk : ∀ r S', K r S' → K' r S') : GF P D ops o K' fr S := by
  rcases h with ⟨h1, h2⟩ | ⟨h1, h2⟩
  · exact .inl ⟨h1, h2.mono hk⟩
  · exact .inr ⟨h1, hk _ _ h2⟩
theorem GF.want {o : Oper} {fr : Fr} {S : St} {K : AV → St → Prop} {b : Bool} (h : GF P D ops o K fr S) (hw : wantA fr (guardOf ops o) = some b) : (b = true ∧ TF P D o fr S K) ∨ (b = false ∧ K (.sc undef) S) := by
  rcases h with ⟨h1, h2⟩ | ⟨h1, h2⟩
  · rw [hw] at h1; cases h1; exact .inl ⟨rfl, h2⟩
  · rw [hw] at h1; cases h1; exact .inr ⟨rfl, h2⟩
theorem GF.swap {oi oj : Oper} {fr : Fr} {S : St} {K : AV → AV → St → Prop} (hc : commF (sop P oi.op) (sop P oj.op) = true) (hnj : ∃ b, wantA fr (guardOf ops oj) = some b)
    (h : GF P D ops oi (fun ri Si => GF P D ops oj (fun rj Sj => K ri rj Sj) fr Si) fr S) :
    GF P D ops oj (fun rj Sj => GF P D ops oi (fun ri Si => K ri rj Si) fr Sj) fr S := by
  obtain ⟨b, hb⟩ := hnj
  rcases h with ⟨h1, h2⟩ | ⟨h1, h2⟩
  · cases b with
    | true =>
      have h3 : TF P D oi fr S fun ri Si => TF P D oj fr Si fun rj Sj => K ri rj Sj := h2.mono fun r S' hg => by
        rcases hg.want hb with ⟨_, h⟩ | ⟨h, _⟩
        · exact h
        · cases h
      exact .inl ⟨hb, (TF.swap hc h3).mono fun r S' hg => .inl ⟨h1, hg⟩⟩
    | false =>
      exact .inr ⟨hb, .inl ⟨h1, h2.mono fun r S' hg => by
        rcases hg.want hb with ⟨h, _⟩ | ⟨_, h⟩
        · cases h
        · exact h⟩⟩
  · cases b with
    | true =>
      rcases h2.want hb with ⟨_, h⟩ | ⟨h, _⟩
      · exact .inl ⟨hb, h.mono fun r S' hg => .inr ⟨h1, hg⟩⟩
      · cases h
    | false =>
      rcases h2.want hb with ⟨h, _⟩ | ⟨_, h⟩
      · cases h
      · exact .inr ⟨hb, .inr ⟨h1, h⟩⟩
theorem GF.some {oi oj : Oper} {fr : Fr} {S : St} {K : AV → St → Prop} (hc : commF (sop P oi.op) (sop P oj.op) = true) (h : GF P D ops oi K fr S) : ∃ r S', K r S' := by
  rcases h with ⟨_, h⟩ | ⟨_, h⟩
  · have ie : ∀ s : SOp, s.insF = true → s.eff = false := by intro s; cases s <;> simp [SOp.ins, SOp.eff, SOp.insF, SOp.isLoad]
    unfold TF at h
    split at h
    · obtain ⟨r, S', h, _⟩ := h; exact ⟨r, S', h⟩
    · rename_i e
      split at h
      · rename_i e2
        simp only [commF, Bool.or_eq_true, Bool.and_eq_true, Bool.not_eq_true'] at hc
        rcases hc with (⟨h1, h2⟩ | ⟨h1, h2⟩) | ⟨h1, h2⟩
        · rw [h1] at e2; cases e2
        · rw [ie _ h1] at e2; cases e2
        · exact absurd h1 e
      · split at h <;> (obtain ⟨r, h, _⟩ := h; exact ⟨r, _, h⟩)
  · exact ⟨_, _, h⟩

theorem qF_iff {i : Nat} {o : Oper} {K : Fr → St → Prop} {fr : Fr} {S : St} (ho : ops[i]? = some o) : qF P D ops i K fr S ↔ GF P D ops o (fun r S' => K (fr.put o.dst r) S') fr S := by
  unfold qF GF
  simp only [ho]

/-- i before j may be j before i. -/
theorem qF_put {i j : Nat} {oi oj : Oper} (hi : ops[i]? = some oi) (hj : ops[j]? = some oj) (hap : oi.apart ops oj = true) (hc : commF (sop P oi.op) (sop P oj.op) = true) {K : Fr → St → Prop} {fr : Fr} {S : St}
    (h : qF P D ops i (qF P D ops j K) fr S) : qF P D ops j (qF P D ops i K) fr S := by
  obtain ⟨h1, h2, h3⟩ := Oper.apart_spec hap
  rw [qF_iff hi] at h
  have h' : GF P D ops oi (fun ri Si => GF P D ops oj (fun rj Sj => K ((fr.put oj.dst rj).put oi.dst ri) Sj) fr Si) fr S := h.mono fun ri Si hg => by
    rw [qF_iff hj, GF.put h1] at hg
    exact hg.mono fun rj Sj hk => by rw [Fr.put_comm (d := oi.dst) (e := oj.dst) h2] at hk; exact hk
  have hnj : ∃ b, wantA fr (guardOf ops oj) = some b := by
    obtain ⟨_, _, hg⟩ := h'.some hc
    rcases hg with ⟨h, _⟩ | ⟨h, _⟩ <;> exact ⟨_, h⟩
  have h4 := GF.swap (oi := oi) (oj := oj) (K := fun ri rj Sj => K ((fr.put oj.dst rj).put oi.dst ri) Sj) hc hnj h'
  rw [qF_iff hj]
  refine h4.mono fun rj Sj hg => ?_
  rw [qF_iff hi, GF.put h3]
  exact hg

theorem wpAnyF_first {Q : Fr → St → Prop} {i : Nat} {oi : Oper} (hi : ops[i]? = some oi) :
    ∀ (fuel : Nat) (listed : Array Bool) (fr : Fr) (S : St),
      (∀ j oj, ops[j]? = some oj → j ≠ i → listed.getD j true = false → ¬ Aft ops i j → oi.apart ops oj = true ∧ commF (sop P oi.op) (sop P oj.op) = true) →
      (∀ j, Aft ops i j → listed.getD j false = false) →
      i ∈ Region.ready .any ops listed →
      qF P D ops i (wpAnyF P D ops Q fuel (listed.setIfInBounds i true)) fr S → wpAnyF P D ops Q (fuel + 1) listed fr S := by
  intro fuel
  induction fuel with
  | zero =>
    intro listed fr S hfree hinv hr H
    refine ⟨fun h => (by rw [h] at hr; cases hr), fun j hj => ?_⟩
    by_cases hji : j = i
    · subst hji; exact H
    · obtain ⟨hjun, oj, hoj, hall⟩ := mem_ready.1 hj
      have hiun := (mem_ready.1 hr).1
      have hiun' : listed.getD i false = false := by
        rcases Nat.lt_or_ge i listed.size with h' | h'
        · simpa [h'] using hiun
        · simp [Array.getElem?_eq_none h'] at hiun
      have hnot : ¬ Aft ops i j := fun h => by
        cases h with
        | here ho he hb heq =>
          rw [hoj] at ho; cases ho
          have := hall _ he hb
          rw [heq, hiun'] at this
          cases this
        | there ho he hb h' =>
          rw [hoj] at ho; cases ho
          have := hall _ he hb
          rw [hinv _ h'] at this
          cases this
      obtain ⟨hap, hc⟩ := hfree j oj hoj hji hjun hnot
      have h2 := ready_mono hj hji
      rw [qF_iff hi] at H
      obtain ⟨_, _, H⟩ := H.some hc
      have := H.1
      rw [this] at h2
      cases h2
  | succ fuel ih =>
    intro listed fr S hfree hinv hr H
    refine ⟨fun h => (by rw [h] at hr; cases hr), fun j hj => ?_⟩
    by_cases hji : j = i
    · subst hji; exact H
    · obtain ⟨hjun, oj, hoj, hall⟩ := mem_ready.1 hj
      have hiun := (mem_ready.1 hr).1
      have hiun' : listed.getD i false = false := by
        rcases Nat.lt_or_ge i listed.size with h' | h'
        · simpa [h'] using hiun
        · simp [Array.getElem?_eq_none h'] at hiun
      have hnot : ¬ Aft ops i j := fun h => by
        cases h with
        | here ho he hb heq =>
          rw [hoj] at ho; cases ho
          have := hall _ he hb
          rw [heq, hiun'] at this
          cases this
        | there ho he hb h' =>
          rw [hoj] at ho; cases ho
          have := hall _ he hb
          rw [hinv _ h'] at this
          cases this
      obtain ⟨hap, hc⟩ := hfree j oj hoj hji hjun hnot
      have H2 : qF P D ops i (qF P D ops j (wpAnyF P D ops Q fuel ((listed.setIfInBounds i true).setIfInBounds j true))) fr S := qF_mono (fun fr S h => h.2 j (ready_mono hj hji)) H
      refine qF_mono (fun fr' S' h3 => ih (listed.setIfInBounds j true) fr' S' ?_ ?_ (ready_mono hr (Ne.symm hji)) ?_) (qF_put hi hoj hap hc H2)
      · intro k ok hk hki hun hno
        refine hfree k ok hk hki ?_ hno
        by_cases hjk : j = k
        · subst hjk; exact hjun
        · rw [getD_set_ne true hjk] at hun; exact hun
      · intro k hk
        by_cases hjk : j = k
        · subst hjk; exact absurd hk hnot
        · rw [getD_set_ne false hjk]; exact hinv k hk
      · rw [Array.setIfInBounds_comm _ _ hji]
        exact h3

/-- One walk in the order of the text. -/
def lexT (P : Program) (D : List Nat) (ops : Array Oper) (Q : Fr → St → Prop) : List Oper → Fr → St → Prop
  | [], fr, S => Q fr S
  | o :: l, fr, S => GF P D ops o (fun r S' => lexT P D ops Q l (fr.put o.dst r) S') fr S

theorem wpAnyF_lex (hb : backB ops = true) (hf : ∀ i, i < ops.size → freeF P ops i = true) {Q : Fr → St → Prop} : ∀ (l : List Oper) (k : Nat) (listed : Array Bool) (fr : Fr) (S : St), (∀ j, l[j]? = ops[k + j]?) → listed.size = ops.size →
    (∀ j, j < k → j < ops.size → listed.getD j false = true) → (∀ j, k ≤ j → j < ops.size → listed.getD j false = false) → lexT P D ops Q l fr S → wpAnyF P D ops Q l.length listed fr S
  | [], k, listed, fr, S, hl, hsz, h1, h2, h => by
    refine ⟨?_, h⟩
    rw [List.eq_nil_iff_forall_not_mem]
    intro j hj
    obtain ⟨g1, o, ho, _⟩ := mem_ready.1 hj
    have hj : j < ops.size := by
      rcases Nat.lt_or_ge j ops.size with h | h
      · exact h
      · rw [Array.getElem?_eq_none h] at ho; cases ho
    have hk : ops.size ≤ k := by
      have := hl 0
      simp at this
      omega
    have := h1 j (by omega) hj
    have hjl : j < listed.size := by omega
    simp [hjl] at g1 this
    rw [g1] at this
    cases this
  | o :: l, k, listed, fr, S, hl, hsz, h1, h2, h => by
    have h0 : ops[k]? = some o := by simpa using (hl 0).symm
    have hk : k < ops.size := by
      rcases Nat.lt_or_ge k ops.size with h | h
      · exact h
      · rw [Array.getElem?_eq_none h] at h0; cases h0
    have toT : ∀ j, j < ops.size → listed.getD j true = listed.getD j false := fun j hj => by
      have : j < listed.size := by omega
      simp [this]
    rw [List.length_cons]
    refine wpAnyF_first h0 l.length listed fr S ?_ ?_ ?_ ?_
    · intro j oj hj hji hun hno
      have hjs : j < ops.size := by
        rcases Nat.lt_or_ge j ops.size with h | h
        · exact h
        · rw [Array.getElem?_eq_none h] at hj; cases hj
      have hjk : ¬ j ≤ k := fun hle => by
        have := h1 j (by omega) hjs
        rw [toT j hjs, this] at hun
        cases hun
      have := hf k hk
      simp only [freeF, h0, List.all_eq_true, List.mem_range, Bool.or_eq_true, decide_eq_true_eq] at this
      rcases this j hjs with (h | h) | h
      · exact absurd h hjk
      · exact absurd (aftL_ok (by simpa using h)) hno
      · simp only [hj, Bool.and_eq_true] at h
        exact h
    · intro j hj
      have hlt := back_lt hb hj
      rcases Nat.lt_or_ge j ops.size with h | h
      · exact h2 j (by omega) h
      · have : listed.size ≤ j := by omega
        simp [Array.getElem?_eq_none this]
    · refine mem_ready.2 ⟨by rw [toT k hk]; exact h2 k (Nat.le_refl _) hk, o, h0, fun e he hbe => ?_⟩
      have := back_lt hb (Aft.here h0 he hbe rfl)
      exact h1 _ this (by omega)
    · rw [qF_iff h0]
      refine GF.mono (K := fun r S' => lexT P D ops Q l (fr.put o.dst r) S') h fun r S' hlx => ?_
      refine wpAnyF_lex hb hf l (k + 1) _ _ _ (fun j => by have := hl (j + 1); simpa [Nat.add_assoc, Nat.add_comm 1 j] using this) (by simp [hsz]) ?_ ?_ hlx
      · intro j hj hjs
        by_cases e : k = j
        · subst e
          have : k < listed.size := by omega
          simp [this]
        · rw [getD_set_ne false e]; exact h1 j (by omega) hjs
      · intro j hj hjs
        rw [getD_set_ne false (by omega)]; exact h2 j (by omega) hjs

theorem wpAny_of_F {Q : Exit → Fr → St → Prop} {G0 : Ctx} (hall : ∀ (i : Nat) o, ops[i]? = some o → ∃ s, sOper P n ops o = some s) :
    ∀ (fuel : Nat) (listed : Array Bool) (fr : Fr) (G : Ctx) (a : Act), Rel G → Step G0 G → Rfr n G fr a → wpAnyF P D ops (fun fr S => Q .normal fr S) fuel listed fr G.S → wpAny P .any ops (Post n G0 Q) fuel listed a G.w
  | 0, _, fr, G, a, hR, h0, hf, h => ⟨h.1, G, fr, rfl, hR, h0, hf, h.2⟩
  | fuel + 1, listed, fr, G, a, hR, h0, hf, h => by
    refine ⟨fun he => ⟨G, fr, rfl, hR, h0, hf, h.1 he⟩, fun i hi => ?_⟩
    have h1 := h.2 i hi
    unfold wpOp
    cases ho : ops[i]? with
    | none =>
      unfold qF at h1
      simp only [ho] at h1 ⊢
      exact wpAny_of_F hall fuel _ fr G a hR h0 hf h1
    | some o =>
      rw [qF_iff ho] at h1
      simp only
      obtain ⟨s, hs⟩ := hall i o ho
      obtain ⟨ht, hop, hd⟩ := sOper_parts hs
      rcases h1 with ⟨hw, hp⟩ | ⟨hw, hK⟩
      · rw [guardOf_ok hs] at hw
        rw [if_pos (want_ok hf hs hw)]
        have eff : EffSem P o fr G.S (fun r S' => wpAnyF P D ops (fun fr S => Q .normal fr S) fuel (listed.setIfInBounds i true) (fr.put o.dst r) S') → o.wp P a G.w (fun a w => wpAny P .any ops (Post n G0 Q) fuel (listed.setIfInBounds i true) a w) (Post n G0 Q) := fun hp => by
          refine oper_wp hf ht (hp G a.eval rfl hR (operand_ok hf ht)) fun G' r' v g1 g2 g3 g4 g5 => ?_
          exact wpAny_of_F hall fuel _ _ G' _ g1 (h0.trans g2) g5 g4
        have quiet : ∀ r, wpAnyF P D ops (fun fr S => Q .normal fr S) fuel (listed.setIfInBounds i true) (fr.put o.dst r) G.S → r.bel G.S.n → PureSem P o fr G.S r → o.wp P a G.w (fun a w => wpAny P .any ops (Post n G0 Q) fuel (listed.setIfInBounds i true) a w) (Post n G0 Q) := fun r hk hbel hp => by
          refine oper_wp hf ht (hp G a.eval (Ext.refl _) hR (operand_ok hf ht)) fun G' r' v g1 g2 g3 g4 g5 => ?_
          obtain ⟨rfl, hE⟩ := g4
          have htd : Told G.S G'.S := fun l o ho => by
            obtain ⟨b1, b2, b3⟩ := hR.clean l o ho
            exact ⟨b1, hE.real hR ho, b3⟩
          have hst : Step G (G'.told G.S) := told_step g2 htd (Nat.le_refl _)
          refine wpAny_of_F hall fuel _ _ (G'.told G.S) _ (told_rel g1 htd) (h0.trans hst) ((hf.step hst).put (dst_ok ht) ?_) hk
          exact Rv.told htd _ _ hbel g3
        unfold TF at hp
        split at hp
        · obtain ⟨r, S', hk, _, he⟩ := hp
          exact .inl (eff fun G ρ a b c => (he G ρ a b c).mono fun r' S2 ⟨x, y⟩ => by subst x; subst y; exact hk)
        · split at hp
          · exact .inl (eff hp)
          · split at hp
            · obtain ⟨r, hk, hbel, hi⟩ := hp
              refine .inl (eff fun G' ρ a b c => (hi G' ρ (by rw [a]; exact ShpD.refl _) b c).mono fun r' S2 ⟨x, y⟩ => by subst x; subst y; rw [a]; exact hk)
            · obtain ⟨r, hk, hbel, hq⟩ := hp
              exact .inl (quiet r hk hbel hq)
      · rw [guardOf_ok hs] at hw
        rw [want_ok hf hs hw]
        exact wpAny_of_F hall fuel _ _ G _ hR h0 (hf.put (dst_ok ht) (by simp [Rv])) hK

theorem awp_regionF {id : Nat} {Q : Exit → Fr → St → Prop} {fr : Fr} {S : St} (hm : P.follows .mixedOrders = true) (hB : lexF P ops = true) (hall : ∀ (i : Nat) o, ops[i]? = some o → ∃ s, sOper P n ops o = some s)
    (h : lexT P D ops (fun fr S => Q .normal fr S) ops.toList fr S) : AWp P n (.region id ops true) Q fr S := by
  intro G a hS hR hf
  subst hS
  simp only [lexF, Bool.and_eq_true, List.all_eq_true, List.mem_range] at hB
  refine wp_region_any hm ?_
  have hd := drew_step G (G.w.drawn + 1)
  have := wpAnyF_lex (P := P) hB.1.2 hB.2 ops.toList 0 (Array.replicate ops.size false) fr G.S (by simp) (by simp) (by simp) (fun j _ h => by simp [h]) h
  exact wpAny_of_F (G0 := G) (Q := Q) hall _ _ fr (G.drew (G.w.drawn + 1)) a (drew_rel hR _) hd (hf.step hd) (by simp only [Array.length_toList] at this; exact this)
end

/-! ### the walk -/
/-- Loads are of rows that nothing is stored into, here or there; nothing is made. -/
def fside (LD ST : List Nat) (s : SOp) (fr : Fr) (K : List Nat → List Nat → Prop) : Prop := match s with
  | .load _ a => match evS fr a with
    | .ptr l _ _ => l ∉ ST ∧ K (l :: LD) ST
    | .rop _ => K LD ST
    | _ => False
  | .store _ a _ => match evS fr a with
    | .ptr l _ _ => l ∉ LD ∧ K LD (l :: ST)
    | _ => False
  | .alloc _ _ _ | .box _ _ _ | .mksl _ _ _ _ _ _ | .app _ _ _ _ _ | .appZ _ _ _ _ _ _ | .copy _ _ _ | .mkmap | .mupd _ _ _ _ | .rangeM _ | .nextM _ | .mentry _ _ _ _ | .mstore _ _ _ | .entryM _ | .clr _ _ _ | .sl3 _ _ _ _ _ | .slA _ _ _ _ _ => False
  | _ => K LD ST
def fops (P : Program) : List Nat → List Nat → List SOper → (Fr → St → Prop) → Fr → St → Prop
  | _, _, [], K, fr, S => K fr S
  | LD, ST, o :: os, K, fr, S => match o.guard with
    | none => fside LD ST o.op fr fun LD' ST' => ewp false P o.op fr S fun r S' => fops P LD' ST' os K (fr.put o.dst r) S'
    | some (t, want) => match fr t with
      | .sc (.bool b) => (b = want → fside LD ST o.op (fr.put (some t) (.sc (.bool want))) fun LD' ST' => ewp false P o.op (fr.put (some t) (.sc (.bool want))) S fun r S' => fops P LD' ST' os K ((fr.put (some t) (.sc (.bool want))).put o.dst r) S') ∧
          (b ≠ want → fops P LD ST os K ((fr.put (some t) (.sc (.bool !want))).put o.dst (.sc undef)) S)
      | .sc (.tuple _) => fops P LD ST os K (fr.put o.dst (.sc undef)) S
      | _ => False

section
variable {P : Program} {n : Nat} {Q : Exit → Fr → St → Prop}
/-- Rows that are loaded of and not stored into, D, for a step whose side holds. -/
def fitD (D : List Nat) (s : SOp) (fr : Fr) : Prop := match s with
  | .load _ a => match evS fr a with
    | .ptr l _ _ => l ∈ D
    | .rop _ => True
    | _ => False
  | .store _ a _ => match evS fr a with
    | .ptr l _ _ => l ∉ D
    | _ => False
  | _ => True
theorem load_D {k : Option Nat} {a : SA} {fr : Fr} {S : St} {K : AV → Prop} (h : dwp P (.load k a) fr S K) : ∃ r, K r ∧ ∀ D, fitD D (.load k a) fr → ∀ S', ShpD D S S' → swp P (.load k a) fr S' fun r' S'' => r' = r ∧ S'' = S' := by
  have hrow : ∀ (D : List Nat) S', ShpD D S S' → ∀ l ∈ D, ∀ tot, S'.row? l tot = S.row? l tot := fun D S' hS l hl tot => by unfold St.row?; rw [hS.2 l hl]
  simp only [dwp, swp, fitD] at h ⊢
  generalize evS fr a = x at *
  cases x with
  | ptr l tot off =>
    simp only at h ⊢
    obtain ⟨r, hr, h⟩ := orK_elim h
    cases k with
    | none =>
      simp only at h
      obtain ⟨c, hc, hK⟩ := orK_elim h
      exact ⟨c, hK, fun D hf S' hE => by rw [hrow D S' hE l hf, hr]; simp only [orK_some, hc]; exact ⟨by trivial, by trivial⟩⟩
    | some k =>
      simp only at h
      exact ⟨_, h.2, fun D hf S' hE => by rw [hrow D S' hE l hf, hr]; simp only [orK_some]; exact ⟨h.1, by trivial, by trivial⟩⟩
  | rop cs =>
    simp only at h ⊢
    cases k with
    | none =>
      simp only at h
      obtain ⟨c, hc, hK⟩ := orK_elim h
      exact ⟨c, hK, fun D hf S' hE => by simp only [orK_some, hc]; exact ⟨by trivial, by trivial⟩⟩
    | some k =>
      simp only at h
      exact ⟨_, h.2, fun D hf S' hE => ⟨h.1, by trivial, by trivial⟩⟩
  | _ => exact ⟨.junk, by simp at h, fun D hf => hf.elim⟩
theorem fwp_sound {o : Oper} {s : SOp} {fr : Fr} {S : St} {K : AV → St → Prop} (hs : sop P o.op = s) (hst : s.eff = true → s.isStore = true) (h : ewp false P s fr S K) : ∃ r S', K r S' ∧ ∀ D, fitD D s fr → ∀ K' : AV → St → Prop, K' r S' → TF P D o fr S K' := by
  unfold ewp at h
  rw [SOp.effC_f] at h
  have se : ∀ s : SOp, s.isStore = true → s.eff = true := by intro s; cases s <;> simp [SOp.isStore, SOp.eff]
  split at h
  · rename_i he
    have hst := hst he
    have hst2 := hst
    cases s <;> simp only [SOp.isStore, Bool.false_eq_true] at hst
    rename_i k a x
    obtain ⟨r, S', h1, h2, h3⟩ := store_shp h
    refine ⟨r, S', h1, fun D hf K' hk' => ?_⟩
    unfold TF
    rw [hs, if_pos hst2]
    refine ⟨r, S', hk', ?_, fun G ρ a b c => sop_ok b rfl hs c (by subst a; exact h3)⟩
    have hkeep : ∀ l ∈ D, S'.m l = S.m l := fun l hl => by
      simp only [fitD] at hf
      simp only [swp] at h3
      split at hf
      · rename_i l' tot off he'
        simp only [he'] at h3
        obtain ⟨r, hr, h3⟩ := orK_elim h3
        obtain ⟨xs, hxs, _, _, _, rfl⟩ := orK_elim h3
        have hne : l ≠ l' := fun e => hf (e ▸ hl)
        simp [St.set, hne]
      · exact hf.elim
    exact ⟨⟨h2.1, hkeep⟩, ⟨h2.2, fun l hl => (hkeep l hl).symm⟩⟩
  · rename_i he
    by_cases hi : s.insF = true
    · by_cases hn : s.ins = true
      · obtain ⟨r, ⟨h1, h2⟩, h3⟩ := ins_of hn h
        refine ⟨r, S, h2, fun D hf K' hk' => ?_⟩
        unfold TF
        rw [hs, if_neg fun hst => he (se s hst), if_neg he, if_pos hi]
        exact ⟨r, hk', h1, fun G ρ a b c => sop_ok b rfl hs c (h3 G.S a.1)⟩
      · have hl : s.isLoad = true := by simpa [SOp.insF, hn] using hi
        cases s <;> simp only [SOp.isLoad, Bool.false_eq_true] at hl
        obtain ⟨r, ⟨h1, h2⟩, h3⟩ := load_D h
        refine ⟨r, S, h2, fun D hf K' hk' => ?_⟩
        unfold TF
        rw [hs, if_neg fun hst => he (se _ hst), if_neg he, if_pos hi]
        exact ⟨r, hk', h1, fun G ρ a b c => sop_ok b rfl hs c (h3 D hf G.S a)⟩
    · obtain ⟨r, ⟨h1, h2⟩, h3⟩ := dwp_sound hs h
      refine ⟨r, S, h2, fun D hf K' hk' => ?_⟩
      unfold TF
      rw [hs, if_neg fun hst => he (se s hst), if_neg he, if_neg hi]
      exact ⟨r, hk', h1, h3⟩
theorem fside_elim {LD ST : List Nat} {s : SOp} {fr : Fr} {K : List Nat → List Nat → Prop} (h : fside LD ST s fr K) : ∃ LD' ST', K LD' ST' ∧ (∀ D, (∀ l ∈ LD', l ∈ D) → (∀ l ∈ ST', l ∉ D) → fitD D s fr) ∧ (∀ l ∈ LD, l ∈ LD') ∧ (∀ l ∈ ST, l ∈ ST') ∧ ((∀ l ∈ LD, l ∉ ST) → ∀ l ∈ LD', l ∉ ST') ∧ (s.eff = true → s.isStore = true) := by
  cases s with
  | load k a =>
    simp only [fside, fitD] at h ⊢
    split at h
    · rename_i l tot off he
      refine ⟨_, _, h.2, fun D h1 _ => h1 l (by simp), fun x hx => by simp [hx], fun x hx => hx, fun hd x hx => ?_, by simp [SOp.eff]⟩
      rcases List.mem_cons.1 hx with rfl | hx
      · exact h.1
      · exact hd x hx
    · exact ⟨_, _, h, fun D _ _ => trivial, fun x hx => hx, fun x hx => hx, fun hd => hd, by simp [SOp.eff]⟩
    · exact h.elim
  | store k a x =>
    simp only [fside, fitD] at h ⊢
    split at h
    · rename_i l tot off he
      refine ⟨_, _, h.2, fun D _ h2 => h2 l (by simp), fun x hx => hx, fun x hx => by simp [hx], fun hd x hx hx2 => ?_, by simp [SOp.isStore]⟩
      rcases List.mem_cons.1 hx2 with rfl | hx2
      · exact h.1 hx
      · exact hd x hx hx2
    · exact h.elim
  | _ => first
    | (exfalso; simp only [fside] at h; done)
    | exact ⟨_, _, h, fun D _ _ => by simp only [fitD], fun x hx => hx, fun x hx => hx, fun hd => hd, by simp [SOp.eff]⟩
theorem fops_lex {ops : Array Oper} {K : Fr → St → Prop} : ∀ (l : List Oper) (sl : List SOper), l.mapM (sOper P n ops) = some sl → ∀ (LD ST : List Nat) fr S, (∀ x ∈ LD, x ∉ ST) → fops P LD ST sl K fr S → ∃ D, (∀ x ∈ LD, x ∈ D) ∧ (∀ x ∈ ST, x ∉ D) ∧ lexT P D ops K l fr S
  | [], sl, hs, LD, ST, fr, S, hd, h => by simp at hs; subst hs; exact ⟨LD, fun x hx => hx, fun x hx hx2 => hd x hx2 hx, h⟩
  | o :: l, sl, hs, LD, ST, fr, S, hd0, h => by
    simp only [List.mapM_cons, Option.bind_eq_bind, Option.bind_eq_some_iff, Option.pure_def, Option.some.injEq] at hs
    obtain ⟨s, hs1, sl', hs2, rfl⟩ := hs
    obtain ⟨ht, hop, hd⟩ := sOper_parts hs1
    have run : wantA fr s.guard = some true → (fside LD ST s.op fr fun LD' ST' => ewp false P s.op fr S fun r S' => fops P LD' ST' sl' K (fr.put s.dst r) S') → ∃ D, (∀ x ∈ LD, x ∈ D) ∧ (∀ x ∈ ST, x ∉ D) ∧ lexT P D ops K (o :: l) fr S := fun hw h => by
      obtain ⟨LD', ST', h1, h2, h3, h4, h5, h6⟩ := fside_elim h
      obtain ⟨r, S', hk, hT⟩ := fwp_sound hop h6 h1
      obtain ⟨D, d1, d2, d3⟩ := fops_lex l sl' hs2 LD' ST' _ _ (h5 hd0) hk
      refine ⟨D, fun x hx => d1 x (h3 x hx), fun x hx => d2 x (h4 x hx), .inl ⟨by rw [guardOf_ok hs1]; exact hw, hT D (h2 D d1 d2) _ ?_⟩⟩
      rw [hd] at d3
      exact d3
    have skip : wantA fr s.guard = some false → fops P LD ST sl' K (fr.put s.dst (.sc undef)) S → ∃ D, (∀ x ∈ LD, x ∈ D) ∧ (∀ x ∈ ST, x ∉ D) ∧ lexT P D ops K (o :: l) fr S := fun hw h => by
      rw [hd] at h
      obtain ⟨D, d1, d2, d3⟩ := fops_lex l sl' hs2 LD ST _ _ hd0 h
      exact ⟨D, d1, d2, .inr ⟨by rw [guardOf_ok hs1]; exact hw, d3⟩⟩
    simp only [fops] at h
    split at h
    · rename_i hg
      exact run (by rw [hg]; rfl) h
    · rename_i t want hg
      split at h
      · rename_i b hb
        by_cases e : b = want
        · have h1 := h.1 e
          rw [put_self (by rw [hb, e])] at h1
          exact run (by rw [hg]; simp [wantA, hb, e]) h1
        · have h2 := h.2 e
          rw [put_self (by rw [hb]; cases b <;> cases want <;> simp_all)] at h2
          exact skip (by rw [hg]; simp [wantA, hb]; simpa using e) h2
      · rename_i vs hb
        exact skip (by rw [hg]; simp [wantA, hb]) h
      · exact h.elim

theorem swp_regF {l : List SOper} {fr : Fr} {S : St} (h : fops P [] [] l (fun fr S => Q .normal fr S) fr S) : SWp P n (.regF l) Q fr S := fun c hc => by
  have hc0 := hc
  cases c <;> simp only [strip, Option.bind_eq_some_iff] at hc
  case region id ops draw =>
    obtain ⟨rfl, hl, hb1, hb2⟩ := strip_F hc0
    obtain ⟨D, _, _, hD⟩ := fops_lex ops.toList _ hl [] [] fr S (by simp) h
    exact awp_regionF hb2 hb1 (fun i o ho => mapM_get hl i o (by simpa using ho)) hD
  case cond => obtain ⟨q, _, hc⟩ := hc; split at hc <;> (first | (cases hc; done) | (simp [Option.bind_eq_some_iff] at hc; done))
  all_goals simp at hc
end
end Go.Proofs.Ytfihpbeihlpfcaa.Ev
