/- Regions that draw their order, read, and append to what is new. -/
import Derived.Test.YtfihpbeihlpfcaaZEvNF
set_option linter.unusedVariables false
set_option linter.unusedSimpArgs false
namespace Go.Proofs.Ytfihpbeihlpfcaa.Ev
open Go Go.RowKit

mutual
theorem AV.bel_up {k k' : Nat} (hk : k ≤ k') : ∀ (x : AV), x.bel k → x.bel k'
  | .sc u, h => by simp only [AV.bel]
  | .ro n cs, h => by simp only [AV.bel] at h ⊢; exact bels_up hk cs h
  | .ref l t o n, h => by simp only [AV.bel] at h ⊢; omega
  | .ptr l t o, h => by simp only [AV.bel] at h ⊢; omega
  | .rop cs, h => by simp only [AV.bel] at h ⊢; exact bels_up hk cs h
  | .clo f cs, h => by simp only [AV.bel] at h ⊢; exact bels_up hk cs h
  | .bnd f cs, h => by simp only [AV.bel] at h ⊢; exact bels_up hk cs h
  | .mp l, h => by simp only [AV.bel] at h ⊢; omega
  | .rom ks vs, h => by simp only [AV.bel] at h ⊢; exact bels_up hk vs h
  | .it l, h => by simp only [AV.bel] at h ⊢; omega
  | .stamp l k, h => by simp only [AV.bel] at h ⊢; omega
  | .agg cs, h => by simp only [AV.bel] at h ⊢; exact bels_up hk cs h
  | .tup cs, h => by simp only [AV.bel] at h ⊢; exact bels_up hk cs h
  | .ifc t x, h => by simp only [AV.bel] at h ⊢; exact AV.bel_up hk x h
  | .junk, h => by simp only [AV.bel]
theorem bels_up {k k' : Nat} (hk : k ≤ k') : ∀ (cs : List AV), bels k cs → bels k' cs
  | [], h => by simp only [bels]
  | x :: xs, h => by simp only [bels] at h ⊢; exact ⟨AV.bel_up hk x h.1, bels_up hk xs h.2⟩
end

/-! ### what an operation does, by its kind -/

/-- Operation i, carried out at (fr, S), leaves r and S' (flagged: it reads what stood at the begin, S0, or only adds to it). -/
def TG (P : Program) (bb : Bool) (ops : Array Oper) (F : List Nat) (S0 : St) (i : Nat) (o : Oper) (fr : Fr) (S : St) (K : AV → St → Prop) : Prop :=
  if effX P bb ops o = true then EffSem P o fr S fun r S' => (F.contains i = true → Ext S0 S') ∧ K r S'
  else if F.contains i = true then ∃ r, K r S ∧ r.bel S0.n ∧ Ext S0 S ∧ PureSem P o fr S0 r
  else ∃ r, K r S ∧ r.bel S.n ∧ PureSem P o fr S r

def qG (P : Program) (bb : Bool) (F : List Nat) (S0 : St) (ops : Array Oper) (i : Nat) (K : Fr → St → Prop) (fr : Fr) (S : St) : Prop :=
  match ops[i]? with
  | none => K fr S
  | some o => (wantA fr (guardOf ops o) = some true ∧ TG P bb ops F S0 i o fr S fun r S' => K (fr.put o.dst r) S') ∨ (wantA fr (guardOf ops o) = some false ∧ K (fr.put o.dst (.sc undef)) S)

def wpAnyG (P : Program) (bb : Bool) (F : List Nat) (S0 : St) (ops : Array Oper) (Q : Fr → St → Prop) : Nat → Array Bool → Fr → St → Prop
  | 0, listed, fr, S => Region.ready .any ops listed = [] ∧ Q fr S
  | fuel + 1, listed, fr, S => (Region.ready .any ops listed = [] → Q fr S) ∧ ∀ i ∈ Region.ready .any ops listed, qG P bb F S0 ops i (wpAnyG P bb F S0 ops Q fuel (listed.setIfInBounds i true)) fr S

section
variable {P : Program} {n : Nat} {bb : Bool} {ops : Array Oper} {F : List Nat} {S0 : St}
theorem TG.mono {i : Nat} {o : Oper} {fr : Fr} {S : St} {K K' : AV → St → Prop} (h : TG P bb ops F S0 i o fr S K) (hk : ∀ r S', K r S' → K' r S') : TG P bb ops F S0 i o fr S K' := by
  unfold TG at *
  split at h
  · rw [if_pos (by assumption)]; exact fun G ρ a b c => (h G ρ a b c).mono fun r S' hq => ⟨hq.1, hk _ _ hq.2⟩
  · rw [if_neg (by assumption)]
    split at h
    · rw [if_pos (by assumption)]; obtain ⟨r, h1, h2⟩ := h; exact ⟨r, hk _ _ h1, h2⟩
    · rw [if_neg (by assumption)]; obtain ⟨r, h1, h2⟩ := h; exact ⟨r, hk _ _ h1, h2⟩

theorem qG_mono {i : Nat} {fr : Fr} {S : St} {K K' : Fr → St → Prop} (h : ∀ fr S, K fr S → K' fr S) (hh : qG P bb F S0 ops i K fr S) : qG P bb F S0 ops i K' fr S := by
  unfold qG at *
  split
  · exact h _ _ (by simpa [*] using hh)
  · rename_i o ho
    simp only [ho] at hh
    rcases hh with ⟨h1, h2⟩ | ⟨h1, h2⟩
    · exact .inl ⟨h1, h2.mono fun r S' => h _ _⟩
    · exact .inr ⟨h1, h _ _ h2⟩

theorem TG.put {i : Nat} {S : St} {o : Oper} {K : AV → St → Prop} {r' : AV} {fr : Fr} {d : Option Nat} (h : ∀ t, d = some t → t ∉ o.looksAt ops) : TG P bb ops F S0 i o (fr.put d r') S K ↔ TG P bb ops F S0 i o fr S K := by
  unfold TG
  simp only [EffSem.put h, PureSem.put h]
theorem mapM_at {α β : Type} {f : α → Option β} : ∀ {l : List α} {r : List β}, l.mapM f = some r → ∀ (i : Nat) (x : α), l[i]? = some x → ∃ y, f x = some y ∧ r[i]? = some y
  | [], r, h, i, x, hx => by simp at hx
  | a :: l, r, h, i, x, hx => by
    simp only [List.mapM_cons, Option.bind_eq_bind, Option.bind_eq_some_iff, Option.pure_def, Option.some.injEq] at h
    obtain ⟨b, hb, r', hr, rfl⟩ := h
    cases i with
    | zero => simp at hx; subst hx; exact ⟨b, hb, rfl⟩
    | succ i => simpa using mapM_at hr i x (by simpa using hx)
theorem pure_ext {o : Oper} {fr : Fr} {S S' : St} {r : AV} (hE : Ext S S') (h : PureSem P o fr S r) : PureSem P o fr S' r := fun G ρ a b c => h G ρ (hE.trans a) b c
/-- Two that may change places. -/
theorem TG.swap {i j : Nat} {oi oj : Oper} {fr : Fr} {S : St} {K : AV → AV → St → Prop} (hi : effX P bb ops oi = false) (hiF : F.contains i = true) (hj : effX P bb ops oj = true → F.contains j = true) (h : TG P bb ops F S0 i oi fr S fun ri Si => TG P bb ops F S0 j oj fr Si fun rj Sj => K ri rj Sj) :
    TG P bb ops F S0 j oj fr S fun rj Sj => TG P bb ops F S0 i oi fr Sj fun ri Si => K ri rj Si := by
  unfold TG at *
  simp only [hi, hiF, Bool.false_eq_true, if_false, if_true] at h ⊢
  obtain ⟨ri, h1, h2, hE, h3⟩ := h
  split at h1
  · rename_i he
    rw [if_pos he]
    exact fun G ρ a b c => (h1 G ρ a b c).mono fun rj Sj hq => ⟨hq.1, ri, hq.2, h2, hq.1 (hj he), h3⟩
  · rename_i he
    rw [if_neg he]
    split at h1
    · rename_i hf
      rw [if_pos hf]
      obtain ⟨rj, h4, h5⟩ := h1
      exact ⟨rj, ⟨ri, h4, h2, hE, h3⟩, h5⟩
    · rename_i hf
      rw [if_neg hf]
      obtain ⟨rj, h4, h5⟩ := h1
      exact ⟨rj, ⟨ri, h4, h2, hE, h3⟩, h5⟩

/-- A step, guard and all. -/
def GG (P : Program) (bb : Bool) (F : List Nat) (S0 : St) (ops : Array Oper) (i : Nat) (o : Oper) (K : AV → St → Prop) (fr : Fr) (S : St) : Prop :=
  (wantA fr (guardOf ops o) = some true ∧ TG P bb ops F S0 i o fr S K) ∨ (wantA fr (guardOf ops o) = some false ∧ K (.sc undef) S)
theorem GG.put {i : Nat} {S : St} {o : Oper} {K : AV → St → Prop} {r' : AV} {fr : Fr} {d : Option Nat} (h : ∀ t, d = some t → t ∉ o.looksAt ops) : GG P bb F S0 ops i o K (fr.put d r') S ↔ GG P bb F S0 ops i o K fr S := by
  unfold GG
  rw [want_put h, TG.put h]
theorem GG.mono {i : Nat} {o : Oper} {fr : Fr} {S : St} {K K' : AV → St → Prop} (h : GG P bb F S0 ops i o K fr S) (hk : ∀ r S', K r S' → K' r S') : GG P bb F S0 ops i o K' fr S := by
  rcases h with ⟨h1, h2⟩ | ⟨h1, h2⟩
  · exact .inl ⟨h1, h2.mono hk⟩
  · exact .inr ⟨h1, hk _ _ h2⟩
theorem GG.want {i : Nat} {o : Oper} {fr : Fr} {S : St} {K : AV → St → Prop} {b : Bool} (h : GG P bb F S0 ops i o K fr S) (hw : wantA fr (guardOf ops o) = some b) : (b = true ∧ TG P bb ops F S0 i o fr S K) ∨ (b = false ∧ K (.sc undef) S) := by
  rcases h with ⟨h1, h2⟩ | ⟨h1, h2⟩
  · rw [hw] at h1; cases h1; exact .inl ⟨rfl, h2⟩
  · rw [hw] at h1; cases h1; exact .inr ⟨rfl, h2⟩
theorem GG.swap {i j : Nat} {oi oj : Oper} {fr : Fr} {S : St} {K : AV → AV → St → Prop} (hi : effX P bb ops oi = false) (hiF : F.contains i = true) (hj : effX P bb ops oj = true → F.contains j = true) (hnj : ∃ b, wantA fr (guardOf ops oj) = some b)
    (h : GG P bb F S0 ops i oi (fun ri Si => GG P bb F S0 ops j oj (fun rj Sj => K ri rj Sj) fr Si) fr S) :
    GG P bb F S0 ops j oj (fun rj Sj => GG P bb F S0 ops i oi (fun ri Si => K ri rj Si) fr Sj) fr S := by
  obtain ⟨b, hb⟩ := hnj
  rcases h with ⟨h1, h2⟩ | ⟨h1, h2⟩
  · cases b with
    | true =>
      have h3 : TG P bb ops F S0 i oi fr S fun ri Si => TG P bb ops F S0 j oj fr Si fun rj Sj => K ri rj Sj := h2.mono fun r S' hg => by
        rcases hg.want hb with ⟨_, h⟩ | ⟨h, _⟩
        · exact h
        · cases h
      exact .inl ⟨hb, (TG.swap hi hiF hj h3).mono fun r S' hg => .inl ⟨h1, hg⟩⟩
    | false =>
      exact .inr ⟨hb, .inl ⟨h1, h2.mono fun r S' hg => by
        rcases hg.want hb with ⟨h, _⟩ | ⟨_, h⟩
        · cases h
        · exact h⟩⟩
  · cases b with
    | true =>
      rcases h2.want hb with ⟨_, h⟩ | ⟨h, _⟩
      · exact .inl ⟨hb, h.mono fun r S' hg => .inr ⟨h1, hg⟩⟩
      · cases h
    | false =>
      rcases h2.want hb with ⟨h, _⟩ | ⟨_, h⟩
      · cases h
      · exact .inr ⟨hb, .inr ⟨h1, h⟩⟩
theorem GG.some {i : Nat} {oi : Oper} {fr : Fr} {S : St} {K : AV → St → Prop} (hi : effX P bb ops oi = false) (hiF : F.contains i = true) (h : GG P bb F S0 ops i oi K fr S) : ∃ r S', K r S' := by
  rcases h with ⟨_, h⟩ | ⟨_, h⟩
  · unfold TG at h
    rw [if_neg (by rw [hi]; simp), if_pos hiF] at h
    obtain ⟨r, h, _⟩ := h; exact ⟨r, _, h⟩
  · exact ⟨_, _, h⟩

theorem qG_iff {i : Nat} {o : Oper} {K : Fr → St → Prop} {fr : Fr} {S : St} (ho : ops[i]? = some o) : qG P bb F S0 ops i K fr S ↔ GG P bb F S0 ops i o (fun r S' => K (fr.put o.dst r) S') fr S := by
  unfold qG GG
  simp only [ho]

/-- i before j may be j before i. -/
theorem qG_put {i j : Nat} {oi oj : Oper} (hi : ops[i]? = some oi) (hj : ops[j]? = some oj) (hap : oi.apart ops oj = true) (hi0 : effX P bb ops oi = false) (hi1 : F.contains i = true) (hj0 : effX P bb ops oj = true → F.contains j = true) {K : Fr → St → Prop} {fr : Fr} {S : St}
    (h : qG P bb F S0 ops i (qG P bb F S0 ops j K) fr S) : qG P bb F S0 ops j (qG P bb F S0 ops i K) fr S := by
  obtain ⟨h1, h2, h3⟩ := Oper.apart_spec hap
  rw [qG_iff hi] at h
  have h' : GG P bb F S0 ops i oi (fun ri Si => GG P bb F S0 ops j oj (fun rj Sj => K ((fr.put oj.dst rj).put oi.dst ri) Sj) fr Si) fr S := h.mono fun ri Si hg => by
    rw [qG_iff hj, GG.put h1] at hg
    exact hg.mono fun rj Sj hk => by rw [Fr.put_comm (d := oi.dst) (e := oj.dst) h2] at hk; exact hk
  have hnj : ∃ b, wantA fr (guardOf ops oj) = some b := by
    obtain ⟨_, _, hg⟩ := h'.some hi0 hi1
    rcases hg with ⟨h, _⟩ | ⟨h, _⟩ <;> exact ⟨_, h⟩
  have h4 := GG.swap (oi := oi) (oj := oj) (K := fun ri rj Sj => K ((fr.put oj.dst rj).put oi.dst ri) Sj) hi0 hi1 hj0 hnj h'
  rw [qG_iff hj]
  refine h4.mono fun rj Sj hg => ?_
  rw [qG_iff hi, GG.put h3]
  exact hg

theorem wpAnyG_first {Q : Fr → St → Prop} {i : Nat} {oi : Oper} (hi : ops[i]? = some oi) :
    ∀ (fuel : Nat) (listed : Array Bool) (fr : Fr) (S : St),
      (∀ j oj, ops[j]? = some oj → j ≠ i → listed.getD j true = false → ¬ Aft ops i j → oi.apart ops oj = true ∧ effX P bb ops oi = false ∧ F.contains i = true ∧ (effX P bb ops oj = true → F.contains j = true)) →
      (∀ j, Aft ops i j → listed.getD j false = false) →
      i ∈ Region.ready .any ops listed →
      qG P bb F S0 ops i (wpAnyG P bb F S0 ops Q fuel (listed.setIfInBounds i true)) fr S → wpAnyG P bb F S0 ops Q (fuel + 1) listed fr S := by
  intro fuel
  induction fuel with
  | zero =>
    intro listed fr S hfree hinv hr H
    refine ⟨fun h => (by rw [h] at hr; cases hr), fun j hj => ?_⟩
    by_cases hji : j = i
    · subst hji; exact H
    · obtain ⟨hjun, oj, hoj, hall⟩ := mem_ready.1 hj
      have hiun := (mem_ready.1 hr).1
      have hiun' : listed.getD i false = false := by
        rcases Nat.lt_or_ge i listed.size with h' | h'
        · simpa [h'] using hiun
        · simp [Array.getElem?_eq_none h'] at hiun
      have hnot : ¬ Aft ops i j := fun h => by
        cases h with
        | here ho he hb heq =>
          rw [hoj] at ho; cases ho
          have := hall _ he hb
          rw [heq, hiun'] at this
          cases this
        | there ho he hb h' =>
          rw [hoj] at ho; cases ho
          have := hall _ he hb
          rw [hinv _ h'] at this
          cases this
      obtain ⟨hap, hc, hc1, hc2⟩ := hfree j oj hoj hji hjun hnot
      have h2 := ready_mono hj hji
      rw [qG_iff hi] at H
      obtain ⟨_, _, H⟩ := H.some hc hc1
      have := H.1
      rw [this] at h2
      cases h2
  | succ fuel ih =>
    intro listed fr S hfree hinv hr H
    refine ⟨fun h => (by rw [h] at hr; cases hr), fun j hj => ?_⟩
    by_cases hji : j = i
    · subst hji; exact H
    · obtain ⟨hjun, oj, hoj, hall⟩ := mem_ready.1 hj
      have hiun := (mem_ready.1 hr).1
      have hiun' : listed.getD i false = false := by
        rcases Nat.lt_or_ge i listed.size with h' | h'
        · simpa [h'] using hiun
        · simp [Array.getElem?_eq_none h'] at hiun
      have hnot : ¬ Aft ops i j := fun h => by
        cases h with
        | here ho he hb heq =>
          rw [hoj] at ho; cases ho
          have := hall _ he hb
          rw [heq, hiun'] at this
          cases this
        | there ho he hb h' =>
          rw [hoj] at ho; cases ho
          have := hall _ he hb
          rw [hinv _ h'] at this
          cases this
      obtain ⟨hap, hc, hc1, hc2⟩ := hfree j oj hoj hji hjun hnot
      have H2 : qG P bb F S0 ops i (qG P bb F S0 ops j (wpAnyG P bb F S0 ops Q fuel ((listed.setIfInBounds i true).setIfInBounds j true))) fr S := qG_mono (fun fr S h => h.2 j (ready_mono hj hji)) H
      refine qG_mono (fun fr' S' h3 => ih (listed.setIfInBounds j true) fr' S' ?_ ?_ (ready_mono hr (Ne.symm hji)) ?_) (qG_put hi hoj hap hc hc1 hc2 H2)
      · intro k ok hk hki hun hno
        refine hfree k ok hk hki ?_ hno
        by_cases hjk : j = k
        · subst hjk; exact hjun
        · rw [getD_set_ne true hjk] at hun; exact hun
      · intro k hk
        by_cases hjk : j = k
        · subst hjk; exact absurd hk hnot
        · rw [getD_set_ne false hjk]; exact hinv k hk
      · rw [Array.setIfInBounds_comm _ _ hji]
        exact h3

/-- One walk in the order that is chosen. -/
def lexU (P : Program) (bb : Bool) (F : List Nat) (S0 : St) (ops : Array Oper) (Q : Fr → St → Prop) : List Nat → Fr → St → Prop
  | [], fr, S => Q fr S
  | i :: l, fr, S => match ops[i]? with
    | some o => GG P bb F S0 ops i o (fun r S' => lexU P bb F S0 ops Q l (fr.put o.dst r) S') fr S
    | none => False
def Closed (ops : Array Oper) (done : List Nat) : Prop := ∀ j ∈ done, ∀ o, ops[j]? = some o → ∀ e ∈ o.after, Region.binds .any e = true → e.on ∈ done
theorem closed_aft {done : List Nat} (hc : Closed ops done) {i j : Nat} (h : Aft ops i j) (hj : j ∈ done) : i ∈ done := by
  induction h with
  | here ho he hb h => rw [← h]; exact hc _ hj _ ho _ he hb
  | there ho he hb h ih => exact ih (hc _ hj _ ho _ he hb)
theorem okOrd_all : ∀ (todo done : List Nat), okOrd P bb ops F done todo = true → ∀ j, j < ops.size → j ∈ done ∨ j ∈ todo
  | [], done, h, j, hj => by
    simp only [okOrd, List.all_eq_true, List.mem_range, List.contains_iff_mem] at h
    exact .inl (h j hj)
  | i :: rest, done, h, j, hj => by
    simp only [okOrd, Bool.and_eq_true] at h
    rcases okOrd_all rest (i :: done) h.2 j hj with h1 | h1
    · rcases List.mem_cons.1 h1 with rfl | h1
      · exact .inr (by simp)
      · exact .inl h1
    · exact .inr (by simp [h1])
theorem wpAnyG_ord {Q : Fr → St → Prop} : ∀ (todo done : List Nat) (listed : Array Bool) (fr : Fr) (S : St), okOrd P bb ops F done todo = true → Closed ops done → (∀ j ∈ done, j < ops.size) → listed.size = ops.size →
    (∀ j, j < ops.size → listed.getD j false = done.contains j) → lexU P bb F S0 ops Q todo fr S → wpAnyG P bb F S0 ops Q todo.length listed fr S
  | [], done, listed, fr, S, hok, hcl, hlt, hsz, hl, h => by
    refine ⟨?_, h⟩
    rw [List.eq_nil_iff_forall_not_mem]
    intro j hj
    obtain ⟨g1, o, ho, _⟩ := mem_ready.1 hj
    have hj : j < ops.size := by
      rcases Nat.lt_or_ge j ops.size with h | h
      · exact h
      · rw [Array.getElem?_eq_none h] at ho; cases ho
    have := hl j hj
    simp only [okOrd, List.all_eq_true, List.mem_range] at hok
    rw [hok j hj] at this
    have hjl : j < listed.size := by omega
    simp [hjl] at g1 this
    rw [g1] at this
    cases this
  | i :: rest, done, listed, fr, S, hok, hcl, hlt, hsz, hl, h => by
    have hall := okOrd_all (i :: rest) done hok
    simp only [okOrd, Bool.and_eq_true, decide_eq_true_eq, Bool.not_eq_true'] at hok
    obtain ⟨⟨⟨⟨hi, hnd⟩, hdep⟩, hfr⟩, hok2⟩ := hok
    have h0 : ops[i]? = some ops[i] := Array.getElem?_eq_getElem hi
    simp only [lexU, h0] at h
    have toT : ∀ j, j < ops.size → listed.getD j true = listed.getD j false := fun j hj => by
      have : j < listed.size := by omega
      simp [this]
    simp only [depsIn, h0, Array.all_eq_true', Bool.or_eq_true, Bool.not_eq_true', List.contains_iff_mem] at hdep
    have hcl2 : Closed ops (i :: done) := fun j hj o ho e he hbe => by
      rcases List.mem_cons.1 hj with rfl | hj
      · rw [h0] at ho; cases ho
        rcases hdep e he with h | h
        · rw [hbe] at h; cases h
        · exact List.mem_cons_of_mem _ h
      · exact List.mem_cons_of_mem _ (hcl j hj o ho e he hbe)
    rw [List.length_cons]
    refine wpAnyG_first h0 rest.length listed fr S ?_ ?_ ?_ ?_
    · intro j oj hj hji hun hno
      have hjs : j < ops.size := by
        rcases Nat.lt_or_ge j ops.size with h | h
        · exact h
        · rw [Array.getElem?_eq_none h] at hj; cases hj
      have hnd : j ∉ done := fun hm => by
        have := hl j hjs
        rw [toT j hjs, this, List.contains_iff_mem.2 hm] at hun
        cases hun
      have hr : j ∈ rest := by
        rcases hall j hjs with h | h
        · exact absurd h hnd
        · rcases List.mem_cons.1 h with h | h
          · exact absurd h hji
          · exact h
      have := List.all_eq_true.1 hfr j hr
      simp only [freeG, h0, hj, Bool.or_eq_true, Bool.and_eq_true] at this
      rcases this with h | ⟨⟨h1, h2⟩, h3⟩
      · exact absurd (aftL_ok (by simpa using h)) hno
      · rw [Bool.not_eq_true'] at h2
        refine ⟨h1, h2.1, h2.2, fun he => ?_⟩
        rcases h3 with h3 | h3
        · rw [he] at h3; cases h3
        · exact h3
    · intro j hj
      rcases Nat.lt_or_ge j ops.size with h | h
      · rw [hl j h]
        rw [← Bool.not_eq_true]
        intro hm
        have := closed_aft hcl hj (List.contains_iff_mem.1 hm)
        rw [List.contains_iff_mem.2 this] at hnd
        cases hnd
      · have : listed.size ≤ j := by omega
        simp [Array.getElem?_eq_none this]
    · refine mem_ready.2 ⟨by rw [toT i hi, hl i hi]; exact hnd, _, h0, fun e he hbe => ?_⟩
      rcases hdep e he with h | h
      · rw [hbe] at h; cases h
      · rw [hl _ (hlt _ h)]; exact List.contains_iff_mem.2 h
    · rw [qG_iff h0]
      refine GG.mono (K := fun r S' => lexU P bb F S0 ops Q rest (fr.put ops[i].dst r) S') h fun r S' hlx => ?_
      refine wpAnyG_ord rest (i :: done) _ _ _ hok2 hcl2 (fun j hj => by rcases List.mem_cons.1 hj with rfl | hj; exact hi; exact hlt j hj) (by simp [hsz]) ?_ hlx
      intro j hjs
      by_cases e : i = j
      · subst e
        have : i < listed.size := by omega
        simp [this]
      · rw [getD_set_ne false e, hl j hjs]
        simp [Ne.symm e]
theorem wpAny_of_G {Q : Exit → Fr → St → Prop} {G0 : Ctx} (hall : ∀ (i : Nat) o, ops[i]? = some o → ∃ s, sOper P n ops o = some s) :
    ∀ (fuel : Nat) (listed : Array Bool) (fr : Fr) (G : Ctx) (a : Act), Rel G → Step G0 G → Rfr n G fr a → wpAnyG P bb F S0 ops (fun fr S => Q .normal fr S) fuel listed fr G.S → wpAny P .any ops (Post n G0 Q) fuel listed a G.w
  | 0, _, fr, G, a, hR, h0, hf, h => ⟨h.1, G, fr, rfl, hR, h0, hf, h.2⟩
  | fuel + 1, listed, fr, G, a, hR, h0, hf, h => by
    refine ⟨fun he => ⟨G, fr, rfl, hR, h0, hf, h.1 he⟩, fun i hi => ?_⟩
    have h1 := h.2 i hi
    unfold wpOp
    cases ho : ops[i]? with
    | none =>
      unfold qG at h1
      simp only [ho] at h1 ⊢
      exact wpAny_of_G hall fuel _ fr G a hR h0 hf h1
    | some o =>
      rw [qG_iff ho] at h1
      simp only
      obtain ⟨s, hs⟩ := hall i o ho
      obtain ⟨ht, hop, hd⟩ := sOper_parts hs
      rcases h1 with ⟨hw, hp⟩ | ⟨hw, hK⟩
      · rw [guardOf_ok hs] at hw
        rw [if_pos (want_ok hf hs hw)]
        have eff : EffSem P o fr G.S (fun r S' => wpAnyG P bb F S0 ops (fun fr S => Q .normal fr S) fuel (listed.setIfInBounds i true) (fr.put o.dst r) S') → o.wp P a G.w (fun a w => wpAny P .any ops (Post n G0 Q) fuel (listed.setIfInBounds i true) a w) (Post n G0 Q) := fun hp => by
          refine oper_wp hf ht (hp G a.eval rfl hR (operand_ok hf ht)) fun G' r' v g1 g2 g3 g4 g5 => ?_
          exact wpAny_of_G hall fuel _ _ G' _ g1 (h0.trans g2) g5 g4
        have quiet : ∀ r, wpAnyG P bb F S0 ops (fun fr S => Q .normal fr S) fuel (listed.setIfInBounds i true) (fr.put o.dst r) G.S → r.bel G.S.n → PureSem P o fr G.S r → o.wp P a G.w (fun a w => wpAny P .any ops (Post n G0 Q) fuel (listed.setIfInBounds i true) a w) (Post n G0 Q) := fun r hk hbel hp => by
          refine oper_wp hf ht (hp G a.eval (Ext.refl _) hR (operand_ok hf ht)) fun G' r' v g1 g2 g3 g4 g5 => ?_
          obtain ⟨rfl, hE⟩ := g4
          have htd : Told G.S G'.S := fun l o ho => by
            obtain ⟨b1, b2, b3⟩ := hR.clean l o ho
            exact ⟨b1, hE.real hR ho, b3⟩
          have hst : Step G (G'.told G.S) := told_step g2 htd (Nat.le_refl _)
          refine wpAny_of_G hall fuel _ _ (G'.told G.S) _ (told_rel g1 htd) (h0.trans hst) ((hf.step hst).put (dst_ok ht) ?_) hk
          exact Rv.told htd _ _ hbel g3
        unfold TG at hp
        split at hp
        · exact .inl (eff fun G ρ a b c => (hp G ρ a b c).mono fun r' S2 hq => hq.2)
        · split at hp
          · obtain ⟨r, hk, hbel, hE, hq⟩ := hp
            exact .inl (quiet r hk (AV.bel_up hE.1 _ hbel) (pure_ext hE hq))
          · obtain ⟨r, hk, hbel, hq⟩ := hp
            exact .inl (quiet r hk hbel hq)
      · rw [guardOf_ok hs] at hw
        rw [want_ok hf hs hw]
        exact wpAny_of_G hall fuel _ _ G _ hR h0 (hf.put (dst_ok ht) (by simp [Rv])) hK

theorem awp_regionG {id : Nat} {Q : Exit → Fr → St → Prop} {fr : Fr} {S : St} (hm : P.follows .mixedOrders = true) (hB : lexG P bb ops = true) (hall : ∀ (i : Nat) o, ops[i]? = some o → ∃ s, sOper P n ops o = some s)
    (S0 : St) (h : lexU P bb (flagG P bb ops) S0 ops (fun fr S => Q .normal fr S) (ordG P bb ops) fr S) : AWp P n (.region id ops true) Q fr S := by
  intro G a hS hR hf
  subst hS
  simp only [lexG, Bool.and_eq_true, beq_iff_eq] at hB
  refine wp_region_any hm ?_
  have hd := drew_step G (G.w.drawn + 1)
  have := wpAnyG_ord (P := P) (ordG P bb ops) [] (Array.replicate ops.size false) fr G.S hB.2 (fun j hj => by simp at hj) (fun j hj => by simp at hj) (by simp) (fun j h => by simp [h]) h
  exact wpAny_of_G (G0 := G) (Q := Q) hall _ _ fr (G.drew (G.w.drawn + 1)) a (drew_rel hR _) hd (hf.step hd) (by rw [hB.1.2] at this; exact this)
end

/-! ### the walk -/
def nwp (P : Program) (S0 : St) (f : Bool) (s : SOp) (fr : Fr) (S : St) (K : AV → St → Prop) : Prop := if s.effG = true then swp P s fr S fun r S' => (f = true → Ext S0 S') ∧ K r S' else (f = true → Ext S0 S) ∧ dwp P s fr (cond f S0 S) fun r => r.bel (cond f S0 S).n ∧ K r S
/-- The store at the begin, some rows given up. -/
def killD (D : List (Nat × Option Ob)) (S : St) : St := D.foldl (fun S p => match p.2 with | none => S.kill p.1 | some o => S.set p.1 o) S
theorem killD_nil (S : St) : killD [] S = S := rfl
theorem killD_cons (x : Nat) (D : List (Nat × Option Ob)) (S : St) : killD ((x, none) :: D) S = killD D (S.kill x) := rfl
theorem killD_set (x : Nat) (o : Ob) (D : List (Nat × Option Ob)) (S : St) : killD ((x, some o) :: D) S = killD D (S.set x o) := rfl
def DepN (K : List (Nat × Option Ob) → Prop) : Type := Unit
def pickD (K : List (Nat × Option Ob) → Prop) (b : DepN K) : Prop := ∃ D, K D
theorem pickD_nil {K : List (Nat × Option Ob) → Prop} (h : K []) : pickD K () := ⟨[], h⟩
def nops (P : Program) (S0 : St) : List (Bool × SOper) → (Fr → St → Prop) → Fr → St → Prop
  | [], K, fr, S => K fr S
  | (f, o) :: os, K, fr, S => match o.guard with
    | none => nwp P S0 f o.op fr S fun r S' => nops P S0 os K (fr.put o.dst r) S'
    | some (t, want) => match fr t with
      | .sc (.bool b) => (b = want → nwp P S0 f o.op (fr.put (some t) (.sc (.bool want))) S fun r S' => nops P S0 os K ((fr.put (some t) (.sc (.bool want))).put o.dst r) S') ∧
          (b ≠ want → nops P S0 os K ((fr.put (some t) (.sc (.bool !want))).put o.dst (.sc undef)) S)
      | .sc (.tuple _) => nops P S0 os K (fr.put o.dst (.sc undef)) S
      | _ => False

section
variable {P : Program} {n : Nat} {Q : Exit → Fr → St → Prop} {S0 : St}
/-- As nwp; a marked literal makes something. -/
def nwpL (P : Program) (S0 : St) (m f : Bool) (s : SOp) (fr : Fr) (S : St) (K : AV → St → Prop) : Prop := if m = true then swp P s fr S fun r S' => (f = true → Ext S0 S') ∧ K r S' else nwp P S0 f s fr S K
def lops (P : Program) (S0 : St) : List (Bool × Bool × SOper) → (Fr → St → Prop) → Fr → St → Prop
  | [], K, fr, S => K fr S
  | (m, f, o) :: os, K, fr, S => match o.guard with
    | none => nwpL P S0 m f o.op fr S fun r S' => lops P S0 os K (fr.put o.dst r) S'
    | some (t, want) => match fr t with
      | .sc (.bool b) => (b = want → nwpL P S0 m f o.op (fr.put (some t) (.sc (.bool want))) S fun r S' => lops P S0 os K ((fr.put (some t) (.sc (.bool want))).put o.dst r) S') ∧
          (b ≠ want → lops P S0 os K ((fr.put (some t) (.sc (.bool !want))).put o.dst (.sc undef)) S)
      | .sc (.tuple _) => lops P S0 os K (fr.put o.dst (.sc undef)) S
      | _ => False
theorem nwpL_sound {bb : Bool} {ops : Array Oper} {F : List Nat} {i : Nat} {o : Oper} {s : SOp} {fr : Fr} {S : St} {K : AV → St → Prop} (hs : sop P o.op = s) (h : nwpL P S0 (bb && feeds P ops o) (F.contains i) s fr S K) : TG P bb ops F S0 i o fr S K := by
  unfold nwpL at h
  split at h
  · rename_i hm
    unfold TG
    rw [if_pos (by rw [effX, hm, Bool.or_true])]
    exact fun G ρ a b c => sop_ok b rfl hs c (by subst a; exact h)
  · rename_i hm
    have e : effX P bb ops o = s.effG := by rw [effX, hs]; simp only [Bool.not_eq_true] at hm; rw [hm, Bool.or_false]
    unfold nwp at h
    unfold TG
    rw [e]
    split at h
    · rw [if_pos (by assumption)]
      exact fun G ρ a b c => sop_ok b rfl hs c (by subst a; exact h)
    · rw [if_neg (by assumption)]
      obtain ⟨hf, h⟩ := h
      obtain ⟨r, ⟨h1, h2⟩, h3⟩ := dwp_sound hs h
      split
      · rename_i hF
        rw [hF] at h1 h3
        exact ⟨r, h2, h1, hf hF, h3⟩
      · rename_i hF
        rw [Bool.not_eq_true] at hF
        rw [hF] at h1 h3
        exact ⟨r, h2, h1, h3⟩

theorem lops_lex {bb : Bool} {F : List Nat} {ops : Array Oper} {K : Fr → St → Prop} {sl : List SOper} (hl : ops.toList.mapM (sOper P n ops) = some sl) : ∀ (is : List Nat), (∀ i ∈ is, i < ops.size) → ∀ fr S, lops P S0 (is.filterMap fun i => (sl[i]?).map fun o => (bb && feedsI P ops i, F.contains i, o)) K fr S → lexU P bb F S0 ops K is fr S
  | [], _, fr, S, h => h
  | i :: is, hlt, fr, S, h => by
    have hi := hlt i (by simp)
    have h0 : ops[i]? = some ops[i] := Array.getElem?_eq_getElem hi
    obtain ⟨s, hs1, hs2⟩ : ∃ s, sOper P n ops ops[i] = some s ∧ sl[i]? = some s := mapM_at hl i _ (by rw [Array.getElem?_toList]; exact h0)
    obtain ⟨ht, hop, hd⟩ := sOper_parts hs1
    have hfe : feedsI P ops i = feeds P ops ops[i] := by simp only [feedsI, h0]
    simp only [List.filterMap_cons, hs2, Option.map_some, hfe] at h
    simp only [lexU, h0]
    have ih : ∀ fr S, lops P S0 (is.filterMap fun i => (sl[i]?).map fun o => (bb && feedsI P ops i, F.contains i, o)) K fr S → lexU P bb F S0 ops K is fr S := fun fr S h => lops_lex hl is (fun j hj => hlt j (by simp [hj])) fr S h
    have run : wantA fr s.guard = some true → (nwpL P S0 (bb && feeds P ops ops[i]) (F.contains i) s.op fr S fun r S' => lops P S0 (is.filterMap fun i => (sl[i]?).map fun o => (bb && feedsI P ops i, F.contains i, o)) K (fr.put s.dst r) S') → GG P bb F S0 ops i ops[i] (fun r S' => lexU P bb F S0 ops K is (fr.put ops[i].dst r) S') fr S := fun hw h =>
      .inl ⟨by rw [guardOf_ok hs1]; exact hw, (nwpL_sound hop h).mono fun r S' hk => by rw [hd] at hk; exact ih _ _ hk⟩
    have skip : wantA fr s.guard = some false → lops P S0 (is.filterMap fun i => (sl[i]?).map fun o => (bb && feedsI P ops i, F.contains i, o)) K (fr.put s.dst (.sc undef)) S → GG P bb F S0 ops i ops[i] (fun r S' => lexU P bb F S0 ops K is (fr.put ops[i].dst r) S') fr S := fun hw h => by
      rw [hd] at h
      exact .inr ⟨by rw [guardOf_ok hs1]; exact hw, ih _ _ h⟩
    simp only [lops] at h
    split at h
    · rename_i hg
      exact run (by rw [hg]; rfl) h
    · rename_i t want hg
      split at h
      · rename_i b hb
        by_cases e : b = want
        · have h1 := h.1 e
          rw [put_self (by rw [hb, e])] at h1
          exact run (by rw [hg]; simp [wantA, hb, e]) h1
        · have h2 := h.2 e
          rw [put_self (by rw [hb]; cases b <;> cases want <;> simp_all)] at h2
          exact skip (by rw [hg]; simp [wantA, hb]; simpa using e) h2
      · rename_i vs hb
        exact skip (by rw [hg]; simp [wantA, hb]) h
      · exact h.elim
theorem nops_lops : ∀ (l : List (Bool × SOper)) (K : Fr → St → Prop), nops P S0 l K = lops P S0 (l.map fun p => (false, p.1, p.2)) K
  | [], K => rfl
  | (f, o) :: os, K => by
    funext fr S
    simp only [nops, List.map_cons, lops, nwpL, Bool.false_eq_true, if_false, nops_lops os K]

theorem swp_regG {l : List (Bool × SOper)} {fr : Fr} {S : St} (S0 : St) (h : nops P S0 l (fun fr S => Q .normal fr S) fr S) : SWp P n (.regG l) Q fr S := fun c hc => by
  have hc0 := hc
  cases c <;> simp only [strip, Option.bind_eq_some_iff] at hc
  case region id ops draw =>
    obtain ⟨rfl, ⟨l', hl, rfl⟩, hb1, hb2⟩ := strip_G hc0
    have hlt : ∀ i ∈ ordG P false ops, i < ops.size := fun i hi => by
      simp only [ordG, frontG, List.mem_append, List.mem_filter, List.mem_range] at hi
      rcases hi with h | h
      · exact h.1
      · exact h.1
    rw [nops_lops] at h
    have e : (permG P ops l').map (fun p => (false, p.1, p.2)) = (ordG P false ops).filterMap fun i => (l'[i]?).map fun o => (false && feedsI P ops i, (flagG P false ops).contains i, o) := by
      rw [permG, List.map_filterMap]
      congr 1
      funext i
      cases l'[i]? <;> rfl
    rw [e] at h
    exact awp_regionG hb2 hb1 (fun i o ho => mapM_get hl i o (by simpa using ho)) S0 (lops_lex hl _ hlt fr S h)
  case cond => obtain ⟨q, _, hc⟩ := hc; split at hc <;> (first | (cases hc; done) | (simp [Option.bind_eq_some_iff] at hc; done))
  all_goals simp at hc
theorem swp_regL {l : List (Bool × Bool × SOper)} {fr : Fr} {S : St} (S0 : St) (h : lops P S0 l (fun fr S => Q .normal fr S) fr S) : SWp P n (.regL l) Q fr S := fun c hc => by
  have hc0 := hc
  cases c <;> simp only [strip, Option.bind_eq_some_iff] at hc
  case region id ops draw =>
    obtain ⟨rfl, ⟨l', hl, rfl⟩, hb1, hb2⟩ := strip_L hc0
    have hlt : ∀ i ∈ ordG P true ops, i < ops.size := fun i hi => by
      simp only [ordG, frontG, List.mem_append, List.mem_filter, List.mem_range] at hi
      rcases hi with h | h
      · exact h.1
      · exact h.1
    exact awp_regionG hb2 hb1 (fun i o ho => mapM_get hl i o (by simpa using ho)) S0 (lops_lex hl _ hlt fr S h)
  case cond => obtain ⟨q, _, hc⟩ := hc; split at hc <;> (first | (cases hc; done) | (simp [Option.bind_eq_some_iff] at hc; done))
  all_goals simp at hc
end
end Go.Proofs.Ytfihpbeihlpfcaa.Ev
