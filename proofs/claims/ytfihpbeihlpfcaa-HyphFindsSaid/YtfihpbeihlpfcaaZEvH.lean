/- Triples over abstract frames; regions in the order of the text and in drawn order. -/
import Derived.Test.YtfihpbeihlpfcaaZEvG
set_option linter.unusedVariables false
set_option linter.unusedSimpArgs false
namespace Go.Proofs.Ytfihpbeihlpfcaa.Ev
open Go Go.RowKit

def Rfr (n : Nat) (G : Ctx) (fr : Fr) (a : Act) : Prop := a.defers = [] ∧ a.tmps.size = n ∧ ∀ i, i < n → Rv G (fr i) (a.tmps.getD i undef)
theorem Rfr.step {n : Nat} {G G' : Ctx} {fr : Fr} {a : Act} (h : Rfr n G fr a) (hs : Step G G') : Rfr n G' fr a := ⟨h.1, h.2.1, fun i hi => (h.2.2 i hi).step hs⟩
theorem Rfr.put {n : Nat} {G : Ctx} {fr : Fr} {a : Act} (h : Rfr n G fr a) {d : Option Nat} {r : AV} {v : Value} (hd : ∀ x, d = some x → x < n) (hr : Rv G r v) : Rfr n G (fr.put d r) (a.put d v) := by
  cases d with
  | none => exact h
  | some d =>
    have hdn := hd d rfl
    refine ⟨h.1, by simp [Act.put, h.2.1], fun i hi => ?_⟩
    by_cases e : i = d
    · subst e
      simp [Fr.put, Act.put, Array.getD, h.2.1, hi]
      exact hr
    · have := h.2.2 i hi
      simp only [Fr.put, Option.some.injEq, Act.put]
      rw [if_neg (fun x => e x.symm)]
      simpa [Array.getD, h.2.1, hi, Array.getElem_setIfInBounds, Ne.symm e] using this

def Post (n : Nat) (G : Ctx) (Q : Exit → Fr → St → Prop) : Exit → Act → World → Prop := fun e a' w' => ∃ (G' : Ctx) (fr' : Fr), G'.w = w' ∧ Rel G' ∧ Step G G' ∧ Rfr n G' fr' a' ∧ Q e fr' G'.S
def AWp (P : Program) (n : Nat) (c : Code) (Q : Exit → Fr → St → Prop) (fr : Fr) (S : St) : Prop := ∀ (G : Ctx) (a : Act), G.S = S → Rel G → Rfr n G fr a → c.wp P (Post n G Q) a G.w

theorem Post.of_step {n : Nat} {G G1 : Ctx} {Q : Exit → Fr → St → Prop} {e : Exit} {a : Act} {w : World} (hs : Step G G1) (h : Post n G1 Q e a w) : Post n G Q e a w := by
  obtain ⟨G', fr', h1, h2, h3, h4, h5⟩ := h
  exact ⟨G', fr', h1, h2, hs.trans h3, h4, h5⟩

/-! ### operations in short -/
def tmpsOk (n : Nat) (o : Oper) : Bool :=
  (match o.dst with | some d => decide (d < n) | none => true) && o.op.operands.toList.all fun | .tmp t => decide (t < n) | _ => true

def sOper (P : Program) (n : Nat) (ops : Array Oper) (o : Oper) : Option SOper :=
  if tmpsOk n o then
    match o.guard with
    | none => some ⟨o.dst, sop P o.op, none⟩
    | some (j, want) => match (ops[j]?).bind (·.dst) with
      | some t => if t < n then some ⟨o.dst, sop P o.op, some (t, want)⟩ else none
      | none => none
  else none

/-- Is a guarded operation carried out? -/
def wantA (fr : Fr) : Option (Nat × Bool) → Option Bool
  | none => some true
  | some (t, want) => match fr t with
    | .sc (.bool b) => some (b == want)
    | .sc (.tuple _) => some false
    | _ => none

def sops (P : Program) : List SOper → (Fr → St → Prop) → Fr → St → Prop
  | [], K, fr, S => K fr S
  | o :: os, K, fr, S => match o.guard with
    | none => swp P o.op fr S fun r S' => sops P os K (fr.put o.dst r) S'
    | some (t, want) => match fr t with
      | .sc (.bool b) => (b = want → swp P o.op (fr.put (some t) (.sc (.bool want))) S fun r S' => sops P os K ((fr.put (some t) (.sc (.bool want))).put o.dst r) S') ∧
          (b ≠ want → sops P os K ((fr.put (some t) (.sc (.bool !want))).put o.dst (.sc undef)) S)
      | .sc (.tuple _) => sops P os K (fr.put o.dst (.sc undef)) S
      | _ => False
theorem put_self {fr : Fr} {t : Nat} {x : AV} (h : fr t = x) : fr.put (some t) x = fr := by
  funext i
  simp only [Fr.put]
  split
  · rename_i e; cases e; exact h.symm
  · rfl

section
variable {P : Program} {n : Nat} {ops : Array Oper}

theorem operand_ok {G : Ctx} {fr : Fr} {a : Act} (hf : Rfr n G fr a) {o : Oper} (ht : tmpsOk n o = true) : ∀ x q, x ∈ o.op.operands → sa x = some q → Rv G (evS fr q) (a.eval x) := by
  intro x q hx hq
  simp only [tmpsOk, Bool.and_eq_true, List.all_eq_true] at ht
  have h2 := ht.2 x (Array.mem_def.1 hx)
  cases x with
  | tmp t =>
    simp [sa] at hq
    subst hq
    simp at h2
    exact hf.2.2 t h2
  | const v =>
    simp [sa] at hq
    subst hq
    exact avOf_ok v
  | func f =>
    simp [sa] at hq
    subst hq
    simp only [evS, Rv, Act.eval]
    exact ⟨[], rfl, by simp [Rvs]⟩
  | global g => simp [sa] at hq

theorem dst_ok {o : Oper} (ht : tmpsOk n o = true) : ∀ d, o.dst = some d → d < n := by
  intro d hd
  simp only [tmpsOk, Bool.and_eq_true, hd, decide_eq_true_eq] at ht
  exact ht.1

/-- What the guard says. -/
theorem want_ok {G : Ctx} {fr : Fr} {a : Act} (hf : Rfr n G fr a) {o : Oper} {s : SOper} (hs : sOper P n ops o = some s) {b : Bool} (h : wantA fr s.guard = some b) : Region.wanted o (yielded ops a.tmps) = b := by
  unfold sOper at hs
  split at hs
  · rename_i ht
    split at hs
    · rename_i hg
      cases hs
      simp [wantA] at h
      subst h
      simp [Region.wanted, hg]
    · rename_i j want hg
      split at hs
      · rename_i t hj
        split at hs
        · rename_i htn
          cases hs
          have hv := hf.2.2 t htn
          have hy : yielded ops a.tmps j = match a.tmps[t]? with | some (.bool b) => some b | _ => none := by
            unfold yielded
            rw [hj]
            rfl
          have hget : a.tmps[t]? = some (a.tmps.getD t undef) := by
            have : t < a.tmps.size := by rw [hf.2.1]; exact htn
            simp [Array.getD, this]
          simp only [wantA] at h
          simp only [Region.wanted, hg, hy, hget]
          split at h
          · rename_i b' he
            rw [he] at hv
            rw [scR hv]
            simp at h
            subst h
            cases b' <;> cases want <;> rfl
          · rename_i vs he
            rw [he] at hv
            rw [scR hv]
            simp at h
            subst h
            rfl
          · cases h
        · cases hs
      · cases hs
  · cases hs

theorem sOper_parts {o : Oper} {s : SOper} (hs : sOper P n ops o = some s) : tmpsOk n o = true ∧ sop P o.op = s.op ∧ s.dst = o.dst := by
  unfold sOper at hs
  split at hs
  · rename_i ht
    split at hs
    · cases hs
      exact ⟨ht, rfl, rfl⟩
    · split at hs
      · split at hs
        · cases hs
          exact ⟨ht, rfl, rfl⟩
        · cases hs
      · cases hs
  · cases hs

/-- One operation, carried out. -/
theorem oper_wp {G : Ctx} {fr : Fr} {a : Act} {o : Oper} {K : AV → St → Prop} {Q : Exit → Act → World → Prop} {next : Act → World → Prop} (hf : Rfr n G fr a) (ht : tmpsOk n o = true)
    (h : OpRun P (execOp a.eval o) G K)
    (hn : ∀ (G' : Ctx) (r : AV) (v : Value), Rel G' → Step G G' → Rv G' r v → K r G'.S → Rfr n G' (fr.put o.dst r) (a.put o.dst v) → next (a.put o.dst v) G'.w) : o.wp P a G.w next Q := by
  unfold Oper.wp
  have fin : ∀ v w', Left G K v w' → next (a.put o.dst v) w' := by
    rintro v w' ⟨G', r, rfl, h2, h3, h4, h5⟩
    exact hn G' r v h2 h3 h4 h5 ((hf.step h3).put (dst_ok ht) h4)
  rcases h with ⟨v, w', h1 | ⟨h1, rfl⟩, h2⟩ | ⟨f, args, h1, h2⟩
  · rw [h1]; exact fin v w' h2
  · rw [h1]; exact fin undef w' h2
  · rw [h1]
    exact h2.mono fun e w' ⟨v, he, hl⟩ => by subst he; exact fin v w' hl

theorem wpOps_none (i : Nat) (rest : List Nat) (Q : Exit → Act → World → Prop) (a : Act) (w : World) (o : Oper) (ho : ops[i]? = some o) (h : if Region.wanted o (yielded ops a.tmps) then o.wp P a w (wpOps P ops Q rest) Q else wpOps P ops Q rest (a.put o.dst undef) w) : wpOps P ops Q (i :: rest) a w := by
  simp only [wpOps, ho]
  split
  · rename_i hw
    rw [if_pos hw] at h
    exact .inl h
  · rename_i hw
    rw [if_neg hw] at h
    exact h

theorem sops_sound {Q : Exit → Fr → St → Prop} {G0 : Ctx} : ∀ (l : List Oper) (k : Nat) (sl : List SOper), (∀ j, l[j]? = ops[k + j]?) → l.mapM (sOper P n ops) = some sl →
    ∀ (G : Ctx) (a : Act) (fr : Fr), Rel G → Step G0 G → Rfr n G fr a → sops P sl (fun fr S => Q .normal fr S) fr G.S → wpOps P ops (Post n G0 Q) (List.range' k l.length) a G.w
  | [], k, sl, _, hs, G, a, fr, hR, h0, hf, h => by
    simp at hs
    subst hs
    exact ⟨G, fr, rfl, hR, h0, hf, h⟩
  | o :: l, k, sl, hl, hs, G, a, fr, hR, h0, hf, h => by
    simp only [List.mapM_cons, Option.bind_eq_bind, Option.bind_eq_some_iff, Option.pure_def, Option.some.injEq] at hs
    obtain ⟨s, hs1, sl', hs2, rfl⟩ := hs
    have ho : ops[k]? = some o := by simpa using (hl 0).symm
    have hl' : ∀ j, l[j]? = ops[(k + 1) + j]? := fun j => by have := hl (j + 1); simpa [Nat.add_assoc, Nat.add_comm 1 j] using this
    obtain ⟨ht, hop, hd⟩ := sOper_parts hs1
    have ih := fun G a fr hR h0 hf h => sops_sound (Q := Q) (G0 := G0) l (k + 1) sl' hl' hs2 G a fr hR h0 hf h
    have run : (swp P s.op fr G.S fun r S' => sops P sl' (fun fr S => Q .normal fr S) (fr.put s.dst r) S') → o.wp P a G.w (wpOps P ops (Post n G0 Q) (List.range' (k + 1) l.length)) (Post n G0 Q) := fun h => by
      refine oper_wp hf ht (sop_ok hR rfl hop (operand_ok hf ht) h) fun G' r v h1 h2 h3 h4 h5 => ?_
      rw [hd] at h4
      exact ih G' _ _ h1 (h0.trans h2) h5 h4
    have skip : sops P sl' (fun fr S => Q .normal fr S) (fr.put s.dst (.sc undef)) G.S → wpOps P ops (Post n G0 Q) (List.range' (k + 1) l.length) (a.put o.dst undef) G.w := fun h => by
      rw [hd] at h
      exact ih G _ _ hR h0 (hf.put (dst_ok ht) (by simp [Rv])) h
    rw [List.length_cons, List.range'_succ]
    refine wpOps_none k _ _ a G.w o ho ?_
    simp only [sops] at h
    split at h
    · rename_i hg
      have hw := want_ok hf hs1 (b := true) (by rw [hg]; rfl)
      rw [if_pos hw]
      exact run h
    · rename_i t want hg
      split at h
      · rename_i b hb
        by_cases e : b = want
        · have hw := want_ok hf hs1 (b := true) (by rw [hg]; simp [wantA, hb, e])
          rw [if_pos hw]
          have h1 := h.1 e
          rw [put_self (by rw [hb, e])] at h1
          exact run h1
        · have hw := want_ok hf hs1 (b := false) (by rw [hg]; simp [wantA, hb]; simpa using e)
          rw [hw]
          have h2 := h.2 e
          rw [put_self (by rw [hb]; cases b <;> cases want <;> simp_all)] at h2
          exact skip h2
      · rename_i vs hb
        have hw := want_ok hf hs1 (b := false) (by rw [hg]; simp [wantA, hb])
        rw [hw]
        exact skip h
      · exact h.elim

theorem awp_region {id : Nat} {sl : List SOper} {Q : Exit → Fr → St → Prop} {fr : Fr} {S : St} (hs : ops.toList.mapM (sOper P n ops) = some sl) (h : sops P sl (fun fr S => Q .normal fr S) fr S) : AWp P n (.region id ops false) Q fr S := by
  intro G a hS hR hf
  subst hS
  refine wp_region ?_
  have := sops_sound (Q := Q) (G0 := G) ops.toList 0 sl (by simp) hs G a fr hR (Step.refl G) hf h
  simpa [List.range_eq_range'] using this

/-! ### drawn order -/
def obZ (q : Option Ob) : Ob → Prop
  | .iter (.mapz kd z es) => ∃ ex, q = some (.map (es ++ ex)) ∧ keysOk kd ex = true ∧ ∀ e ∈ ex, e.2 = avOf z
  | _ => False
def ObE (o : Ob) (q : Option Ob) : Prop := q = some o ∨ obZ q o
def Ext (S S' : St) : Prop := S.n ≤ S'.n ∧ ∀ l o, S.m l = some o → ObE o (S'.m l)
theorem Ext.refl (S : St) : Ext S S := ⟨Nat.le_refl _, fun _ _ h => .inl h⟩
theorem ObE.row {e : TypeId} {k : Nat} {cs : List AV} {q : Option Ob} (h : ObE (.row e k cs) q) : q = some (.row e k cs) := h.elim _root_.id False.elim
theorem ObE.map {es : List (Value × AV)} {q : Option Ob} (h : ObE (.map es) q) : q = some (.map es) := h.elim _root_.id False.elim
theorem Ext.trans {A B C : St} (h : Ext A B) (k : Ext B C) : Ext A C := ⟨Nat.le_trans h.1 k.1, fun l o e => by
  rcases h.2 l o e with h1 | h1
  · exact k.2 l o h1
  · cases o with
    | iter i => cases i with
      | mapz kd z es =>
        obtain ⟨ex, h2, h3⟩ := h1
        exact .inr ⟨ex, (k.2 l _ h2).map, h3⟩
      | _ => exact h1.elim
    | _ => exact h1.elim⟩
/-- In a store that stands, all is as it was. -/
theorem Ext.real {G : Ctx} {S' : St} (hR : Rel G) (h : Ext G.S S') {l : Nat} {o : Ob} (ho : G.S.m l = some o) : S'.m l = some o := by
  rcases h.2 l o ho with h1 | h1
  · exact h1
  · cases o with
    | iter i => cases i with
      | mapz kd z es =>
        obtain ⟨b, _, h2⟩ := hR.ok l _ ho
        exact h2.elim
      | _ => exact h1.elim
    | _ => exact h1.elim

/-- An operation that gives one value in every store that has more. -/
def PureSem (P : Program) (o : Oper) (fr : Fr) (S : St) (r : AV) : Prop :=
  ∀ (G : Ctx) (ρ : Operand → Value), Ext S G.S → Rel G → (∀ x q, x ∈ o.op.operands → sa x = some q → Rv G (evS fr q) (ρ x)) → OpRun P (execOp ρ o) G fun r' S' => r' = r ∧ Ext G.S S'

def guardOf (ops : Array Oper) (o : Oper) : Option (Nat × Bool) := match o.guard with
  | none => none
  | some (j, want) => ((ops[j]?).bind (·.dst)).map fun t => (t, want)

/-- In frame fr operation o leaves r. -/
def YA (P : Program) (ops : Array Oper) (S : St) (o : Oper) (r : AV) (fr : Fr) : Prop :=
  (wantA fr (guardOf ops o) = some true ∧ PureSem P o fr S r) ∨ (wantA fr (guardOf ops o) = some false ∧ r = .sc undef)

def qA (P : Program) (ops : Array Oper) (S : St) (i : Nat) (K : Fr → Prop) (fr : Fr) : Prop :=
  match ops[i]? with
  | none => K fr
  | some o => ∃ r, YA P ops S o r fr ∧ K (fr.put o.dst r)

theorem qA_mono {S : St} {i : Nat} {fr : Fr} {K K' : Fr → Prop} (h : ∀ fr, K fr → K' fr) (hh : qA P ops S i K fr) : qA P ops S i K' fr := by
  unfold qA at *
  split
  · exact h _ (by simpa [*] using hh)
  · rename_i o ho
    simp only [ho] at hh
    obtain ⟨r, h1, h2⟩ := hh
    exact ⟨r, h1, h _ h2⟩

def wpAnyA (P : Program) (ops : Array Oper) (S : St) (Q : Fr → Prop) : Nat → Array Bool → Fr → Prop
  | 0, listed, fr => Region.ready .any ops listed = [] ∧ Q fr
  | fuel + 1, listed, fr => (Region.ready .any ops listed = [] → Q fr) ∧ ∀ i ∈ Region.ready .any ops listed, qA P ops S i (wpAnyA P ops S Q fuel (listed.setIfInBounds i true)) fr

theorem put_off {fr : Fr} {d : Option Nat} {r : AV} {t : Nat} (h : d ≠ some t) : (fr.put d r) t = fr t := by simp [Fr.put, h]

theorem evS_put {fr : Fr} {o : Oper} {d : Option Nat} {r : AV} (h : ∀ t, d = some t → t ∉ o.looksAt ops) {x : Operand} {q : SA} (hx : x ∈ o.op.operands) (hq : sa x = some q) : evS (fr.put d r) q = evS fr q := by
  cases x with
  | tmp t =>
    simp [sa] at hq
    subst hq
    refine put_off fun e => h t e ?_
    unfold Oper.looksAt
    exact List.mem_append_left _ (List.mem_filterMap.2 ⟨.tmp t, Array.mem_def.1 hx, rfl⟩)
  | const v => simp [sa] at hq; subst hq; rfl
  | func f => simp [sa] at hq; subst hq; rfl
  | global g => simp [sa] at hq

theorem want_put {fr : Fr} {o : Oper} {d : Option Nat} {r : AV} (h : ∀ t, d = some t → t ∉ o.looksAt ops) : wantA (fr.put d r) (guardOf ops o) = wantA fr (guardOf ops o) := by
  unfold guardOf
  cases hg : o.guard with
  | none => rfl
  | some g =>
    obtain ⟨j, want⟩ := g
    cases hj : (ops[j]?).bind (·.dst) with
    | none => simp [hj, wantA]
    | some t =>
      simp only [hj, Option.map_some, wantA]
      rw [put_off fun e => h t e ?_]
      unfold Oper.looksAt
      refine List.mem_append_right _ ?_
      rw [hg]
      simp [hj]

theorem YA.put {S : St} {o : Oper} {r r' : AV} {fr : Fr} {d : Option Nat} (h : ∀ t, d = some t → t ∉ o.looksAt ops) : YA P ops S o r (fr.put d r') ↔ YA P ops S o r fr := by
  unfold YA PureSem
  rw [want_put h]
  constructor
  · rintro (⟨h1, h2⟩ | h1)
    · exact .inl ⟨h1, fun G ρ a b c => h2 G ρ a b fun x q hx hq => by rw [evS_put h hx hq]; exact c x q hx hq⟩
    · exact .inr h1
  · rintro (⟨h1, h2⟩ | h1)
    · exact .inl ⟨h1, fun G ρ a b c => h2 G ρ a b fun x q hx hq => by have := c x q hx hq; rwa [evS_put h hx hq] at this⟩
    · exact .inr h1

theorem Fr.put_comm {fr : Fr} {d e : Option Nat} {x y : AV} (h : ∀ t, d = some t → e ≠ some t) : (fr.put d x).put e y = (fr.put e y).put d x := by
  funext i
  simp only [Fr.put]
  by_cases h1 : d = some i
  · have := h i h1
    simp [h1, this]
  · simp [h1]

theorem qA_put {S : St} {j : Nat} {oi oj : Oper} {v : AV} (hj : ops[j]? = some oj) (hap : oi.apart ops oj = true) {K : Fr → Prop} {fr : Fr}
    (hy : YA P ops S oi v fr) (h : qA P ops S j K (fr.put oi.dst v)) : qA P ops S j (fun fr' => YA P ops S oi v fr' ∧ K (fr'.put oi.dst v)) fr := by
  obtain ⟨h1, h2, h3⟩ := Oper.apart_spec hap
  unfold qA at *
  simp only [hj] at *
  obtain ⟨r, hr, hK⟩ := h
  refine ⟨r, (YA.put h1).1 hr, (YA.put h3).2 hy, ?_⟩
  rw [Fr.put_comm (d := oi.dst) (e := oj.dst) h2] at hK
  exact hK

theorem wpAnyA_first {S : St} {Q : Fr → Prop} {i : Nat} {oi : Oper} {v : AV} (hi : ops[i]? = some oi) :
    ∀ (fuel : Nat) (listed : Array Bool) (fr : Fr),
      (∀ j oj, ops[j]? = some oj → j ≠ i → listed.getD j true = false → (∀ e ∈ oj.after, Region.binds .any e = true → e.on ≠ i) → oi.apart ops oj = true) →
      i ∈ Region.ready .any ops listed → YA P ops S oi v fr →
      wpAnyA P ops S Q fuel (listed.setIfInBounds i true) (fr.put oi.dst v) → wpAnyA P ops S Q (fuel + 1) listed fr := by
  have self : ∀ {K : Fr → Prop} {fr : Fr}, YA P ops S oi v fr → K (fr.put oi.dst v) → qA P ops S i K fr := fun hy hK => by
    unfold qA; simp only [hi]; exact ⟨v, hy, hK⟩
  intro fuel
  induction fuel with
  | zero =>
    intro listed fr _ hr hy H
    refine ⟨fun h => (by rw [h] at hr; cases hr), fun j hj => ?_⟩
    by_cases hji : j = i
    · subst hji; exact self hy H
    · have := ready_mono hj hji
      rw [H.1] at this
      cases this
  | succ fuel ih =>
    intro listed fr hfree hr hy H
    refine ⟨fun h => (by rw [h] at hr; cases hr), fun j hj => ?_⟩
    by_cases hji : j = i
    · subst hji; exact self hy H
    · have h1 := H.2 j (ready_mono hj hji)
      obtain ⟨hjun, oj, hoj, hall⟩ := mem_ready.1 hj
      have hnot : ∀ e ∈ oj.after, Region.binds .any e = true → e.on ≠ i := fun e he hb heq => by
        have h1 := hall e he hb
        have h0 := (mem_ready.1 hr).1
        rw [heq] at h1
        rcases Nat.lt_or_ge i listed.size with h' | h'
        · simp [h'] at h0 h1; rw [h0] at h1; cases h1
        · simp [Array.getElem?_eq_none h'] at h1
      have h2 := qA_put hoj (hfree j oj hoj hji hjun hnot) hy h1
      have hfree' : ∀ k ok, ops[k]? = some ok → k ≠ i → (listed.setIfInBounds j true).getD k true = false →
          (∀ e ∈ ok.after, Region.binds .any e = true → e.on ≠ i) → oi.apart ops ok = true := fun k ok hk hki hun hno => by
        refine hfree k ok hk hki ?_ hno
        by_cases hjk : j = k
        · subst hjk; exact hjun
        · rw [getD_set_ne true hjk] at hun; exact hun
      refine qA_mono (fun fr' h3 => ih (listed.setIfInBounds j true) fr' hfree' (ready_mono hr (Ne.symm hji)) h3.1 ?_) h2
      rw [Array.setIfInBounds_comm _ _ hji]
      exact h3.2

/-- One walk in the order of the text. -/
def lexA (P : Program) (ops : Array Oper) (S : St) (Q : Fr → Prop) : List Oper → Fr → Prop
  | [], fr => Q fr
  | o :: l, fr => ∃ r, YA P ops S o r fr ∧ lexA P ops S Q l (fr.put o.dst r)

theorem wpAnyA_lex {S : St} {Q : Fr → Prop} : ∀ (l : List Oper) (k : Nat) (listed : Array Bool) (fr : Fr), (∀ j, l[j]? = ops[k + j]?) →
    Region.lexFrom .any ops l.length k listed = true → lexA P ops S Q l fr → wpAnyA P ops S Q l.length listed fr
  | [], _, _, _, _, hB, h => ⟨by simpa [Region.lexFrom] using hB, h⟩
  | o :: l, k, listed, fr, hl, hB, h => by
    have h0 : ops[k]? = some o := by simpa using (hl 0).symm
    simp only [List.length_cons, Region.lexFrom, Bool.and_eq_true] at hB
    obtain ⟨⟨hr, hf⟩, hB'⟩ := hB
    obtain ⟨v, hy, hK⟩ := h
    exact wpAnyA_first h0 l.length listed fr (Region.free_spec h0 hf) (by simpa using hr) hy
      (wpAnyA_lex l (k + 1) _ _ (fun j => by have := hl (j + 1); simpa [Nat.add_assoc, Nat.add_comm 1 j] using this) hB' hK)

theorem guardOf_ok {o : Oper} {s : SOper} (hs : sOper P n ops o = some s) : guardOf ops o = s.guard := by
  unfold sOper at hs
  unfold guardOf
  split at hs
  · split at hs
    · rename_i hg
      cases hs
      simp [hg]
    · rename_i j want hg
      split at hs
      · rename_i t ht
        split at hs
        · cases hs
          simp [ht]
        · cases hs
      · cases hs
  · cases hs

theorem wpAny_of_A {S : St} {Q : Fr → Prop} {Q' : Exit → Fr → St → Prop} {G0 : Ctx} (hall : ∀ (i : Nat) o, ops[i]? = some o → ∃ s, sOper P n ops o = some s) (hQ : ∀ fr S', Ext S S' → Q fr → Q' .normal fr S') :
    ∀ (fuel : Nat) (listed : Array Bool) (fr : Fr) (G : Ctx) (a : Act), Rel G → Step G0 G → Ext S G.S → Rfr n G fr a → wpAnyA P ops S Q fuel listed fr → wpAny P .any ops (Post n G0 Q') fuel listed a G.w
  | 0, _, fr, G, a, hR, h0, hE, hf, h => ⟨h.1, G, fr, rfl, hR, h0, hf, hQ fr _ hE h.2⟩
  | fuel + 1, listed, fr, G, a, hR, h0, hE, hf, h => by
    refine ⟨fun he => ⟨G, fr, rfl, hR, h0, hf, hQ fr _ hE (h.1 he)⟩, fun i hi => ?_⟩
    have h1 := h.2 i hi
    unfold qA at h1
    unfold wpOp
    cases ho : ops[i]? with
    | none =>
      simp only [ho] at h1 ⊢
      exact wpAny_of_A hall hQ fuel _ fr G a hR h0 hE hf h1
    | some o =>
      simp only [ho] at h1 ⊢
      obtain ⟨s, hs⟩ := hall i o ho
      obtain ⟨ht, hop, hd⟩ := sOper_parts hs
      obtain ⟨r, hy, hK⟩ := h1
      rcases hy with ⟨hw, hp⟩ | ⟨hw, rfl⟩
      · rw [guardOf_ok hs] at hw
        rw [if_pos (want_ok hf hs hw)]
        refine .inl (oper_wp hf ht (hp G a.eval hE hR (operand_ok hf ht)) fun G' r' v g1 g2 g3 g4 g5 => ?_)
        obtain ⟨rfl, hE'⟩ := g4
        exact wpAny_of_A hall hQ fuel _ _ G' _ g1 (h0.trans g2) (hE.trans hE') g5 hK
      · rw [guardOf_ok hs] at hw
        rw [want_ok hf hs hw]
        exact wpAny_of_A hall hQ fuel _ _ G _ hR h0 hE (hf.put (dst_ok ht) (by simp [Rv])) hK

theorem awp_regionD {id : Nat} {Q : Exit → Fr → St → Prop} {fr : Fr} {S : St} (hm : P.follows .mixedOrders = true) (hB : Region.lexB .any ops = true) (hall : ∀ (i : Nat) o, ops[i]? = some o → ∃ s, sOper P n ops o = some s)
    (h : lexA P ops S (fun fr => ∀ S', Ext S S' → Q .normal fr S') ops.toList fr) : AWp P n (.region id ops true) Q fr S := by
  intro G a hS hR hf
  subst hS
  simp only [Region.lexB, Bool.and_eq_true] at hB
  refine wp_region_any hm ?_
  have hd := drew_step G (G.w.drawn + 1)
  have := wpAnyA_lex (P := P) (S := G.S) ops.toList 0 (Array.replicate ops.size false) fr (by simp) (by simpa using hB.2) h
  exact wpAny_of_A (S := G.S) (G0 := G) (Q := fun fr => ∀ S', Ext G.S S' → Q .normal fr S') (Q' := Q) hall (fun fr S' hE hq => hq S' hE) _ _ fr (G.drew (G.w.drawn + 1)) a (drew_rel hR _) hd (Ext.refl _) (hf.step hd) this
end
end Go.Proofs.Ytfihpbeihlpfcaa.Ev
