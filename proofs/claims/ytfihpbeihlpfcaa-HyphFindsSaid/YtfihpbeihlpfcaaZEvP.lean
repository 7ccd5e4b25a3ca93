/- Code at a stroke; what may be told anew; functions. -/
import Derived.Test.YtfihpbeihlpfcaaZEvNH
set_option linter.unusedVariables false
set_option linter.unusedSimpArgs false
namespace Go.Proofs.Ytfihpbeihlpfcaa.Ev
open Go Go.RowKit
section
variable {P : Program} {n : Nat} {Q : Exit → Fr → St → Prop} {fr : Fr} {S : St}
/-! ### all but loops at a stroke -/
def SC.loops : SC → Bool
  | .seq a b => a.loops || b.loops
  | .cond _ a b => a.loops || b.loops
  | .block _ a => a.loops
  | .scope a => a.loops
  | .loop _ => true
  | _ => false
def cwp (P : Program) (n : Nat) : SC → (Exit → Fr → St → Prop) → Fr → St → Prop
  | .skip, Q, fr, S => Q .normal fr S
  | .reg l, Q, fr, S => sops P l (fun fr S => Q .normal fr S) fr S
  | .regD l, Q, fr, S => dops P S l (fun fr => belD S.n fr l ∧ Q .normal fr S) fr
  | .regC l, Q, fr, S => pickB (regCB P l (fun fr S => Q .normal fr S) fr S) ()
  | .regE l, Q, fr, S => eops P l (fun fr S => Q .normal fr S) fr S
  | .regG l, Q, fr, S => pickD (fun D => nops P (killD D S) l (fun fr S => Q .normal fr S) fr S) ()
  | .regL l, Q, fr, S => pickD (fun D => lops P (killD D S) l (fun fr S => Q .normal fr S) fr S) ()
  | .regF l, Q, fr, S => fops P [] [] l (fun fr S => Q .normal fr S) fr S
  | .regH fl l, Q, fr, S => pickD (fun D => below S.n D ∧ hops P (killD D S) S.n l (fun fr S => Q .normal fr S) fr (addsE S fl)) ()
  | .seq a b, Q, fr, S => if a.loops then cwp P n a (thenQ (SWp P n b Q) Q) fr S else cwp P n a (thenQ (cwp P n b Q) Q) fr S
  | .cond c a b, Q, fr, S => match evS fr c with
    | .sc (.bool t) => (t = true → cwp P n a Q fr S) ∧ (t = false → cwp P n b Q fr S)
    | _ => False
  | .block id c, Q, fr, S => cwp P n c (blockQ id Q) fr S
  | .scope c, Q, fr, S => cwp P n c (scopeQ Q) fr S
  | .loop c, Q, fr, S => SWp P n (.loop c) Q fr S
  | .exit id, Q, fr, S => Q (.exit id) fr S
  | .ret, Q, fr, S => Q .ret fr S

theorem cwp_sound : ∀ (c : SC) (Q : Exit → Fr → St → Prop) (fr : Fr) (S : St), cwp P n c Q fr S → SWp P n c Q fr S
  | .skip, Q, fr, S, h => swp_skip h
  | .reg l, Q, fr, S, h => swp_reg h
  | .regD l, Q, fr, S, h => swp_regD' h
  | .regC l, Q, fr, S, h => swp_regC h
  | .regE l, Q, fr, S, h => swp_regE h
  | .regF l, Q, fr, S, h => swp_regF h
  | .regH fl l, Q, fr, S, h => by
    obtain ⟨D, h1, h2⟩ := h
    exact swp_regH D h1 h2
  | .regG l, Q, fr, S, h => by
    obtain ⟨D, h⟩ := h
    exact swp_regG _ h
  | .regL l, Q, fr, S, h => by
    obtain ⟨D, h⟩ := h
    exact swp_regL _ h
  | .seq a b, Q, fr, S, h => by
    simp only [cwp] at h
    split at h
    · exact swp_seq (cwp_sound a _ fr S h)
    · exact swp_seq ((cwp_sound a _ fr S h).mono fun e fr S hq => by
        cases e <;> first | exact hq | exact cwp_sound b Q fr S hq)
  | .cond c a b, Q, fr, S, h => by
    simp only [cwp] at h
    split at h
    · rename_i t ht
      exact swp_cond ht (fun e => cwp_sound a Q fr S (h.1 e)) (fun e => cwp_sound b Q fr S (h.2 e))
    · exact h.elim
  | .block id c, Q, fr, S, h => swp_block (cwp_sound c _ fr S h)
  | .scope c, Q, fr, S, h => swp_scope (cwp_sound c _ fr S h)
  | .loop c, Q, fr, S, h => h
  | .exit id, Q, fr, S, h => swp_exit h
  | .ret, Q, fr, S, h => swp_ret h

/-! ### told anew -/
def View (fr : Fr) (S : St) (fr' : Fr) (S' : St) : Prop := ∀ (n : Nat) (G : Ctx) (a : Act), G.S = S → Rel G → Rfr n G fr a → ∃ G' : Ctx, G'.w = G.w ∧ G'.S = S' ∧ Rel G' ∧ Step G G' ∧ Rfr n G' fr' a
theorem View.refl (fr : Fr) (S : St) : View fr S fr S := fun n G a h1 h2 h3 => ⟨G, rfl, h1, h2, Step.refl G, h3⟩
theorem View.trans {f1 f2 f3 : Fr} {S1 S2 S3 : St} (h : View f1 S1 f2 S2) (k : View f2 S2 f3 S3) : View f1 S1 f3 S3 := fun n G a h1 h2 h3 => by
  obtain ⟨G', w1, s1, r1, t1, f1⟩ := h n G a h1 h2 h3
  obtain ⟨G2, w2, s2, r2, t2, f2⟩ := k n G' a s1 r1 f1
  exact ⟨G2, w2.trans w1, s2, r2, t1.trans t2, f2⟩
theorem SWp.view {c : SC} {fr' : Fr} {S' : St} (hv : View fr S fr' S') (h : SWp P n c Q fr' S') : SWp P n c Q fr S := fun c' hc G a h1 h2 h3 => by
  obtain ⟨G', w1, s1, r1, t1, f1⟩ := hv n G a h1 h2 h3
  have := h c' hc G' a s1 r1 f1
  rw [w1] at this
  exact wp_mono this fun _ _ _ hp => hp.of_step t1
theorem View.nil {i e k : Nat} (h : fr i = .sc (.slice none 0 0)) : View fr S (fr.put (some i) (.ref S.n 0 0 0)) (S.add (.row e k [])) := fun n G a h1 h2 h3 => by
  subst h1
  refine ⟨G.virt e k, rfl, rfl, virt_rel h2 e k, virt_step G e k, h3.1, h3.2.1, fun j hj => ?_⟩
  by_cases ej : j = i
  · subst ej
    have hv := h3.2.2 j hj
    rw [h] at hv
    rw [scR hv]
    simp only [Fr.put, if_true, Rv]
    refine ⟨by simp [Ctx.virt, St.add], ⟨_, _, _, rfl⟩, fun e' k' cs' hm => ?_⟩
    have : some (Ob.row e k []) = some (Ob.row e' k' cs') := by rw [← hm]; simp [Ctx.virt, St.add]
    cases this
    exact ⟨Nat.le_refl _, fun _ => .inl ⟨by simp [Ctx.virt], rfl, rfl, rfl, rfl⟩⟩
  · rw [put_off (by simpa using fun x => ej x.symm)]
    exact (h3.2.2 j hj).step (virt_step G e k)

theorem freeze_ok {G : Ctx} (hR : Rel G) {l tot m : Nat} {e k : Nat} {cs : List AV} {v : Value} (hm : G.S.m l = some (.row e k cs)) (ht : cs.length = tot) (hk : m * k ≤ tot) (hv : Rv G (.ref l tot 0 m) v) :
    Rv (G.kill l) (.ro m (cs.take (m * k))) v := by
  simp only [Rv] at hv ⊢
  rcases (hv.2.2 e k cs hm).2 ht.symm with ⟨m0, rfl, _, rfl, rfl⟩ | ⟨b, c, cap, hb, hc, hu, hn, _⟩
  · exact ⟨none, 0, rfl, by omega, by omega, fun _ => rfl, .inl (by simp)⟩
  · rcases hu with rfl | ⟨_, _, h0, _⟩
    · obtain ⟨c', hc', _, hat⟩ := row_block hR hm hb
      exact ⟨_, _, rfl, hn.1, hn.2, (fun x => by cases x), .inr ⟨b, 0, rfl, kill_old hR ⟨⟨_, hm⟩, hb⟩, rat_take (hat.step (kill_step G l) _ _ _ (fun _ => rfl))⟩⟩
    · omega

theorem View.freeze {i l tot m : Nat} {e k : Nat} {cs : List AV} (h : fr i = .ref l tot 0 m) (hm : S.m l = some (.row e k cs)) (ht : cs.length = tot) (hk : m * k ≤ tot) : View fr S (fr.put (some i) (.ro m (cs.take (m * k)))) (S.kill l) := fun n G a h1 h2 h3 => by
  subst h1
  refine ⟨G.kill l, rfl, rfl, kill_rel h2 l, kill_step G l, h3.1, h3.2.1, fun j hj => ?_⟩
  by_cases ej : j = i
  · subst ej
    have hv := h3.2.2 j hj
    rw [h] at hv
    simp only [Fr.put, if_true]
    exact freeze_ok h2 hm ht hk hv
  · rw [put_off (by simpa using fun x => ej x.symm)]
    exact (h3.2.2 j hj).step (kill_step G l)

/-! ### functions -/
/-- Where a result stands: in a slot, or in a cell that a slot points to. -/
inductive RV where
  | tmp (t : Nat)
  | cell (a : Nat) (k : Option Nat)
def rvAV (fr : Fr) : RV → AV
  | .tmp t => fr t
  | .cell a k => match fr a with
    | .rop cs => match k with
      | none => cs.headD .junk
      | some k => .agg (cs.take k)
    | _ => .junk
def rvOk (fr : Fr) : RV → Prop
  | .tmp _ => True
  | .cell a k => match fr a with
    | .rop cs => match k with
      | none => cs ≠ []
      | some k => k ≤ cs.length
    | _ => False
def resAV (fr : Fr) (rs : List RV) : AV := match rs with
  | [t] => rvAV fr t
  | rs => .tup (rs.map (rvAV fr))
def rvsOk (fr : Fr) : List RV → Prop
  | [] => True
  | r :: rs => rvOk fr r ∧ rvsOk fr rs
def fr0 (args : List AV) : Fr := fun i => args.getD i (.sc undef)
/-- At the end of a function. -/
def retQ (rs : List RV) (n : Nat) (Q : AV → St → Prop) : Exit → Fr → St → Prop
  | .normal, fr, S | .ret, fr, S => ∃ fr' S' T, View fr S fr' S' ∧ rvsOk fr' rs ∧ Told T S' ∧ n ≤ T.n ∧ (resAV fr' rs).bel T.n ∧ Q (resAV fr' rs) T
  | _, _, _ => False

/-- A result's place in short. -/
def rvOf (P : Program) (n : Nat) : ResultVar → Option RV
  | .tmp t => if t < n then some (.tmp t) else none
  | .cell a t => match isAggT P t with
    | some g => if a < n && has P t then some (.cell a (if g then some (P.cellsOf t) else none)) else none
    | none => none

theorem load_rop {G : Ctx} (hR : Rel G) {t : TypeId} {g : Bool} {cs : List AV} {u : Value} (hg : isAggT P t = some g) (hh : has P t = true) (hx : Rv G (.rop cs) u) (fr : Fr) (a : Nat) (ha : fr a = .rop cs)
    (hok : rvOk fr (.cell a (if g then some (P.cellsOf t) else none))) : ∃ v, (do loadVar t (← asAddr u) : Sem Value).run P G.w = .ok v G.w ∧ Rv G (rvAV fr (.cell a (if g then some (P.cellsOf t) else none))) v := by
  simp only [rvOk, ha] at hok
  simp only [rvAV, ha]
  have h1 := ok_load (K := fun r _ => r = match (if g then some (P.cellsOf t) else none) with
      | none => cs.headD .junk
      | some k => .agg (cs.take k)) hR hg hh hx (by
    simp only
    cases g with
    | false =>
      simp only [Bool.false_eq_true, if_false] at hok ⊢
      cases cs with
      | nil => exact absurd rfl hok
      | cons c cs => simp [orK]
    | true =>
      simp only [if_true] at hok ⊢
      exact ⟨hok, by trivial⟩)
  obtain ⟨v, hv, r, hr, rfl⟩ := h1
  refine ⟨v, ?_, hr⟩
  simp only [Rv] at hx
  obtain ⟨b, off, rfl, _, _⟩ := hx
  simpa [Instr.loadAt, Instr.sureAddr, asAddr] using hv

theorem run_results {fn : Func} {rs : List RV} {G : Ctx} {a : Act} {fr : Fr} (hR : Rel G) (hf : Rfr fn.ntmps G fr a) (hr : fn.results.toList.mapM (rvOf P fn.ntmps) = some rs) (hok : rvsOk fr rs) :
    ∃ v, (results fn a.tmps).run P G.w = .ok v G.w ∧ Rv G (resAV fr rs) v := by
  have h1 : ∀ (l : List ResultVar) (rs : List RV), l.mapM (rvOf P fn.ntmps) = some rs → rvsOk fr rs → ∃ vs : List Value, (l.mapM fun (x : ResultVar) => (match x with
      | .tmp t => pure (a.tmps.getD t undef)
      | .cell q t => do loadVar t (← asAddr (a.tmps.getD q undef)) : Sem Value)).run P G.w = .ok vs G.w ∧ Rvs G (rs.map (rvAV fr)) vs := by
    intro l
    induction l with
    | nil => intro rs h _; simp at h; subst h; exact ⟨[], rfl, by simp [Rvs]⟩
    | cons x l ih =>
      intro rs h hk
      simp only [List.mapM_cons, Option.bind_eq_bind, Option.bind_eq_some_iff, Option.pure_def, Option.some.injEq] at h
      obtain ⟨r, hx, rs2, h2, rfl⟩ := h
      obtain ⟨vs, i1, i2⟩ := ih rs2 h2 hk.2
      have hone : ∃ v, ((match x with
        | .tmp t => pure (a.tmps.getD t undef)
        | .cell q t => do loadVar t (← asAddr (a.tmps.getD q undef)) : Sem Value)).run P G.w = .ok v G.w ∧ Rv G (rvAV fr r) v := by
        cases x with
        | tmp t =>
          simp only [rvOf] at hx
          split at hx
          · rename_i hlt; cases hx; exact ⟨_, rfl, hf.2.2 t hlt⟩
          · cases hx
        | cell q t =>
          simp only [rvOf] at hx
          split at hx
          · rename_i g hg
            split at hx
            · rename_i hq
              simp only [Bool.and_eq_true, decide_eq_true_eq] at hq
              cases hx
              have hk1 := hk.1
              cases hfq : fr q with
              | rop cs =>
                have hv := hf.2.2 q hq.1
                rw [hfq] at hv
                exact load_rop hR hg hq.2 hv fr q hfq hk1
              | _ => simp [rvOk, hfq] at hk1
            · cases hx
          · cases hx
      obtain ⟨v, j1, j2⟩ := hone
      refine ⟨v :: vs, ?_, by simp only [List.map_cons, Rvs]; exact ⟨v, vs, rfl, j2, i2⟩⟩
      simp only [List.mapM_cons, Sem.run_bind, Sem.run_pure, Result.andThen_ok, i1]
      rw [j1]
      simp only [Result.andThen_ok, i1, Sem.run_pure]
  obtain ⟨vs, e1, e2⟩ := h1 _ _ hr hok
  have hl : vs.length = rs.length := by have := (rvs_iff.1 e2).1; simpa using this.symm
  refine ⟨if h : vs.toArray.size = 1 then vs.toArray[0] else .tuple vs.toArray, ?_, ?_⟩
  · unfold results
    rw [Array.mapM_eq_mapM_toList]
    simp only [Sem.run_bind, Sem.run_map]
    erw [e1]
    simp only [Result.andThen_ok, Sem.run_pure]
  · match rs, vs, hl with
    | [], [], _ => simp only [resAV, List.map_nil, Rv]; exact ⟨[], by simp, by simp [Rvs]⟩
    | [t], [v], _ =>
      simp only [List.map_cons, List.map_nil, Rvs] at e2
      obtain ⟨v', us, h1, h2, rfl⟩ := e2
      simp only [List.cons.injEq, and_true] at h1
      subst h1
      simpa [resAV] using h2
    | t :: t' :: rs, v :: v' :: vs, _ => simp only [resAV, Rv]; exact ⟨v :: v' :: vs, by simp, e2⟩

theorem acall_of {f : FuncId} {fn : Func} {c : Code} {sc : SC} {rs : List RV} {args : List AV} {Q : AV → St → Prop}
    (hf : P.funcs[f]? = some fn) (h1 : (fn.name == "runtime.NumGoroutine") = false) (hb : fn.body = some c) (hn : fn.ntmps = n) (hr : fn.results.toList.mapM (rvOf P n) = some rs) (hargs : args.length ≤ n)
    (hs : strip P n c = some sc) (h : SWp P n sc (retQ rs S.n Q) (fr0 args) S) : ACall P f args S Q := by
  refine ⟨⟨fn, hf, h1, by rw [hb]; rfl⟩, fun G vs g1 g2 g3 => ?_⟩
  have hl := (rvs_iff.1 g3).1
  refine calls_of_wp hf hb (wp_mono (h c hs G _ g1 g2 ⟨rfl, ?_, fun i hi => ?_⟩) ?_)
  · simp only [Array.size_append, List.size_toArray, Array.size_replicate, hn]
    omega
  · simp only [fr0, hn]
    by_cases hlt : i < args.length
    · obtain ⟨v, hv, hr'⟩ := (rvs_iff.1 g3).2 i args[i] (by simp [hlt])
      have e1 : (vs.toArray ++ Array.replicate (n - vs.toArray.size) undef).getD i undef = v := by
        have hvl : i < vs.length := by omega
        have : (vs.toArray ++ Array.replicate (n - vs.toArray.size) undef)[i]? = some v := by
          rw [Array.getElem?_append_left (by simpa using hvl)]
          simpa using hv
        rw [Array.getD_eq_getD_getElem?, this]
        rfl
      rw [e1]
      simp only [List.getD, List.getElem?_eq_getElem hlt, Option.getD_some]
      exact hr'
    · have e1 : (vs.toArray ++ Array.replicate (n - vs.toArray.size) undef).getD i undef = undef := by
        simp [Array.getD]
        intro hx
        rw [Array.getElem_append_right (by simp; omega)]
        simp
      rw [e1]
      simp only [List.getD, List.getElem?_eq_none (Nat.le_of_not_lt hlt), Option.getD_none, Rv]
  · rintro e a w ⟨G', fr', rfl, k2, k3, k4, k5⟩
    have fin : ∀ fr'' S'' T, View fr' G'.S fr'' S'' → rvsOk fr'' rs → Told T S'' → S.n ≤ T.n → (resAV fr'' rs).bel T.n → Q (resAV fr'' rs) T → bodyPost P fn (fun e w' => ∃ (G' : Ctx) (r : AV) (v : Value), e = .returned v ∧ G'.w = w' ∧ Rel G' ∧ Step G G' ∧ Rv G' r v ∧ Q r G'.S) .ret a G'.w := by
      intro fr'' S'' T hv hok ht htn htb hq
      obtain ⟨G2, w2, s2, r2, t2, f2⟩ := hv n G' a rfl k2 k4
      subst hn
      obtain ⟨v, e1, e2⟩ := run_results r2 f2 hr hok
      rw [w2] at e1
      subst s2
      exact ⟨k4.1, v, e1, G2.told T, resAV fr'' rs, _, rfl, w2, told_rel r2 ht, told_step (k3.trans t2) ht (by rw [g1]; exact htn), Rv.told ht _ _ htb e2, hq⟩
    cases e with
    | normal => obtain ⟨fr'', S'', T, q1, q2, q3, q4, q5, q6⟩ := k5; exact fin fr'' S'' T q1 q2 q3 q4 q5 q6
    | ret => obtain ⟨fr'', S'', T, q1, q2, q3, q4, q5, q6⟩ := k5; exact fin fr'' S'' T q1 q2 q3 q4 q5 q6
    | _ => exact k5.elim

/-- A function in short: its code, how many slots, where its results are. -/
def lookF (P : Program) (i : FuncId) : Option (SC × Nat × List RV) :=
  match P.funcs[i]? with
  | none => none
  | some f => match f.body with
    | none => none
    | some b => if f.name == "runtime.NumGoroutine" then none else
      match f.results.toList.mapM (rvOf P f.ntmps) with
      | none => none
      | some rs => (strip P f.ntmps b).map fun sc => (sc, f.ntmps, rs)

theorem acall_look {i : FuncId} {sc : SC} {n : Nat} {rs : List RV} {args : List AV} {S : St} {Q : AV → St → Prop} (hl : lookF P i = some (sc, n, rs)) (ha : args.length ≤ n) (h : SWp P n sc (retQ rs S.n Q) (fr0 args) S) : ACall P i args S Q := by
  unfold lookF at hl
  split at hl
  · cases hl
  · rename_i f hf
    split at hl
    · cases hl
    · rename_i b hb
      split at hl
      · cases hl
      · rename_i hnm
        split at hl
        · cases hl
        · rename_i rs' hr
          simp only [Option.map_eq_some_iff] at hl
          obtain ⟨sc', hs, he⟩ := hl
          simp only [Prod.mk.injEq] at he
          obtain ⟨rfl, rfl, rfl⟩ := he
          exact acall_of hf (by simpa using hnm) hb rfl hr ha hs h
end
end Go.Proofs.Ytfihpbeihlpfcaa.Ev
