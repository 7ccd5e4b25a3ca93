/- Code in short and its rules; functions; what may be told anew. -/
import Derived.Test.YtfihpbeihlpfcaaZEvI
import Derived.Scope
set_option linter.unusedVariables false
set_option linter.unusedSimpArgs false
namespace Go.Proofs.Ytfihpbeihlpfcaa.Ev
open Go Go.RowKit

/-! ### regions that draw their order and turn the store: what may be done in which order -/
def SOp.eff : SOp → Bool
  | .store _ _ _ | .alloc _ _ _ | .box _ _ _ | .mksl _ _ _ _ _ _ | .app _ _ _ _ _ | .appZ _ _ _ _ _ _ | .copy _ _ _ | .mkmap | .mupd _ _ _ _ | .rangeM _ | .nextM _ | .mentry _ _ _ _ | .mstore _ _ _ | .entryM _ | .clr _ _ _ | .sl3 _ _ _ _ _ | .slA _ _ _ _ _ => true
  | _ => false
/-- With q a call counts as a step that turns the store. -/
def SOp.effC (q : Bool) : SOp → Bool
  | .call _ _ => q
  | s => s.eff
theorem SOp.effC_f (s : SOp) : s.effC false = s.eff := by cases s <;> rfl
def SOp.isCall : SOp → Bool
  | .call _ _ => true
  | _ => false
def SOp.isStore : SOp → Bool
  | .store _ _ _ => true
  | _ => false
/-- Is not touched by what is stored. -/
def SOp.ins : SOp → Bool
  | .mv _ | .pick _ _ _ | .bin _ _ _ | .un _ _ | .cvi _ _ | .cvs _ | .mkfunc _ _ | .mkbnd _ _ | .mkif _ _ | .build _ _ | .nilck _ | .faddr _ _ | .fld _ _ _ | .iaddr _ _ _ | .iaddrA _ _ _ _ | .ixs _ _ | .ixa _ _ _ _ _ | .ext _ _ | .lenS _ | .lenL _ | .capL _ | .min _ _ | .max _ _ | .max3 _ _ _ => true
  | _ => false
def SOp.isLoad : SOp → Bool
  | .load _ _ => true
  | _ => false
/-- Is not touched by what is stored elsewhere. -/
def SOp.insF (s : SOp) : Bool := s.ins || s.isLoad
def commF (x y : SOp) : Bool := (!x.eff && !y.eff) || (x.insF && y.isStore) || (x.isStore && y.insF)
def commB (a b : Bool) (x y : SOp) : Bool := (!x.effC a && !y.effC b) || (x.ins && y.isStore) || (x.isStore && y.ins)

inductive Aft (ops : Array Oper) (i : Nat) : Nat → Prop
  | here {j : Nat} {o : Oper} {e : Edge} (ho : ops[j]? = some o) (he : e ∈ o.after) (hb : Region.binds .any e = true) (h : e.on = i) : Aft ops i j
  | there {j : Nat} {o : Oper} {e : Edge} (ho : ops[j]? = some o) (he : e ∈ o.after) (hb : Region.binds .any e = true) (h : Aft ops i e.on) : Aft ops i j

def aftB (ops : Array Oper) (i : Nat) (acc : List Nat) (j : Nat) : Bool := match ops[j]? with
  | some o => o.after.any fun e => Region.binds .any e && (e.on == i || acc.contains e.on)
  | none => false
def aftL (ops : Array Oper) (i : Nat) : List Nat := (List.range ops.size).foldl (fun acc j => if aftB ops i acc j = true then j :: acc else acc) []

theorem aftL_ok {ops : Array Oper} {i j : Nat} (h : j ∈ aftL ops i) : Aft ops i j := by
  unfold aftL at h
  have key : ∀ (l acc : List Nat), (∀ j ∈ acc, Aft ops i j) → ∀ j ∈ l.foldl (fun acc j => if aftB ops i acc j = true then j :: acc else acc) acc, Aft ops i j := by
    intro l
    induction l with
    | nil => intro acc h; exact h
    | cons k l ih =>
      intro acc h
      rw [List.foldl_cons]
      refine ih _ ?_
      by_cases hk : aftB ops i acc k = true
      · rw [if_pos hk]
        intro j hj
        rcases List.mem_cons.1 hj with rfl | hj
        · unfold aftB at hk
          split at hk
          · rename_i o ho
            simp only [Array.any_eq_true', Bool.and_eq_true, Bool.or_eq_true, beq_iff_eq, List.contains_iff_mem] at hk
            obtain ⟨e, he, hb, h1 | h1⟩ := hk
            · exact .here ho he hb h1
            · exact .there ho he hb (h _ h1)
          · cases hk
        · exact h j hj
      · rw [if_neg hk]; exact h
  exact key _ [] (by simp) j h

def freeE (q : Oper → Bool) (P : Program) (ops : Array Oper) (i : Nat) : Bool :=
  match ops[i]? with
  | none => false
  | some oi => (List.range ops.size).all fun j => decide (j ≤ i) || (aftL ops i).contains j || match ops[j]? with
      | some oj => oi.apart ops oj && commB (q oi) (q oj) (sop P oi.op) (sop P oj.op)
      | none => true
def freeF (P : Program) (ops : Array Oper) (i : Nat) : Bool :=
  match ops[i]? with
  | none => false
  | some oi => (List.range ops.size).all fun j => decide (j ≤ i) || (aftL ops i).contains j || match ops[j]? with
      | some oj => oi.apart ops oj && commF (sop P oi.op) (sop P oj.op)
      | none => true
def backB (ops : Array Oper) : Bool := (List.range ops.size).all fun j => match ops[j]? with
  | some o => o.after.all fun e => !Region.binds .any e || decide (e.on < j)
  | none => true
def lexE (q : Oper → Bool) (P : Program) (ops : Array Oper) : Bool := Region.noSelect ops && backB ops && (List.range ops.size).all fun i => freeE q P ops i

/-- Calls that all else is before or behind. -/
def barI (P : Program) (ops : Array Oper) (i : Nat) : Bool := match ops[i]? with
  | some o => (sop P o.op).isCall && (List.range ops.size).all fun j => decide (j = i) || (aftL ops i).contains j || (aftL ops j).contains i
  | none => false
def barD (P : Program) (ops : Array Oper) : List (Option Nat) := ((List.range ops.size).filter (barI P ops)).map fun i => match ops[i]? with
  | some o => o.dst
  | none => none
def barQ (P : Program) (ops : Array Oper) (o : Oper) : Bool := (barD P ops).contains o.dst
def flagC (P : Program) (ops : Array Oper) (l : List SOper) : List (Bool × SOper) := l.map fun o => ((barD P ops).contains o.dst, o)
def lexF (P : Program) (ops : Array Oper) : Bool := Region.noSelect ops && backB ops && (List.range ops.size).all fun i => freeF P ops i

/-! ### regions that read, and append to what is new -/
def SOp.effG : SOp → Bool
  | .buildSl _ _ 0 _ _ => true
  | s => s.eff
/-- A function that hands back a pointer. -/
def retPtr (P : Program) (g : FuncId) : Bool := match P.funcs[g]? with
  | some fn => fn.resultTypes.any fun t => match P.underlying t with
    | some (.pointer _) => true
    | _ => false
  | none => false
/-- A literal that an append of the same region goes on with; a call that hands back a pointer. -/
def feeds (P : Program) (ops : Array Oper) (o : Oper) : Bool := o.guard.isNone && match sop P o.op, o.dst with
  | .buildSl _ _ (_ + 1) _ _, some d => ops.any fun q => match sop P q.op with
    | .app _ _ _ (.t i) _ => i == d
    | _ => false
  | .call (.f g) _, _ => retPtr P g
  | _, _ => false
/-- What makes something (with b: such literals, too). -/
def effX (P : Program) (b : Bool) (ops : Array Oper) (o : Oper) : Bool := (sop P o.op).effG || (b && feeds P ops o)
def isEff (P : Program) (b : Bool) (ops : Array Oper) (i : Nat) : Bool := match ops[i]? with
  | some o => effX P b ops o
  | none => false
/-- What does not wait for a step that makes something goes first. -/
def frontG (P : Program) (b : Bool) (ops : Array Oper) : List Nat := (List.range ops.size).filter fun i => !isEff P b ops i && !((List.range ops.size).any fun e => isEff P b ops e && (aftL ops e).contains i)
def ordG (P : Program) (b : Bool) (ops : Array Oper) : List Nat := frontG P b ops ++ (List.range ops.size).filter fun i => !(frontG P b ops).contains i
/-- These, and the steps that make something while one of these may yet come. -/
def flagG (P : Program) (b : Bool) (ops : Array Oper) : List Nat := (List.range ops.size).filter fun i => (frontG P b ops).contains i || (isEff P b ops i && ((frontG P b ops).any fun j => !(aftL ops j).contains i))
def depsIn (ops : Array Oper) (done : List Nat) (i : Nat) : Bool := match ops[i]? with
  | some o => o.after.all fun e => !Region.binds .any e || done.contains e.on
  | none => false
def freeG (P : Program) (b : Bool) (ops : Array Oper) (F : List Nat) (i j : Nat) : Bool := (aftL ops i).contains j || match ops[i]?, ops[j]? with
  | some oi, some oj => oi.apart ops oj && (!effX P b ops oi && F.contains i) && (!effX P b ops oj || F.contains j)
  | _, _ => false
def okOrd (P : Program) (b : Bool) (ops : Array Oper) (F : List Nat) : List Nat → List Nat → Bool
  | done, [] => (List.range ops.size).all fun j => done.contains j
  | done, i :: rest => decide (i < ops.size) && !done.contains i && depsIn ops done i && (rest.all fun j => freeG P b ops F i j) && okOrd P b ops F (i :: done) rest
def lexG (P : Program) (b : Bool) (ops : Array Oper) : Bool := Region.noSelect ops && (ordG P b ops).length == ops.size && okOrd P b ops (flagG P b ops) [] (ordG P b ops)
def permG (P : Program) (ops : Array Oper) (l : List SOper) : List (Bool × SOper) := (ordG P false ops).filterMap fun i => (l[i]?).map fun o => ((flagG P false ops).contains i, o)
def feedsI (P : Program) (ops : Array Oper) (i : Nat) : Bool := match ops[i]? with
  | some o => feeds P ops o
  | none => false
def permL (P : Program) (ops : Array Oper) (l : List SOper) : List (Bool × Bool × SOper) := (ordG P true ops).filterMap fun i => (l[i]?).map fun o => (feedsI P ops i, (flagG P true ops).contains i, o)

/-! ### regions in which a variable may be made at any time -/
/-- Is not touched by a row that is made elsewhere, whenever. -/
def SOp.loc : SOp → Bool
  | .mv _ | .pick _ _ _ | .bin _ _ _ | .un _ _ | .cvi _ _ | .cvs _ | .mkfunc _ _ | .mkbnd _ _ | .mkif _ _ | .build _ _ | .fld _ _ _ | .ixs _ _ | .ext _ _ | .lenS _ | .min _ _ | .max _ _ | .max3 _ _ _ => true
  | .store k _ _ => decide (0 < k)
  | .alloc _ _ _ | .box _ _ _ | .mkmap | .mupd _ _ _ _ | .mksl _ _ _ _ _ _ | .app _ _ _ _ _ => true
  | .buildSl _ _ 0 _ _ => true
  | _ => false
def SOp.isNew : SOp → Bool
  | .alloc _ _ (_ :: _) | .mksl _ _ _ (_ :: _) _ _ => true
  | _ => false
/-- A literal that an append goes on with. -/
def litFeeds (P : Program) (ops : Array Oper) (o : Oper) : Bool := feeds P ops o && match sop P o.op with
  | .buildSl _ _ (_ + 1) _ _ => true
  | _ => false
/-- The variables that are made at any time. -/
def isFl (P : Program) (ops : Array Oper) (i : Nat) : Bool := match ops[i]? with
  | some o => o.guard.isNone && ((sop P o.op).isNew || litFeeds P ops o) && (List.range ops.size).any fun j => j != i && isEff P false ops j && !(aftL ops i).contains j && !(aftL ops j).contains i
  | none => false
def flH (P : Program) (ops : Array Oper) : List Nat := (List.range ops.size).filter (isFl P ops)
def rankH (P : Program) (ops : Array Oper) (i : Nat) : Option Nat := if isFl P ops i = true then some ((flH P ops).idxOf i) else none
/-- Such a variable is made as late as can be. -/
def ordH (P : Program) (ops : Array Oper) : List Nat :=
  let fl := flH P ops
  let fr := (frontG P false ops).filter fun i => !fl.contains i
  let rest := (List.range ops.size).filter fun i => !fr.contains i && !fl.contains i
  fr ++ (rest.foldl (fun acc x => acc ++ (fl.filter fun f => !acc.contains f && (aftL ops f).contains x) ++ [x]) []) ++ (fl.filter fun f => !(rest.any fun x => (aftL ops f).contains x))
def freeH (P : Program) (ops : Array Oper) (F : List Nat) (i j : Nat) : Bool := (aftL ops i).contains j || match ops[i]?, ops[j]? with
  | some oi, some oj => oi.apart ops oj && (((rankH P ops i).isNone && !(sop P oi.op).effG && F.contains i && (!(sop P oj.op).effG || F.contains j)) ||
      ((rankH P ops j).isSome && (rankH P ops i != rankH P ops j) && ((rankH P ops i).isSome || ((sop P oi.op).loc && ((sop P oi.op).effG || !F.contains i)))))
  | _, _ => false
def okOrdH (P : Program) (ops : Array Oper) (F : List Nat) : List Nat → List Nat → Bool
  | done, [] => (List.range ops.size).all fun j => done.contains j
  | done, i :: rest => decide (i < ops.size) && !done.contains i && depsIn ops done i && (rest.all fun j => freeH P ops F i j) && okOrdH P ops F (i :: done) rest
def locH (P : Program) (ops : Array Oper) : Bool := (List.range ops.size).all fun i => match ops[i]? with
  | some o => !(sop P o.op).effG || (sop P o.op).loc
  | none => true
def lexH (P : Program) (ops : Array Oper) : Bool := Region.noSelect ops && (ordH P ops).length == ops.size && locH P ops && okOrdH P ops (flagG P false ops) [] (ordH P ops)
def permH (P : Program) (ops : Array Oper) (l : List SOper) : List (Bool × Option Nat × SOper) := (ordH P ops).filterMap fun i => (l[i]?).map fun o => ((flagG P false ops).contains i, rankH P ops i, o)
/-- The kinds of these variables. -/
def flT (P : Program) (ops : Array Oper) : List (Nat × Nat) := (flH P ops).map fun i => match (ops[i]?).map fun o => sop P o.op with
  | some (.alloc e k _) => (e, k)
  | some (.mksl e k _ _ _ _) => (e, k)
  | some (.buildSl e k _ _ _) => (e, k)
  | _ => (0, 0)

inductive SC where
  | skip
  | reg (l : List SOper)
  | regD (l : List SOper)
  | regC (l : List (Bool × SOper))
  | regE (l : List SOper)
  | regF (l : List SOper)
  | regG (l : List (Bool × SOper))
  | regL (l : List (Bool × Bool × SOper))
  | regH (fl : List (Nat × Nat)) (l : List (Bool × Option Nat × SOper))
  | seq (a b : SC)
  | cond (c : SA) (a b : SC)
  | block (id : Nat) (c : SC)
  | loop (c : SC)
  | scope (c : SC)
  | exit (id : Nat)
  | ret

/-- Operations in short. -/
def o1 (d : Nat) (p : SOp) : SOper := ⟨some d, p, none⟩
def oT (d : Nat) (p : SOp) (t : Nat) : SOper := ⟨some d, p, some (t, true)⟩
def oF (d : Nat) (p : SOp) (t : Nat) : SOper := ⟨some d, p, some (t, false)⟩
def o0 (p : SOp) : SOper := ⟨none, p, none⟩
def cI (n : Int) : SA := .c (.int .i64 n)
def cB (b : Bool) : SA := .c (.bool b)
def saOk (n : Nat) : SA → Bool
  | .t i => decide (i < n)
  | _ => true

def strip (P : Program) (n : Nat) : Code → Option SC
  | .skip => some .skip
  | .region _ ops draw => (ops.toList.mapM (sOper P n ops)).bind fun l =>
    if draw then (if P.follows .mixedOrders then (if (l.any fun o => o.op.eff) && lexE (fun _ => false) P ops then some (.regE l) else if (l.any fun o => o.op.eff) && lexF P ops then some (.regF l) else if (ops.any fun o => feeds P ops o) && lexG P true ops then some (.regL (permL P ops l)) else if (l.any fun o => o.op.effG) && lexG P false ops then some (.regG (permG P ops l)) else if (l.any fun o => o.op.effG) && lexH P ops then some (.regH (flT P ops) (permH P ops l)) else if Region.lexB .any ops then (if !(barD P ops).isEmpty && lexE (barQ P ops) P ops then some (.regC (flagC P ops l)) else some (.regD l)) else none) else none) else some (.reg l)
  | .seq a b => (strip P n a).bind fun x => (strip P n b).bind fun y => some (.seq x y)
  | .cond c a b => (sa c).bind fun q => if saOk n q then (strip P n a).bind fun x => (strip P n b).bind fun y => some (.cond q x y) else none
  | .block id c => (strip P n c).bind fun x => some (.block id x)
  | .loop c => (strip P n c).bind fun x => some (.loop x)
  | .scope c => (strip P n c).bind fun x => some (.scope x)
  | .label _ => some .skip
  | .exit id => some (.exit id)
  | .ret => some .ret
  | _ => none

def SWp (P : Program) (n : Nat) (sc : SC) (Q : Exit → Fr → St → Prop) (fr : Fr) (S : St) : Prop := ∀ c, strip P n c = some sc → AWp P n c Q fr S

def dops (P : Program) (S : St) : List SOper → (Fr → Prop) → Fr → Prop
  | [], K, fr => K fr
  | o :: os, K, fr => match o.guard with
    | none => dwp P o.op fr S fun r => dops P S os K (fr.put o.dst r)
    | some (t, want) => match fr t with
      | .sc (.bool b) => (b = want → dwp P o.op (fr.put (some t) (.sc (.bool want))) S fun r => dops P S os K ((fr.put (some t) (.sc (.bool want))).put o.dst r)) ∧
          (b ≠ want → dops P S os K ((fr.put (some t) (.sc (.bool !want))).put o.dst (.sc undef)))
      | .sc (.tuple _) => dops P S os K (fr.put o.dst (.sc undef))
      | _ => False

section
variable {P : Program} {n : Nat} {Q : Exit → Fr → St → Prop} {fr : Fr} {S : St}

theorem AWp.mono {c : Code} {Q' : Exit → Fr → St → Prop} (h : AWp P n c Q fr S) (hq : ∀ e fr S, Q e fr S → Q' e fr S) : AWp P n c Q' fr S := fun G a h1 h2 h3 =>
  wp_mono (h G a h1 h2 h3) fun e a w ⟨G', fr', g1, g2, g3, g4, g5⟩ => ⟨G', fr', g1, g2, g3, g4, hq _ _ _ g5⟩
theorem SWp.mono {c : SC} {Q' : Exit → Fr → St → Prop} (h : SWp P n c Q fr S) (hq : ∀ e fr S, Q e fr S → Q' e fr S) : SWp P n c Q' fr S := fun c' hc => (h c' hc).mono hq

theorem dops_lex {ops : Array Oper} {K : Fr → Prop} : ∀ (l : List Oper) (sl : List SOper), l.mapM (sOper P n ops) = some sl → ∀ fr, dops P S sl K fr → lexA P ops S K l fr
  | [], sl, hs, fr, h => by simp at hs; subst hs; exact h
  | o :: l, sl, hs, fr, h => by
    simp only [List.mapM_cons, Option.bind_eq_bind, Option.bind_eq_some_iff, Option.pure_def, Option.some.injEq] at hs
    obtain ⟨s, hs1, sl', hs2, rfl⟩ := hs
    obtain ⟨ht, hop, hd⟩ := sOper_parts hs1
    have run : wantA fr s.guard = some true → (dwp P s.op fr S fun r => dops P S sl' K (fr.put s.dst r)) → lexA P ops S K (o :: l) fr := fun hw h => by
      obtain ⟨r, h1, h2⟩ := dwp_sound hop h
      rw [hd] at h1
      exact ⟨r, .inl ⟨by rw [guardOf_ok hs1]; exact hw, h2⟩, dops_lex l sl' hs2 _ h1⟩
    have skip : wantA fr s.guard = some false → dops P S sl' K (fr.put s.dst (.sc undef)) → lexA P ops S K (o :: l) fr := fun hw h => by
      rw [hd] at h
      exact ⟨_, .inr ⟨by rw [guardOf_ok hs1]; exact hw, rfl⟩, dops_lex l sl' hs2 _ h⟩
    simp only [dops] at h
    split at h
    · rename_i hg
      exact run (by rw [hg]; rfl) h
    · rename_i t want hg
      split at h
      · rename_i b hb
        by_cases e : b = want
        · have h1 := h.1 e
          rw [put_self (by rw [hb, e])] at h1
          exact run (by rw [hg]; simp [wantA, hb, e]) h1
        · have h2 := h.2 e
          rw [put_self (by rw [hb]; cases b <;> cases want <;> simp_all)] at h2
          exact skip (by rw [hg]; simp [wantA, hb]; simpa using e) h2
      · rename_i vs hb
        exact skip (by rw [hg]; simp [wantA, hb]) h
      · exact h.elim

theorem mapM_get {α β : Type} {f : α → Option β} : ∀ {l : List α} {r : List β}, l.mapM f = some r → ∀ (i : Nat) x, l[i]? = some x → ∃ y, f x = some y
  | [], r, _, i, x, h => by simp at h
  | y :: l, r, h, i, x, hx => by
    simp only [List.mapM_cons, Option.bind_eq_bind, Option.bind_eq_some_iff, Option.pure_def, Option.some.injEq] at h
    obtain ⟨s, hs1, sl', hs2, rfl⟩ := h
    cases i with
    | zero => simp at hx; subst hx; exact ⟨s, hs1⟩
    | succ i => exact mapM_get hs2 i x (by simpa using hx)

theorem strip_D {id : Nat} {ops : Array Oper} {draw : Bool} {l : List SOper} (h : strip P n (.region id ops draw) = some (.regD l)) : draw = true ∧ ops.toList.mapM (sOper P n ops) = some l ∧ Region.lexB .any ops = true ∧ P.follows .mixedOrders = true := by
  simp only [strip, Option.bind_eq_some_iff] at h
  obtain ⟨l', hl, h⟩ := h
  split at h
  · rename_i hd
    split at h
    · rename_i hm
      split at h
      · simp at h
      · split at h
        · simp at h
        · split at h
          · simp at h
          · split at h
            · simp at h
            · split at h
              · simp at h
              · split at h
                · rename_i hb
                  split at h
                  · simp at h
                  · simp only [Option.some.injEq, SC.regD.injEq] at h
                    subst h
                    exact ⟨hd, hl, hb, hm⟩
                · simp at h
    · simp at h
  · simp at h
theorem strip_C {id : Nat} {ops : Array Oper} {draw : Bool} {l : List (Bool × SOper)} (h : strip P n (.region id ops draw) = some (.regC l)) : draw = true ∧ (∃ l', ops.toList.mapM (sOper P n ops) = some l' ∧ l = flagC P ops l') ∧ Region.lexB .any ops = true ∧ lexE (barQ P ops) P ops = true ∧ P.follows .mixedOrders = true := by
  simp only [strip, Option.bind_eq_some_iff] at h
  obtain ⟨l', hl, h⟩ := h
  split at h
  · rename_i hd
    split at h
    · rename_i hm
      split at h
      · simp at h
      · split at h
        · simp at h
        · split at h
          · simp at h
          · split at h
            · simp at h
            · split at h
              · simp at h
              · split at h
                · rename_i hb
                  split at h
                  · rename_i hc
                    simp only [Option.some.injEq, SC.regC.injEq] at h
                    simp only [Bool.and_eq_true] at hc
                    exact ⟨hd, ⟨l', hl, h.symm⟩, hb, hc.2, hm⟩
                  · simp at h
                · simp at h
    · simp at h
  · simp at h
theorem strip_E {id : Nat} {ops : Array Oper} {draw : Bool} {l : List SOper} (h : strip P n (.region id ops draw) = some (.regE l)) : draw = true ∧ ops.toList.mapM (sOper P n ops) = some l ∧ lexE (fun _ => false) P ops = true ∧ P.follows .mixedOrders = true := by
  simp only [strip, Option.bind_eq_some_iff] at h
  obtain ⟨l', hl, h⟩ := h
  split at h
  · rename_i hd
    split at h
    · rename_i hm
      split at h
      · rename_i hb
        simp only [Option.some.injEq, SC.regE.injEq] at h
        subst h
        simp only [Bool.and_eq_true] at hb
        exact ⟨hd, hl, hb.2, hm⟩
      · (repeat' split at h) <;> simp at h
    · simp at h
  · simp at h
theorem strip_F {id : Nat} {ops : Array Oper} {draw : Bool} {l : List SOper} (h : strip P n (.region id ops draw) = some (.regF l)) : draw = true ∧ ops.toList.mapM (sOper P n ops) = some l ∧ lexF P ops = true ∧ P.follows .mixedOrders = true := by
  simp only [strip, Option.bind_eq_some_iff] at h
  obtain ⟨l', hl, h⟩ := h
  split at h
  · rename_i hd
    split at h
    · rename_i hm
      split at h
      · simp at h
      · split at h
        · rename_i hb
          simp only [Option.some.injEq, SC.regF.injEq] at h
          subst h
          simp only [Bool.and_eq_true] at hb
          exact ⟨hd, hl, hb.2, hm⟩
        · (repeat' split at h) <;> simp at h
    · simp at h
  · simp at h

theorem strip_G {id : Nat} {ops : Array Oper} {draw : Bool} {l : List (Bool × SOper)} (h : strip P n (.region id ops draw) = some (.regG l)) : draw = true ∧ (∃ l', ops.toList.mapM (sOper P n ops) = some l' ∧ l = permG P ops l') ∧ lexG P false ops = true ∧ P.follows .mixedOrders = true := by
  simp only [strip, Option.bind_eq_some_iff] at h
  obtain ⟨l', hl, h⟩ := h
  split at h
  · rename_i hd
    split at h
    · rename_i hm
      split at h
      · simp at h
      · split at h
        · simp at h
        · split at h
          · simp at h
          · split at h
            · rename_i hb
              simp only [Option.some.injEq, SC.regG.injEq] at h
              simp only [Bool.and_eq_true] at hb
              exact ⟨hd, ⟨l', hl, h.symm⟩, hb.2, hm⟩
            · (repeat' split at h) <;> simp at h
    · simp at h
  · simp at h
theorem strip_L {id : Nat} {ops : Array Oper} {draw : Bool} {l : List (Bool × Bool × SOper)} (h : strip P n (.region id ops draw) = some (.regL l)) : draw = true ∧ (∃ l', ops.toList.mapM (sOper P n ops) = some l' ∧ l = permL P ops l') ∧ lexG P true ops = true ∧ P.follows .mixedOrders = true := by
  simp only [strip, Option.bind_eq_some_iff] at h
  obtain ⟨l', hl, h⟩ := h
  split at h
  · rename_i hd
    split at h
    · rename_i hm
      split at h
      · simp at h
      · split at h
        · simp at h
        · split at h
          · rename_i hb
            simp only [Option.some.injEq, SC.regL.injEq] at h
            simp only [Bool.and_eq_true] at hb
            exact ⟨hd, ⟨l', hl, h.symm⟩, hb.2, hm⟩
          · (repeat' split at h) <;> simp at h
    · simp at h
  · simp at h
theorem strip_H {id : Nat} {ops : Array Oper} {draw : Bool} {fl : List (Nat × Nat)} {l : List (Bool × Option Nat × SOper)} (h : strip P n (.region id ops draw) = some (.regH fl l)) : draw = true ∧ (∃ l', ops.toList.mapM (sOper P n ops) = some l' ∧ l = permH P ops l') ∧ fl = flT P ops ∧ lexH P ops = true ∧ P.follows .mixedOrders = true := by
  simp only [strip, Option.bind_eq_some_iff] at h
  obtain ⟨l', hl, h⟩ := h
  split at h
  · rename_i hd
    split at h
    · rename_i hm
      split at h
      · simp at h
      · split at h
        · simp at h
        · split at h
          · simp at h
          · split at h
            · simp at h
            · split at h
              · rename_i hb
                simp only [Option.some.injEq, SC.regH.injEq] at h
                simp only [Bool.and_eq_true] at hb
                exact ⟨hd, ⟨l', hl, h.2.symm⟩, h.1.symm, hb.2, hm⟩
              · (repeat' split at h) <;> simp at h
    · simp at h
  · simp at h

theorem swp_skip (h : Q .normal fr S) : SWp P n .skip Q fr S := fun c hc => by
  cases c <;> simp only [strip, Option.bind_eq_some_iff] at hc
  case skip => exact fun G a h1 h2 h3 => wp_skip ⟨G, fr, rfl, h2, Step.refl G, h3, by rw [h1]; exact h⟩
  case label => exact fun G a h1 h2 h3 => wp_label ⟨G, fr, rfl, h2, Step.refl G, h3, by rw [h1]; exact h⟩
  case region => obtain ⟨l, _, hc⟩ := hc; (repeat' split at hc) <;> (first | (cases hc; done) | (simp [Option.bind_eq_some_iff] at hc; done))
  case cond => obtain ⟨q, _, hc⟩ := hc; split at hc <;> (first | (cases hc; done) | (simp [Option.bind_eq_some_iff] at hc; done))
  all_goals simp at hc

theorem swp_reg {l : List SOper} (h : sops P l (fun fr S => Q .normal fr S) fr S) : SWp P n (.reg l) Q fr S := fun c hc => by
  cases c <;> simp only [strip, Option.bind_eq_some_iff] at hc
  case region id ops draw =>
    obtain ⟨l', hl, hc⟩ := hc
    cases draw with
    | true => simp only [if_true] at hc; (repeat' split at hc) <;> (first | (cases hc; done) | (simp [Option.bind_eq_some_iff] at hc; done))
    | false =>
      simp only [Bool.false_eq_true, if_false, Option.some.injEq, SC.reg.injEq] at hc
      subst hc
      exact awp_region hl h
  case cond => obtain ⟨q, _, hc⟩ := hc; split at hc <;> (first | (cases hc; done) | (simp [Option.bind_eq_some_iff] at hc; done))
  all_goals simp at hc

def thenQ (K : Fr → St → Prop) (Q : Exit → Fr → St → Prop) : Exit → Fr → St → Prop
  | .normal, fr, S => K fr S
  | e, fr, S => Q e fr S
def blockQ (id : Nat) (Q : Exit → Fr → St → Prop) : Exit → Fr → St → Prop
  | .exit id', fr, S => if id' = id then Q .normal fr S else Q (.exit id') fr S
  | e, fr, S => Q e fr S

theorem swp_seq {x y : SC} (h : SWp P n x (thenQ (SWp P n y Q) Q) fr S) : SWp P n (.seq x y) Q fr S := fun c hc => by
  cases c <;> simp only [strip, Option.bind_eq_some_iff] at hc
  case seq a b =>
    obtain ⟨x', hx, y', hy, hc⟩ := hc
    simp only [Option.some.injEq, SC.seq.injEq] at hc
    obtain ⟨rfl, rfl⟩ := hc
    intro G act h1 h2 h3
    refine Go.wp_seq (wp_mono (h a hx G act h1 h2 h3) ?_)
    rintro e a' w' ⟨G', fr', rfl, g2, g3, g4, g5⟩
    cases e with
    | normal => exact wp_mono (g5 b hy G' a' rfl g2 g4) fun _ _ _ hp => hp.of_step g3
    | _ => exact ⟨G', fr', rfl, g2, g3, g4, g5⟩
  case region => obtain ⟨l, _, hc⟩ := hc; (repeat' split at hc) <;> (first | (cases hc; done) | (simp [Option.bind_eq_some_iff] at hc; done))
  case cond => obtain ⟨q, _, hc⟩ := hc; split at hc <;> (first | (cases hc; done) | (simp [Option.bind_eq_some_iff] at hc; done))
  all_goals simp at hc

theorem swp_cond {q : SA} {x y : SC} {t : Bool} (hq : evS fr q = .sc (.bool t)) (h1 : t = true → SWp P n x Q fr S) (h2 : t = false → SWp P n y Q fr S) : SWp P n (.cond q x y) Q fr S := fun c hc => by
  cases c <;> simp only [strip, Option.bind_eq_some_iff] at hc
  case cond c a b =>
    obtain ⟨q', hq', hc⟩ := hc
    split at hc
    · rename_i hok
      simp only [Option.bind_eq_some_iff] at hc
      obtain ⟨x', hx, y', hy, hc⟩ := hc
      simp only [Option.some.injEq, SC.cond.injEq] at hc
      obtain ⟨rfl, rfl, rfl⟩ := hc
      intro G act g1 g2 g3
      have hv : act.eval c = .bool t := by
        have : Rv G (evS fr q') (act.eval c) := by
          cases c with
          | tmp t' => simp [sa] at hq'; subst hq'; simp [saOk] at hok; exact g3.2.2 t' hok
          | const v => simp [sa] at hq'; subst hq'; exact avOf_ok v
          | func f => simp [sa] at hq'; subst hq'; simp [evS] at hq
          | global g => simp [sa] at hq'
        rw [hq] at this
        exact scR this
      exact wp_cond_split hv (fun e => h1 e a hx G act g1 g2 g3) (fun e => h2 e b hy G act g1 g2 g3)
    · simp at hc
  case region => obtain ⟨l, _, hc⟩ := hc; (repeat' split at hc) <;> (first | (cases hc; done) | (simp [Option.bind_eq_some_iff] at hc; done))
  all_goals simp at hc

theorem swp_block {id : Nat} {x : SC} (h : SWp P n x (blockQ id Q) fr S) : SWp P n (.block id x) Q fr S := fun c hc => by
  cases c <;> simp only [strip, Option.bind_eq_some_iff] at hc
  case block id' a =>
    obtain ⟨x', hx, hc⟩ := hc
    simp only [Option.some.injEq, SC.block.injEq] at hc
    obtain ⟨rfl, rfl⟩ := hc
    intro G act g1 g2 g3
    refine wp_block (wp_mono (h a hx G act g1 g2 g3) ?_)
    rintro e a' w' ⟨G', fr', rfl, k2, k3, k4, k5⟩
    cases e with
    | exit id2 =>
      simp only [blockQ] at k5
      simp only [Exit.inBlock]
      split
      · rename_i he; rw [if_pos he] at k5; exact ⟨G', fr', rfl, k2, k3, k4, k5⟩
      · rename_i he; rw [if_neg he] at k5; exact ⟨G', fr', rfl, k2, k3, k4, k5⟩
    | _ => exact ⟨G', fr', rfl, k2, k3, k4, k5⟩
  case region => obtain ⟨l, _, hc⟩ := hc; (repeat' split at hc) <;> (first | (cases hc; done) | (simp [Option.bind_eq_some_iff] at hc; done))
  case cond => obtain ⟨q, _, hc⟩ := hc; split at hc <;> (first | (cases hc; done) | (simp [Option.bind_eq_some_iff] at hc; done))
  all_goals simp at hc

def scopeQ (Q : Exit → Fr → St → Prop) : Exit → Fr → St → Prop
  | .goto _, _, _ => False
  | e, fr, S => Q e fr S
theorem swp_scope {x : SC} (h : SWp P n x (scopeQ Q) fr S) : SWp P n (.scope x) Q fr S := fun c hc => by
  cases c <;> simp only [strip, Option.bind_eq_some_iff] at hc
  case scope a =>
    obtain ⟨x', hx, hc⟩ := hc
    simp only [Option.some.injEq, SC.scope.injEq] at hc
    subst hc
    intro G act g1 g2 g3
    refine wp_scope_straight (wp_mono (h a hx G act g1 g2 g3) ?_)
    rintro e a' w' ⟨G', fr', rfl, k2, k3, k4, k5⟩
    cases e with
    | goto l => exact k5.elim
    | _ => exact ⟨G', fr', rfl, k2, k3, k4, k5⟩
  case region => obtain ⟨l, _, hc⟩ := hc; (repeat' split at hc) <;> (first | (cases hc; done) | (simp [Option.bind_eq_some_iff] at hc; done))
  case cond => obtain ⟨q, _, hc⟩ := hc; split at hc <;> (first | (cases hc; done) | (simp [Option.bind_eq_some_iff] at hc; done))
  all_goals simp at hc

theorem swp_exit {id : Nat} (h : Q (.exit id) fr S) : SWp P n (.exit id) Q fr S := fun c hc => by
  cases c <;> simp only [strip, Option.bind_eq_some_iff] at hc
  case exit id' =>
    simp only [Option.some.injEq, SC.exit.injEq] at hc
    subst hc
    exact fun G a h1 h2 h3 => wp_exit ⟨G, fr, rfl, h2, Step.refl G, h3, by rw [h1]; exact h⟩
  case region => obtain ⟨l, _, hc⟩ := hc; (repeat' split at hc) <;> (first | (cases hc; done) | (simp [Option.bind_eq_some_iff] at hc; done))
  case cond => obtain ⟨q, _, hc⟩ := hc; split at hc <;> (first | (cases hc; done) | (simp [Option.bind_eq_some_iff] at hc; done))
  all_goals simp at hc

theorem swp_ret (h : Q .ret fr S) : SWp P n .ret Q fr S := fun c hc => by
  cases c <;> simp only [strip, Option.bind_eq_some_iff] at hc
  case ret => exact fun G a h1 h2 h3 => wp_ret ⟨G, fr, rfl, h2, Step.refl G, h3, by rw [h1]; exact h⟩
  case region => obtain ⟨l, _, hc⟩ := hc; (repeat' split at hc) <;> (first | (cases hc; done) | (simp [Option.bind_eq_some_iff] at hc; done))
  case cond => obtain ⟨q, _, hc⟩ := hc; split at hc <;> (first | (cases hc; done) | (simp [Option.bind_eq_some_iff] at hc; done))
  all_goals simp at hc

/-- A loop: what holds at its head, told by a state s that becomes less. -/
theorem swp_loop {σ : Type} (I : σ → Fr → St → Prop) (m : σ → Nat) {x : SC}
    (round : ∀ s fr S, I s fr S → SWp P n x (thenQ (fun fr' S' => ∃ s', m s' < m s ∧ I s' fr' S') Q) fr S) :
    ∀ s fr S, I s fr S → SWp P n (.loop x) Q fr S := fun s fr S h0 c hc => by
  cases c <;> simp only [strip, Option.bind_eq_some_iff] at hc
  case loop c =>
    obtain ⟨x', hx, hc⟩ := hc
    simp only [Option.some.injEq, SC.loop.injEq] at hc
    subst hc
    intro G a g1 g2 g3 b k cs
    have key : ∀ N s, m s = N → ∀ (G1 : Ctx) (fr1 : Fr) (a1 : Act), I s fr1 G1.S → Rel G1 → Step G G1 → Rfr n G1 fr1 a1 →
        ∃ e a' w', Post n G Q e a' w' ∧ Arrives P (lone (b.at a1 (.code c :: .inLoop c :: k)) cs G1.w) b k cs e a' w' := by
      intro N
      induction N using Nat.strongRecOn with
      | _ N ih =>
        intro s hN G1 fr1 a1 hI r1 r2 r3
        obtain ⟨e, a2, w2, hq, harr⟩ := round s fr1 G1.S hI c hx G1 a1 rfl r1 r3 b (.inLoop c :: k) cs
        obtain ⟨G2, fr2, rfl, q2, q3, q4, q5⟩ := hq
        cases e with
        | normal =>
          obtain ⟨s', hlt, hI'⟩ := q5
          obtain ⟨e', a', w', hq', harr'⟩ := ih (m s') (hN ▸ hlt) s' rfl G2 fr2 a2 hI' q2 (r2.trans q3) q4
          exact ⟨e', a', w', hq', .of_steps (Steps.trans harr (.one step_inLoop)) harr'⟩
        | exit id => exact ⟨_, a2, G2.w, ⟨G2, fr2, rfl, q2, r2.trans q3, q4, q5⟩, .pass (x := .inLoop c) rfl (fun _ _ => .inl (by simp)) harr⟩
        | goto l => exact ⟨_, a2, G2.w, ⟨G2, fr2, rfl, q2, r2.trans q3, q4, q5⟩, .pass (x := .inLoop c) rfl (fun _ _ => .inl (by simp)) harr⟩
        | ret => exact ⟨_, a2, G2.w, ⟨G2, fr2, rfl, q2, r2.trans q3, q4, q5⟩, .pass (x := .inLoop c) rfl (fun _ _ => .inl (by simp)) harr⟩
        | panic ch => exact ⟨_, a2, G2.w, ⟨G2, fr2, rfl, q2, r2.trans q3, q4, q5⟩, .pass (x := .inLoop c) rfl (fun _ _ => .inl (by simp)) harr⟩
        | outgrown => exact ⟨_, a2, G2.w, ⟨G2, fr2, rfl, q2, r2.trans q3, q4, q5⟩, .pass (x := .inLoop c) rfl (fun _ _ => .inl (by simp)) harr⟩
    obtain ⟨e, a', w', hq, harr⟩ := key _ s rfl G fr a (by rw [g1]; exact h0) g2 (Step.refl G) g3
    exact ⟨e, a', w', hq, .of_steps (.one step_loop) harr⟩
  case region => obtain ⟨l, _, hc⟩ := hc; (repeat' split at hc) <;> (first | (cases hc; done) | (simp [Option.bind_eq_some_iff] at hc; done))
  case cond => obtain ⟨q, _, hc⟩ := hc; split at hc <;> (first | (cases hc; done) | (simp [Option.bind_eq_some_iff] at hc; done))
  all_goals simp at hc

end
end Go.Proofs.Ytfihpbeihlpfcaa.Ev
