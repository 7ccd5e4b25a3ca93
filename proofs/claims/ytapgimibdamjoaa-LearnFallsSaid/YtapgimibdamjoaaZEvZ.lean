/- More ways to tell a store anew: an own map that stands in a cell. -/
import Derived.Test.YtapgimibdamjoaaZEvY
set_option linter.unusedVariables false
set_option linter.unusedSimpArgs false
namespace Go.Proofs.Ytapgimibdamjoaa.Ev
open Go Go.RowKit

theorem freezeM_ok {G : Ctx} (h2 : Rel G) {l : Nat} {es : List (Value × AV)} {v : Value} (hm : G.S.m l = some (.map es)) (hv : Rv G (.mp l) v) : Rv (G.kill l) (.rom (es.map (·.1)) (es.map (·.2))) v := by
  simp only [Rv] at hv ⊢
  obtain ⟨b, hb, hu⟩ := hv.2.2 _ hm
  obtain ⟨b', en, cl, g1, g2, g3, g4⟩ := h2.ok _ _ hm
  rw [hb] at g1; cases g1
  obtain ⟨q1, q2⟩ := ents_iff.1 g3
  refine .inr ⟨b, en, cl, hu, kill_old h2 ⟨⟨_, hm⟩, hb⟩, g2, q1, ?_, g4⟩
  exact q2.step (kill_step G l)
/-- A map of the call's own that stands in a cell of a row, and is written no more. -/
theorem View.freezeCellM {fr : Fr} {S : St} {a l q : Nat} {e k : Nat} {cs : List AV} {es : List (Value × AV)} (ha : S.m a = some (.row e k cs)) (hc : cs[q]? = some (.mp l)) (hm : S.m l = some (.map es)) (hne : a ≠ l) :
    View fr S fr ((S.kill l).set a (.row e k (cs.set q (.rom (es.map (·.1)) (es.map (·.2)))))) := fun n G act h1 h2 h3 => by
  subst h1
  let cs' := cs.set q (.rom (es.map (·.1)) (es.map (·.2)))
  let G1 : Ctx := G.kill l
  have hst0 : Step G G1 := kill_step G l
  have h21 : Rel G1 := kill_rel h2 l
  have ha1 : G1.S.m a = some (.row e k cs) := by simp [G1, Ctx.kill, St.kill, hne, ha]
  let G' : Ctx := ⟨G1.w, G1.μ, G1.S.set a (.row e k cs')⟩
  have hl : cs.length = cs'.length := by simp [cs']
  have hsub : ∀ l' o', G'.S.m l' = some o' → (l' = a ∧ o' = .row e k cs') ∨ (l' ≠ a ∧ G1.S.m l' = some o') := fun l' o' h => by
    by_cases e : l' = a
    · subst e; left; exact ⟨rfl, by simpa [G', St.set] using h.symm⟩
    · right; exact ⟨e, by simpa [G', St.set, e] using h⟩
  have hlv : ∀ l' b, G'.live l' b → G1.live l' b := fun l' b h => by
    obtain ⟨⟨o', ho'⟩, hb⟩ := h
    rcases hsub l' o' ho' with ⟨rfl, _⟩ | ⟨_, h⟩
    · exact ⟨⟨_, ha1⟩, hb⟩
    · exact ⟨⟨_, h⟩, hb⟩
  have hst : Step G1 G' := by
    refine ⟨rfl, rfl, Nat.le_refl _, rfl, Nat.le_refl _, fun _ _ => rfl, fun b _ ⟨l', h⟩ => ⟨l', hlv l' b h⟩, Nat.le_refl _, fun l' o' _ ho' => ?_, MapsGo.refl _⟩
    rcases hsub l' o' ho' with ⟨rfl, rfl⟩ | ⟨_, h⟩
    · exact ⟨cs, ha1, by omega, fun _ => ⟨rfl, fun b c _ hc => ⟨c, hc, rfl⟩⟩⟩
    · cases o' with
      | row e k cs => exact ⟨cs, h, Nat.le_refl _, fun _ => ⟨rfl, fun b c _ hc => ⟨c, hc, rfl⟩⟩⟩
      | map es => exact ⟨es, h, rfl⟩
      | iter i => exact ⟨i, h, rfl⟩
  refine ⟨G', rfl, rfl, ⟨fun l' hl' => ?_, fun l' o' ho' => ?_, fun l1 l2 b a1 a2 => h21.inj l1 l2 b (hlv _ _ a1) (hlv _ _ a2)⟩, hst0.trans hst, h3.1, h3.2.1, fun j hj => (h3.2.2 j hj).step (hst0.trans hst)⟩
  · have := live_lt h21 ha1
    have hn : l' ≠ a := by have : G1.S.n ≤ l' := hl'; omega
    simpa [G', St.set, hn] using h21.dom l' hl'
  · rcases hsub l' o' ho' with ⟨rfl, rfl⟩ | ⟨_, h⟩
    · obtain ⟨q1, q2⟩ := h2.ok _ _ ha
      refine ⟨by omega, ?_⟩
      rcases q2 with ⟨q3, q4⟩ | ⟨b, c, q3, q4, q5, q6⟩
      · left; exact ⟨q3, List.eq_nil_of_length_eq_zero (by rw [← hl, q4]; rfl)⟩
      · right
        refine ⟨b, c, q3, q4, by omega, rat_iff.2 fun j y hy => ?_⟩
        have hj : j < cs.length := by have := (List.getElem?_eq_some_iff.1 hy).1; omega
        obtain ⟨v, hv, hr⟩ := rat_iff.1 q6 j cs[j] (by simp [hj])
        refine ⟨v, hv, ?_⟩
        by_cases ej : j = q
        · subst ej
          have e1 : cs[j] = .mp l := by rw [List.getElem?_eq_getElem hj] at hc; exact Option.some.inj hc
          have e2 : y = .rom (es.map (·.1)) (es.map (·.2)) := by simpa [cs', hj] using hy.symm
          rw [e1] at hr
          subst e2
          exact (freezeM_ok h2 hm hr).step hst
        · have e2 : y = cs[j] := by
            simp only [cs', List.getElem?_set, if_neg (fun h => ej h.symm : ¬q = j), List.getElem?_eq_getElem hj, Option.some.injEq] at hy
            exact hy.symm
          subst e2
          exact hr.step (hst0.trans hst)
    · exact (h21.ok _ _ h).keep hst rfl fun _ _ => rfl
theorem freezeCellM {κ : Type} {kd : KeyKd} [DecidableEq κ] [Key κ kd] {α : Type} {k' : Nat} [Enc α k'] {P : Program} {n : Nat} {Q : Exit → Fr → St → Prop} {fr : Fr} {S : St} {L : List (Option Ob)} {c : SC} (i j q e k : Nat) (m : List (κ × α)) {cs : List AV} (hi : L[i]? = some (some (.row e k cs))) (hc : cs[q]? = some (.mp (S.nm j))) (hj : L[j]? = some (mpO m)) (hne : i ≠ j)
    (hk : SWp P n c Q fr (S.stk ((L.set j none).set i (some (.row e k (cs.set q (romA m))))))) : SWp P n c Q fr (S.stk L) := by
  have hil : i < L.length := (List.getElem?_eq_some_iff.1 hi).1
  have hjl : j < L.length := (List.getElem?_eq_some_iff.1 hj).1
  have e1 : ¬ S.n + i < S.n := by omega
  have e2 : ¬ S.n + j < S.n := by omega
  refine SWp.view (View.freezeCellM (a := S.nm i) (l := S.nm j) (e := e) (k := k) (cs := cs) (es := mapC m) (by simp [St.stk, St.nm, e1, hi]) hc (by simp [St.stk, St.nm, e2, hj]) (by simp [St.nm, hne])) ?_
  have q1 : (mapC m).map (·.1) = romK m := by simp [mapC, romK]
  have q2 : (mapC m).map (·.2) = romV m := by simp [mapC, romV]
  rw [stk_killL S hjl, stk_setL S _ (by simpa using hil), q1, q2]
  exact hk
theorem putM_put {κ α : Type} [DecidableEq κ] : ∀ (m : List (κ × α)) (v : κ) (a b : α), putM (putM m v a) v b = putM m v b
  | [], v, a, b => by simp [putM]
  | (c, x) :: m, v, a, b => by
    simp only [putM]
    by_cases e : v = c
    · subst e; simp [putM]
    · rw [if_neg e, if_neg e, putM, if_neg e, putM_put m v a b]
section
variable {κ : Type} {kd : KeyKd} [DecidableEq κ] [Key κ kd] {α : Type} {k : Nat} [Enc α k]
/-- What an iterator over a map holds: where it stands, what is left. -/
def curA (cur : Option (κ × α)) : Option (Value × AV) := cur.map fun p => (Key.val p.1, valA p.2)
abbrev itO (cur : Option (κ × α)) (left : List (κ × α)) : Option Ob := some (.iter (.map (curA cur) (mapC left)))
theorem bel_itO (n : Nat) (cur : Option (κ × α)) (left : List (κ × α)) : Ob.bel n (.iter (.map (curA cur) (mapC left))) = True := eq_true ⟨of_eq_true (bel_mapC n left), by cases cur <;> simp [curA, bels, valA_bel]⟩
end
/-! ### what is cut off, and made empty -/
section
variable {P : Program} {fr : Fr} {S : St} {K : AV → St → Prop}
def lngH (S : St) (x : AV) (K : Nat → Prop) (b : Dep K) : Prop := match x with
  | .ref q tot off n => orH (S.row? q tot) (fun _ => K n) ()
  | .ro n cs => K n
  | _ => False
theorem lngH_ref (S : St) (q tot off n : Nat) (K : Nat → Prop) : lngH S (.ref q tot off n) K () = orH (S.row? q tot) (fun _ => K n) () := rfl
theorem lngH_ro (S : St) (n : Nat) (cs : List AV) (K : Nat → Prop) : lngH S (.ro n cs) K () = K n := rfl
theorem intH_or {x : AV} {K : Int → Prop} : intH x (fun _ n => K n) () = orK (intOfAV x) K := by
  cases x with
  | sc v => cases v <;> rfl
  | _ => rfl
theorem x_sl3 (k : Nat) (x lo hi mx : SA) : swp P (.sl3 k x lo hi mx) fr S K = intH (evS fr lo) (fun _ (l : Int) => intH (evS fr hi) (fun _ (h : Int) => intH (evS fr mx) (fun _ (m : Int) => lngH S (evS fr x) (fun n => req (0 ≤ l ∧ l ≤ h ∧ h ≤ m ∧ m ≤ n) (fun _ => letK AV.junk (fun r => K r S) ()) ()) ()) ()) ()) () := by
  rw [intH_or]
  simp only [swp]
  congr 1; funext l
  rw [intH_or]
  congr 1; funext h
  rw [intH_or]
  congr 1; funext m
  generalize evS fr x = y
  cases y with
  | ref q tot off n => simp only [lngH, orH, req, letK, and_assoc]
  | ro n cs => simp only [lngH, req, letK, and_assoc]
  | _ => rfl
def clrH (S : St) (k : Nat) (zs : List Value) (x : AV) (K : AV → St → Prop) (b : Dep2 K) : Prop := match x with
  | .ref l tot off n => orH (S.row? l tot) (fun r => letK (zcells zs (n * k)) (fun zc => req (zc.all AV.one = true ∧ off + n * k ≤ tot) (fun _ => letK (S.set l (.row r.1 r.2.1 (r.2.2.take off ++ zc ++ r.2.2.drop (off + n * k)))) (fun S' => letK (.tup []) (fun r => K r S') ()) ()) ()) ()) ()
  | .sc (.slice none 0 0) => letK (.tup []) (fun r => K r S) ()
  | _ => False
theorem clr_ref (S : St) (k : Nat) (zs : List Value) (l tot off n : Nat) : clrH S k zs (.ref l tot off n) K () = orH (S.row? l tot) (fun r => letK (zcells zs (n * k)) (fun zc => req (zc.all AV.one = true ∧ off + n * k ≤ tot) (fun _ => letK (S.set l (.row r.1 r.2.1 (r.2.2.take off ++ zc ++ r.2.2.drop (off + n * k)))) (fun S' => letK (.tup []) (fun r => K r S') ()) ()) ()) ()) () := rfl
theorem clr_nil (S : St) (k : Nat) (zs : List Value) : clrH S k zs (.sc (.slice none 0 0)) K () = letK (.tup []) (fun r => K r S) () := rfl
theorem x_clr (k : Nat) (zs : List Value) (x : SA) : swp P (.clr k zs x) fr S K = clrH S k zs (evS fr x) K () := by
  simp only [swp, clrH, orH, letK, req, and_assoc]
  generalize evS fr x = y
  cases y <;> rfl
end
/-! ### results that lead nowhere, structs too -/
def isSc : AV → Bool
  | .sc _ => true
  | _ => false
def flat1 : AV → Bool
  | .sc _ => true
  | .agg vs => vs.all isSc
  | _ => false
def flatZ : AV → Bool
  | .tup vs => vs.all flat1
  | x => flat1 x
theorem sc_rvs {G G' : Ctx} : ∀ {xs : List AV} {vs : List Value}, xs.all isSc = true → Rvs G xs vs → Rvs G' xs vs
  | [], vs, _, h => by simpa only [Rvs] using h
  | x :: xs, vs, hf, h => by
    simp only [List.all_cons, Bool.and_eq_true] at hf
    simp only [Rvs] at h ⊢
    obtain ⟨v, us, e, hv, ht⟩ := h
    refine ⟨v, us, e, ?_, sc_rvs hf.2 ht⟩
    cases x <;> simp only [isSc, Bool.false_eq_true, false_and] at hf
    simpa only [Rv] using hv
theorem flat1_rv {G G' : Ctx} {x : AV} {v : Value} (hf : flat1 x = true) (h : Rv G x v) : Rv G' x v := by
  cases x with
  | sc u => simpa only [Rv] using h
  | agg cs =>
    simp only [Rv] at h ⊢
    obtain ⟨us, e, hs⟩ := h
    exact ⟨us, e, sc_rvs hf hs⟩
  | _ => simp [flat1] at hf
theorem flat1_rvs {G G' : Ctx} : ∀ {xs : List AV} {vs : List Value}, xs.all flat1 = true → Rvs G xs vs → Rvs G' xs vs
  | [], vs, _, h => by simpa only [Rvs] using h
  | x :: xs, vs, hf, h => by
    simp only [List.all_cons, Bool.and_eq_true] at hf
    simp only [Rvs] at h ⊢
    obtain ⟨v, us, e, hv, ht⟩ := h
    exact ⟨v, us, e, flat1_rv hf.1 hv, flat1_rvs hf.2 ht⟩
theorem flatZ_rv {G G' : Ctx} {x : AV} {v : Value} (hf : flatZ x = true) (h : Rv G x v) : Rv G' x v := by
  cases x with
  | tup vs =>
    simp only [Rv] at h ⊢
    obtain ⟨us, e, hs⟩ := h
    exact ⟨us, e, flat1_rvs hf hs⟩
  | sc u => exact flat1_rv (x := .sc u) hf h
  | agg cs => exact flat1_rv (x := .agg cs) hf h
  | _ => simp [flatZ, flat1] at hf
theorem callR_lendZ {P : Program} {f : FuncId} {xs ys : List AV} {R : AV → Prop} {S : St} {K : AV → St → Prop} (h : FnR P f ys R) (hs : xs.map (seen (fun _ => true) S 4) = ys) (hf : ∀ r, R r → flatZ r = true) (hk : ∀ r, R r → K r S) : callS P f xs S K () := by
  refine ⟨(h.2 S).1, fun G vs g1 g2 g3 => ?_⟩
  subst g1
  have hv : Rvs (G.kills fun _ => true) ys vs := by rw [← hs]; exact rvs_tell (seen_ok g2 _ 4) _ _ g3
  refine ((h.2 (G.S.kills fun _ => true)).2 (G.kills fun _ => true) vs rfl (kills_rel g2 _) hv).mono ?_
  rintro e w' ⟨G', r', v, rfl, rfl, k3, k4, k5, k6, k7⟩
  have hold : ∀ l b, G.live l b → G'.w.heap[b]? = G.w.heap[b]? := fun l b hb => k4.keep b (kills_old g2 rfl hb)
  let G2 : Ctx := ⟨G'.w, G.μ, G.S⟩
  have hstep : Step G G2 := by
    refine ⟨k4.os, k4.tape, k4.drawn, k4.output, k4.size, fun b hb => k4.keep b ⟨hb.1, fun ⟨l, ⟨o, ho⟩, hm⟩ => by simp [Ctx.kills, St.kills] at ho⟩, fun b _ hb => hb, Nat.le_refl _, ?_, k4.maps⟩
    intro l o hl ho
    cases o with
    | row e k cs => exact ⟨cs, ho, Nat.le_refl _, fun _ => ⟨rfl, fun b c hb hc => ⟨c, (hold l b ⟨⟨_, ho⟩, hb⟩).trans hc, rfl⟩⟩⟩
    | map es => exact ⟨es, ho, rfl⟩
    | iter i => exact ⟨i, ho, rfl⟩
  refine ⟨G2, r', v, rfl, rfl, ?_, hstep, flatZ_rv (hf _ k6) k5, hk _ k6⟩
  refine ⟨fun l hl => g2.dom l hl, fun l o ho => ?_, fun l l' b h1 h2 => g2.inj l l' b h1 h2⟩
  exact (g2.ok l o ho).keep hstep rfl fun b hb => hold l b ⟨⟨_, ho⟩, hb⟩
theorem call_lendZ {P : Program} {f : FuncId} {xs ys : List AV} {r : AV} {S : St} {K : AV → St → Prop} (h : Fn P f ys r) (hs : xs.map (seen (fun _ => true) S 4) = ys) (hf : flatZ r = true) (hk : K r S) : callS P f xs S K () := callR_lendZ h hs (fun _ e => e ▸ hf) fun _ e => e ▸ hk
theorem arr_l {α : Type} (l : List α) : l.toArray.toList = l := rfl
theorem r_zero (fr : Fr) : resAV fr [] = .tup [] := rfl
theorem rvsOk_nil (fr : Fr) : rvsOk fr [] = True := rfl
theorem cl_mp (l : Nat) : cellsOf (.mp l) = some [.mp l] := rfl
theorem o_mp (l : Nat) : AV.one (.mp l) = true := rfl
theorem cl_ptr (l t o : Nat) : cellsOf (.ptr l t o) = some [.ptr l t o] := rfl
theorem o_ptr (l t o : Nat) : AV.one (.ptr l t o) = true := rfl
attribute [go_sem ↓]
  arr_l x_sl3 x_clr
attribute [go_sem]
  lngH_ref lngH_ro clr_ref clr_nil r_zero rvsOk_nil bel_itO putM_put cl_mp o_mp cl_ptr o_ptr
end Go.Proofs.Ytapgimibdamjoaa.Ev
