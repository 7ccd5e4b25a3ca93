/- Own rows by their place; typed values; functions that compute. -/
import Derived.Test.YtfihpbeihlpfcaaZEvQ
set_option linter.unusedVariables false
set_option linter.unusedSimpArgs false
namespace Go.Proofs.Ytfihpbeihlpfcaa.Ev
open Go Go.RowKit

/-! ### a store that was there, and the rows of this call -/
def St.stk (S : St) (L : List (Option Ob)) : St := ⟨fun l => if l < S.n then S.m l else (L[l - S.n]?).join, S.n + L.length⟩
/-- The name of the call's row j. -/
def St.nm (S : St) (j : Nat) : Nat := S.n + j
theorem stk_nil {S : St} (hS : Clean S) : S.stk [] = S := by
  cases S with
  | mk m n =>
    simp only [St.stk, List.length_nil, Nat.add_zero, St.mk.injEq, and_true]
    funext l
    split
    · rfl
    · rename_i h
      cases hm : m l with
      | none => simp
      | some o => have := (hS l o hm).1; simp at this; omega
theorem stk_n (S : St) (L : List (Option Ob)) : (S.stk L).n = S.nm L.length := rfl
theorem stk_ext {S : St} {T : St} {L : List (Option Ob)} (hn : T.n = S.n + L.length) (h : ∀ l, T.m l = if l < S.n then S.m l else (L[l - S.n]?).join) : T = S.stk L := by
  cases T with
  | mk m n =>
    simp only [St.stk, St.mk.injEq]
    exact ⟨funext h, hn⟩
theorem stk_add (S : St) (L : List (Option Ob)) (o : Ob) : (S.stk L).add o = S.stk (L ++ [some o]) := by
  refine stk_ext (by simp [St.add, St.stk]; omega) fun l => ?_
  show (if l = S.n + L.length then some o else if l < S.n then S.m l else (L[l - S.n]?).join) = _
  by_cases h : l < S.n
  · rw [if_neg (by omega), if_pos h]; simp [h]
  · rw [if_neg h, if_neg h]
    by_cases e : l = S.n + L.length
    · subst e; simp
    · rw [if_neg e]
      by_cases hl : l - S.n < L.length
      · rw [List.getElem?_append_left hl]
      · rw [List.getElem?_eq_none (by omega), List.getElem?_eq_none (by simp; omega)]
theorem stk_setL (S : St) {L : List (Option Ob)} {j : Nat} (o : Ob) (h : j < L.length) : (S.stk L).set (S.nm j) o = S.stk (L.set j (some o)) := by
  refine stk_ext (by simp [St.set, St.stk]) fun l => ?_
  show (if l = S.n + j then some o else if l < S.n then S.m l else (L[l - S.n]?).join) = _
  by_cases hl : l < S.n
  · rw [if_neg (by omega), if_pos hl]; simp [hl]
  · rw [if_neg hl, if_neg hl]
    by_cases e : l = S.n + j
    · subst e; simp [h]
    · rw [if_neg e, List.getElem?_set_ne (by omega)]
theorem stk_killL (S : St) {L : List (Option Ob)} {j : Nat} (h : j < L.length) : (S.stk L).kill (S.nm j) = S.stk (L.set j none) := by
  refine stk_ext (by simp [St.kill, St.stk]) fun l => ?_
  show (if l = S.n + j then none else if l < S.n then S.m l else (L[l - S.n]?).join) = _
  by_cases hl : l < S.n
  · rw [if_neg (by omega), if_pos hl]; simp [hl]
  · rw [if_neg hl, if_neg hl]
    by_cases e : l = S.n + j
    · subst e; simp [h]
    · rw [if_neg e, List.getElem?_set_ne (by omega)]
theorem stk_set0 (S : St) (o : Ob) (x0 : Option Ob) (L : List (Option Ob)) : (S.stk (x0 :: L)).set (S.nm 0) o = S.stk (some o :: L) := stk_setL S o (by simp)
theorem stk_set1 (S : St) (o : Ob) (x0 x1 : Option Ob) (L : List (Option Ob)) : (S.stk (x0 :: x1 :: L)).set (S.nm 1) o = S.stk (x0 :: some o :: L) := stk_setL S o (by simp)
theorem stk_set2 (S : St) (o : Ob) (x0 x1 x2 : Option Ob) (L : List (Option Ob)) : (S.stk (x0 :: x1 :: x2 :: L)).set (S.nm 2) o = S.stk (x0 :: x1 :: some o :: L) := stk_setL S o (by simp)
theorem stk_set3 (S : St) (o : Ob) (x0 x1 x2 x3 : Option Ob) (L : List (Option Ob)) : (S.stk (x0 :: x1 :: x2 :: x3 :: L)).set (S.nm 3) o = S.stk (x0 :: x1 :: x2 :: some o :: L) := stk_setL S o (by simp)
theorem stk_set4 (S : St) (o : Ob) (x0 x1 x2 x3 x4 : Option Ob) (L : List (Option Ob)) : (S.stk (x0 :: x1 :: x2 :: x3 :: x4 :: L)).set (S.nm 4) o = S.stk (x0 :: x1 :: x2 :: x3 :: some o :: L) := stk_setL S o (by simp)
theorem stk_set5 (S : St) (o : Ob) (x0 x1 x2 x3 x4 x5 : Option Ob) (L : List (Option Ob)) : (S.stk (x0 :: x1 :: x2 :: x3 :: x4 :: x5 :: L)).set (S.nm 5) o = S.stk (x0 :: x1 :: x2 :: x3 :: x4 :: some o :: L) := stk_setL S o (by simp)
theorem stk_set7 (S : St) (o : Ob) (x0 x1 x2 x3 x4 x5 x6 x7 : Option Ob) (L : List (Option Ob)) : (S.stk (x0 :: x1 :: x2 :: x3 :: x4 :: x5 :: x6 :: x7 :: L)).set (S.nm 7) o = S.stk (x0 :: x1 :: x2 :: x3 :: x4 :: x5 :: x6 :: some o :: L) := stk_setL S o (by simp)
theorem stk_set8 (S : St) (o : Ob) (x0 x1 x2 x3 x4 x5 x6 x7 x8 : Option Ob) (L : List (Option Ob)) : (S.stk (x0 :: x1 :: x2 :: x3 :: x4 :: x5 :: x6 :: x7 :: x8 :: L)).set (S.nm 8) o = S.stk (x0 :: x1 :: x2 :: x3 :: x4 :: x5 :: x6 :: x7 :: some o :: L) := stk_setL S o (by simp)
def rowAt (L : List (Option Ob)) (j tot : Nat) : Option (TypeId × Nat × List AV) :=
  match (L[j]?).join with
  | some (.row e k cs) => if cs.length = tot then some (e, k, cs) else none
  | _ => none
theorem stk_row (S : St) (L : List (Option Ob)) (j tot : Nat) : (S.stk L).row? (S.nm j) tot = rowAt L j tot := by
  have e : ¬ S.n + j < S.n := by omega
  simp [St.row?, St.stk, St.nm, rowAt, e]
  cases (L[j]?).join with
  | none => rfl
  | some o => cases o <;> rfl
theorem rowAt_zero (e k : Nat) (cs : List AV) (L : List (Option Ob)) (tot : Nat) : rowAt (some (.row e k cs) :: L) 0 tot = if cs.length = tot then some (e, k, cs) else none := rfl
theorem rowAt_none (L : List (Option Ob)) (tot : Nat) : rowAt (none :: L) 0 tot = none := rfl
theorem rowAt_succ (x : Option Ob) (L : List (Option Ob)) (j tot : Nat) : rowAt (x :: L) (j + 1) tot = rowAt L j tot := rfl
theorem nm_lt (S : St) (i j : Nat) : (S.nm i < S.nm j) = (i < j) := by simp [St.nm]
theorem nm_add (S : St) (i j : Nat) : S.nm i + j = S.nm (i + j) := by simp only [St.nm]; omega
theorem stk_kills (S : St) (L : List (Option Ob)) : (S.stk L).kills (freshIn S) = S.stk (L.map fun _ => none) := by
  refine stk_ext (by simp [St.kills, St.stk]) fun l => ?_
  show (if freshIn S l = true then none else if l < S.n then S.m l else (L[l - S.n]?).join) = _
  by_cases hl : l < S.n
  · rw [if_neg (by simp [freshIn]; omega), if_pos hl]; simp [hl]
  · rw [if_pos (by simp [freshIn]; omega), if_neg hl]
    simp only [List.getElem?_map]
    cases L[l - S.n]? <;> rfl

/-- Which rows stay as they are told. -/
def tolds (k : Nat) : List (Option Ob) → List (Option Ob) → Prop
  | [], _ => True
  | none :: R, L => tolds k R L.tail
  | some o :: R, L => L.head? = some (some o) ∧ o.bel k ∧ tolds k R L.tail
def toldS (S : St) (k : Nat) (R : List (Option Ob)) (S' : St) : Prop := ∃ L, S' = S.stk L ∧ tolds k R L
theorem stk_inj {S : St} {L L' : List (Option Ob)} (h : S.stk L = S.stk L') : L = L' := by
  simp only [St.stk, St.mk.injEq] at h
  obtain ⟨h1, h2⟩ := h
  have hl : L.length = L'.length := by omega
  apply List.ext_getElem? fun j => ?_
  have := congrFun h1 (S.n + j)
  simp only [Nat.add_sub_cancel_left, Nat.not_lt.2 (Nat.le_add_right _ _), if_false] at this
  by_cases hj : j < L.length
  · rw [List.getElem?_eq_getElem hj, List.getElem?_eq_getElem (by omega)] at this ⊢
    simpa using this
  · rw [List.getElem?_eq_none (by omega), List.getElem?_eq_none (by omega)]
theorem toldS_stk (S : St) (k : Nat) (R L : List (Option Ob)) : toldS S k R (S.stk L) = tolds k R L := by
  apply propext
  constructor
  · rintro ⟨L', e, h⟩; rw [stk_inj e]; exact h
  · exact fun h => ⟨L, rfl, h⟩
theorem tolds_nil (k : Nat) (L : List (Option Ob)) : tolds k [] L = True := rfl
theorem tolds_none (k : Nat) (R L : List (Option Ob)) : tolds k (none :: R) L = tolds k R L.tail := rfl
theorem tolds_some (k : Nat) (o : Ob) (x : Option Ob) (R L : List (Option Ob)) : tolds k (some o :: R) (x :: L) = (x = some o ∧ o.bel k ∧ tolds k R L) := by
  simp [tolds]
theorem tolds_get {k : Nat} : ∀ {R L : List (Option Ob)}, tolds k R L → ∀ (j : Nat) (o : Ob), R[j]? = some (some o) → L[j]? = some (some o) ∧ o.bel k
  | [], L, h, j, o, hj => by simp at hj
  | none :: R, L, h, j, o, hj => by
    cases j with
    | zero => simp at hj
    | succ j =>
      obtain ⟨a, b⟩ := tolds_get (R := R) h j o (by simpa using hj)
      exact ⟨by cases L with | nil => simp at a | cons y ys => simpa using a, b⟩
  | some o' :: R, L, h, j, o, hj => by
    obtain ⟨h1, h2, h3⟩ := h
    cases j with
    | zero =>
      simp at hj; subst hj
      exact ⟨by cases L with | nil => simp at h1 | cons y ys => simpa using h1, h2⟩
    | succ j =>
      obtain ⟨a, b⟩ := tolds_get (R := R) h3 j o (by simpa using hj)
      exact ⟨by cases L with | nil => simp at a | cons y ys => simpa using a, b⟩
mutual
theorem AV.bel_mono {k k' : Nat} (hk : k ≤ k') : ∀ (x : AV), x.bel k → x.bel k'
  | .sc u, h => by simp only [AV.bel]
  | .ro n cs, h => by simp only [AV.bel] at h ⊢; exact bels_mono hk cs h
  | .ref l t o n, h => by simp only [AV.bel] at h ⊢; omega
  | .ptr l t o, h => by simp only [AV.bel] at h ⊢; omega
  | .rop cs, h => by simp only [AV.bel] at h ⊢; exact bels_mono hk cs h
  | .clo f cs, h => by simp only [AV.bel] at h ⊢; exact bels_mono hk cs h
  | .bnd f cs, h => by simp only [AV.bel] at h ⊢; exact bels_mono hk cs h
  | .mp l, h => by simp only [AV.bel] at h ⊢; omega
  | .rom ks vs, h => by simp only [AV.bel] at h ⊢; exact bels_mono hk vs h
  | .it l, h => by simp only [AV.bel] at h ⊢; omega
  | .stamp l k, h => by simp only [AV.bel] at h ⊢; omega
  | .agg cs, h => by simp only [AV.bel] at h ⊢; exact bels_mono hk cs h
  | .tup cs, h => by simp only [AV.bel] at h ⊢; exact bels_mono hk cs h
  | .ifc t x, h => by simp only [AV.bel] at h ⊢; exact AV.bel_mono hk x h
  | .junk, h => by simp only [AV.bel]
theorem bels_mono {k k' : Nat} (hk : k ≤ k') : ∀ (cs : List AV), bels k cs → bels k' cs
  | [], h => by simp only [bels]
  | x :: xs, h => by simp only [bels] at h ⊢; exact ⟨AV.bel_mono hk x h.1, bels_mono hk xs h.2⟩
end
theorem Ob.bel_mono {k k' : Nat} (hk : k ≤ k') {o : Ob} (h : o.bel k) : o.bel k' := by
  cases o with
  | row e k cs => exact bels_mono hk _ h
  | map es => exact bels_mono hk _ h
  | iter i =>
    cases i with
    | str s p => trivial
    | mapz kd z es => exact bels_mono hk _ h
    | map cur left => exact ⟨bels_mono hk _ h.1, bels_mono hk _ h.2⟩
theorem told_stk {S : St} (hS : Clean S) {R L : List (Option Ob)} (h : tolds (S.nm R.length) R L) : Told (S.stk R) (S.stk L) := by
  intro l o ho
  simp only [St.stk] at ho ⊢
  by_cases hl : l < S.n
  · rw [if_pos hl] at ho ⊢
    obtain ⟨h1, h2, h3⟩ := hS l o ho
    exact ⟨by omega, h2, Ob.bel_mono (k := S.n) (by omega) h3⟩
  · rw [if_neg hl] at ho ⊢
    have ho' : R[l - S.n]? = some (some o) := by
      cases hr : R[l - S.n]? with
      | none => rw [hr] at ho; cases ho
      | some x => rw [hr] at ho; simp at ho; rw [ho]
    obtain ⟨a, b⟩ := tolds_get h _ _ ho'
    have := (List.getElem?_eq_some_iff.1 ho').1
    exact ⟨by omega, by rw [a]; rfl, b⟩

/-- The head of a loop again. -/
def again (S : St) (F : List (Nat × AV)) (R : List (Option Ob)) (fr' : Fr) (S' : St) : Prop := fits F fr' ∧ belF (S.nm R.length) F ∧ toldS S (S.nm R.length) R S'

section
variable {P : Program} {n : Nat} {Q : Exit → Fr → St → Prop} {fr : Fr} {S : St}
/-- A loop: at its head the slots F s, the rows R s; I s holds and m s falls. -/
theorem loop {σ : Type} (hS : Clean S) {L0 : List (Option Ob)} (F : σ → List (Nat × AV)) (R : σ → List (Option Ob)) (I : σ → Prop) (m : σ → Nat) (s0 : σ) {x : SC}
    (h0 : I s0 ∧ fits (F s0) fr ∧ tolds (S.nm (R s0).length) (R s0) L0) (hn : ∀ s, (R s).length = L0.length)
    (round : ∀ s, I s → SWp P n x (thenQ (fun fr' S' => ∃ s', (m s' < m s ∧ I s') ∧ again S (F s') (R s') fr' S') Q) (frL (F s)) (S.stk (R s))) :
    SWp P n (.loop x) Q fr (S.stk L0) := by
  refine loop_go F (fun s => S.stk (R s)) I m s0 ⟨h0.1, h0.2.1, by simp only [St.stk, hn], fun l o ho => (told_stk hS h0.2.2 l o ho).2.1⟩ (fun s => by simp only [St.stk, hn]) fun s hs => ?_
  refine (round s hs).mono fun e fr' S' hq => ?_
  cases e with
  | normal =>
    obtain ⟨s', ⟨h1, h2⟩, h3, h4, L, rfl, h5⟩ := hq
    exact ⟨s', h1, h2, h3, h4, told_stk hS h5⟩
  | _ => exact hq

/-! ### functions that compute -/
def endF (rs : List RV) (r : AV) (S0 : St) : Exit → Fr → St → Prop
  | .normal, fr, S | .ret, fr, S => (∃ L, S = S0.stk L) ∧ rvsOk (fun i => seen (freshIn S0) S 4 (fr i)) rs ∧ resAV (fun i => seen (freshIn S0) S 4 (fr i)) rs = r
  | _, _, _ => False
theorem f_ret (rs : List RV) (r : AV) (S0 : St) (L : List (Option Ob)) : endF rs r S0 .ret fr (S0.stk L) = (rvsOk (fun i => seen (freshIn S0) (S0.stk L) 4 (fr i)) rs ∧ resAV (fun i => seen (freshIn S0) (S0.stk L) 4 (fr i)) rs = r) := by simp [endF]; exact fun _ _ => ⟨L, rfl⟩
/-- The same, of a result of which less is told. -/
def endR (rs : List RV) (R : AV → Prop) (S0 : St) : Exit → Fr → St → Prop
  | .normal, fr, S | .ret, fr, S => (∃ L, S = S0.stk L) ∧ rvsOk (fun i => seen (freshIn S0) S 4 (fr i)) rs ∧ R (resAV (fun i => seen (freshIn S0) S 4 (fr i)) rs)
  | _, _, _ => False
theorem r_ret (rs : List RV) (R : AV → Prop) (S0 : St) (L : List (Option Ob)) : endR rs R S0 .ret fr (S0.stk L) = (rvsOk (fun i => seen (freshIn S0) (S0.stk L) 4 (fr i)) rs ∧ R (resAV (fun i => seen (freshIn S0) (S0.stk L) 4 (fr i)) rs)) := by simp [endR]; exact fun _ _ => ⟨L, rfl⟩
end

/-- A function that computes: a value without own rows, the store as it was. -/
def FnR (P : Program) (f : FuncId) (args : List AV) (R : AV → Prop) : Prop := (∀ r, R r → ∀ k, r.bel k) ∧ ∀ S, ACall P f args S fun r' S' => R r' ∧ S' = S
def Fn (P : Program) (f : FuncId) (args : List AV) (r : AV) : Prop := FnR P f args (· = r)

theorem fnR_look {P : Program} {i : FuncId} {sc : SC} {n : Nat} {rs : List RV} {args : List AV} {R : AV → Prop} (hl : lookF P i = some (sc, n, rs)) (ha : args.length ≤ n) (hr : ∀ r, R r → ∀ k, r.bel k)
    (h : ∀ S, Clean S → SWp P n sc (endR rs R S) (fr0 args) (S.stk [])) : FnR P i args R := by
  refine ⟨hr, fun S => ?_⟩
  have key : Clean S → ACall P i args S fun r' S' => R r' ∧ S' = S := fun hS => by
    refine acall_look hl ha ?_
    have h1 := h S hS
    rw [stk_nil hS] at h1
    refine h1.mono fun e fr S1 hq => ?_
    have fin : endR rs R S .ret fr S1 → retQ rs S.n (fun r' S' => R r' ∧ S' = S) .ret fr S1 := by
      rintro ⟨⟨L, hL⟩, hok, hq⟩
      refine ⟨_, _, S, View.shutD (freshIn S) (fun i => .inr (.inr ⟨4, rfl⟩)), hok, fun l o ho => ?_, Nat.le_refl _, hr _ hq _, hq, rfl⟩
      obtain ⟨b1, b2, b3⟩ := hS l o ho
      refine ⟨b1, ?_, b3⟩
      rw [hL, stk_kills]
      simp only [St.stk, if_pos b1, ho]
    cases e with
    | normal => exact fin hq
    | ret => exact fin hq
    | _ => exact hq.elim
  refine ⟨?_, fun G vs a b c => (key (by rw [← a]; exact b.clean)).2 G vs a b c⟩
  unfold lookF at hl
  split at hl
  · cases hl
  · rename_i f hf
    split at hl
    · cases hl
    · rename_i b hb
      split at hl
      · cases hl
      · rename_i hnm
        exact ⟨f, hf, by simpa using hnm, by rw [hb]; rfl⟩

theorem fn_look {P : Program} {i : FuncId} {sc : SC} {n : Nat} {rs : List RV} {args : List AV} {r : AV} (hl : lookF P i = some (sc, n, rs)) (ha : args.length ≤ n) (hr : ∀ k, r.bel k)
    (h : ∀ S, Clean S → SWp P n sc (endF rs r S) (fr0 args) (S.stk [])) : Fn P i args r :=
  fnR_look hl ha (fun r' e k => e ▸ hr k) fun S hS => (h S hS).mono fun e fr S' hq => by
    cases e <;> first | exact hq | exact hq.elim

/-! ### calls -/
section
variable {P : Program} {f : FuncId} {xs ys : List AV} {R : AV → Prop} {S : St} {K : AV → St → Prop}
theorem callR (h : FnR P f ys R) (hs : xs.map (seen (fun _ => false) S 4) = ys) (hk : ∀ r, R r → K r S) : callS P f xs S K () := by
  refine ⟨(h.2 S).1, fun G vs g1 g2 g3 => ?_⟩
  subst g1
  have e : G.kills (fun _ => false) = G := rfl
  have hv : Rvs (G.kills fun _ => false) ys vs := by rw [← hs]; exact rvs_tell (seen_ok g2 _ 4) _ _ g3
  rw [e] at hv
  exact ((h.2 G.S).2 G vs rfl g2 hv).mono fun e w' ⟨G', r', v, a, b, c, d, f, g, i⟩ => ⟨G', r', v, a, b, c, d, f, by rw [i]; exact hk _ g⟩
/-- Own rows are lent: a result that leads nowhere. -/
theorem callR_lend (h : FnR P f ys R) (hs : xs.map (seen (fun _ => true) S 4) = ys) (hf : ∀ r, R r → flatT r = true) (hk : ∀ r, R r → K r S) : callS P f xs S K () := by
  refine ⟨(h.2 S).1, fun G vs g1 g2 g3 => ?_⟩
  subst g1
  have hv : Rvs (G.kills fun _ => true) ys vs := by rw [← hs]; exact rvs_tell (seen_ok g2 _ 4) _ _ g3
  refine ((h.2 (G.S.kills fun _ => true)).2 (G.kills fun _ => true) vs rfl (kills_rel g2 _) hv).mono ?_
  rintro e w' ⟨G', r', v, rfl, rfl, k3, k4, k5, k6, k7⟩
  have hold : ∀ l b, G.live l b → G'.w.heap[b]? = G.w.heap[b]? := fun l b hb => k4.keep b (kills_old g2 rfl hb)
  let G2 : Ctx := ⟨G'.w, G.μ, G.S⟩
  have hstep : Step G G2 := by
    refine ⟨k4.os, k4.tape, k4.drawn, k4.output, k4.size, fun b hb => k4.keep b ⟨hb.1, fun ⟨l, ⟨o, ho⟩, hm⟩ => by simp [Ctx.kills, St.kills] at ho⟩, fun b _ hb => hb, Nat.le_refl _, ?_, k4.maps⟩
    intro l o hl ho
    cases o with
    | row e k cs => exact ⟨cs, ho, Nat.le_refl _, fun _ => ⟨rfl, fun b c hb hc => ⟨c, (hold l b ⟨⟨_, ho⟩, hb⟩).trans hc, rfl⟩⟩⟩
    | map es => exact ⟨es, ho, rfl⟩
    | iter i => exact ⟨i, ho, rfl⟩
  refine ⟨G2, r', v, rfl, rfl, ?_, hstep, flatT_rv (hf _ k6) k5, hk _ k6⟩
  refine ⟨fun l hl => g2.dom l hl, fun l o ho => ?_, fun l l' b h1 h2 => g2.inj l l' b h1 h2⟩
  exact (g2.ok l o ho).keep hstep rfl fun b hb => hold l b ⟨⟨_, ho⟩, hb⟩
/-- Own rows of this call are given away. -/
theorem callR_give {S0 : St} {L : List (Option Ob)} (h : FnR P f ys R) (hs : xs.map (seen (freshIn S0) (S0.stk L) 4) = ys) (hk : ∀ r, R r → K r (S0.stk (L.map fun _ => none))) : callS P f xs (S0.stk L) K () := by
  rw [← stk_kills] at hk
  generalize S0.stk L = S at hs hk ⊢
  refine ⟨(h.2 S).1, fun G vs g1 g2 g3 => ?_⟩
  subst g1
  have hv : Rvs (G.kills (freshIn S0)) ys vs := by rw [← hs]; exact rvs_tell (seen_ok g2 _ 4) _ _ g3
  refine ((h.2 (G.S.kills (freshIn S0))).2 (G.kills (freshIn S0)) vs rfl (kills_rel g2 _) hv).mono ?_
  rintro e w' ⟨G', r', v, rfl, rfl, k3, k4, k5, k6, k7⟩
  exact ⟨G', r', v, rfl, rfl, k3, (kills_step _ G).trans k4, k5, by rw [k7]; exact hk _ k6⟩
variable {r : AV}
theorem call (h : Fn P f ys r) (hs : xs.map (seen (fun _ => false) S 4) = ys) (hk : K r S) : callS P f xs S K () := callR h hs fun _ e => e ▸ hk
theorem call_lend (h : Fn P f ys r) (hs : xs.map (seen (fun _ => true) S 4) = ys) (hf : flatT r = true) (hk : K r S) : callS P f xs S K () := callR_lend h hs (fun _ e => e ▸ hf) fun _ e => e ▸ hk
theorem call_give {S0 : St} {L : List (Option Ob)} (h : Fn P f ys r) (hs : xs.map (seen (freshIn S0) (S0.stk L) 4) = ys) (hk : K r (S0.stk (L.map fun _ => none))) : callS P f xs (S0.stk L) K () := callR_give h hs fun _ e => e ▸ hk
theorem call_D {K : AV → Prop} (h : Fn P f ys r) (hs : xs.map (seen (fun _ => false) S 4) = ys) (hk : K r) : callD P f xs S K () :=
  ⟨r, fun S' _ => by
    have := callR (K := fun r' S'' => r' = r ∧ Ext S' S'') (S := S') (xs := xs) h (by rw [← hs]; exact List.map_congr_left fun x _ => seen_false S' S 4 x) (fun r' e => ⟨e, Ext.refl _⟩)
    exact this, hk⟩
end
theorem ext_self (S : St) : Ext S S = True := eq_true (Ext.refl S)
/-- These rows stand there still, those that are given up left out. -/
def exts : List (Option Ob) → List (Option Ob) → Prop
  | [], _ => True
  | _ :: _, [] => False
  | none :: A, _ :: B => exts A B
  | some x :: A, y :: B => ObE x y ∧ exts A B
theorem exts_iff : ∀ (A B : List (Option Ob)), exts A B ↔ A.length ≤ B.length ∧ ∀ (j : Nat) (o : Ob), A[j]? = some (some o) → ObE o (B[j]?).join
  | [], B => by simp [exts]
  | x :: A, [] => by cases x <;> simp [exts]
  | none :: A, y :: B => by
    rw [exts, exts_iff A B]
    simp only [List.length_cons, Nat.add_le_add_iff_right]
    constructor
    · rintro ⟨h1, h2⟩
      refine ⟨h1, fun j o h => ?_⟩
      cases j with
      | zero => simp at h
      | succ j => exact h2 j o h
    · rintro ⟨h1, h2⟩
      exact ⟨h1, fun j o h => h2 (j + 1) o h⟩
  | some x :: A, y :: B => by
    rw [exts, exts_iff A B]
    simp only [List.length_cons, Nat.add_le_add_iff_right]
    constructor
    · rintro ⟨h0, h1, h2⟩
      refine ⟨h1, fun j o h => ?_⟩
      cases j with
      | zero => simp at h; subst h; exact h0
      | succ j => exact h2 j o h
    · rintro ⟨h1, h2⟩
      exact ⟨h2 0 x rfl, h1, fun j o h => h2 (j + 1) o h⟩
theorem ext_stks (S : St) (A B : List (Option Ob)) : Ext (S.stk A) (S.stk B) = exts A B := by
  apply propext
  rw [exts_iff]
  constructor
  · rintro ⟨h1, h2⟩
    refine ⟨by simpa [St.stk] using h1, fun j o h => ?_⟩
    have := h2 (S.n + j) o (by simp only [St.stk, if_neg (show ¬S.n + j < S.n by omega), Nat.add_sub_cancel_left, h]; rfl)
    simpa only [St.stk, if_neg (show ¬S.n + j < S.n by omega), Nat.add_sub_cancel_left] using this
  · rintro ⟨h1, h2⟩
    refine ⟨by simpa [St.stk] using h1, fun l o h => ?_⟩
    simp only [St.stk] at h ⊢
    split at h
    · rename_i hl; rw [if_pos hl]; exact .inl h
    · rename_i hl
      rw [if_neg hl]
      cases hb : A[l - S.n]? with
      | none => rw [hb] at h; cases h
      | some q =>
        rw [hb] at h
        simp at h
        subst h
        exact h2 _ o hb
theorem exts_nil (B : List (Option Ob)) : exts [] B = True := by cases B <;> rfl
theorem exts_none (x : Option Ob) (A B : List (Option Ob)) : exts (none :: A) (x :: B) = exts A B := rfl
theorem obE_self (o : Ob) : ObE o (some o) = True := eq_true (.inl rfl)
theorem exts_some (x : Ob) (y : Option Ob) (A B : List (Option Ob)) : exts (some x :: A) (y :: B) = (ObE x y ∧ exts A B) := rfl
end Go.Proofs.Ytfihpbeihlpfcaa.Ev
