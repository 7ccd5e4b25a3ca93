/- Loops and calls at any store; names of rows that were there before. -/
import Derived.Test.YtfihpbeihlpfcaaZEvZn
set_option linter.unusedVariables false
set_option linter.unusedSimpArgs false
namespace Go.Proofs.Ytfihpbeihlpfcaa.Ev
open Go Go.RowKit

section
variable {P : Program} {n : Nat} {Q : Exit → Fr → St → Prop} {fr : Fr} {S : St}
theorem swp_clean {c : SC} (h : SWp P n c Q fr S) : SWp P n c (fun e fr' S' => Q e fr' S' ∧ Clean S' ∧ S.n ≤ S'.n) fr S := fun c' hc G a h1 h2 h3 =>
  wp_mono (h c' hc G a h1 h2 h3) fun e a' w' ⟨G', fr', g1, g2, g3, g4, g5⟩ => ⟨G', fr', g1, g2, g3, g4, g5, g2.clean, by rw [← h1]; exact g3.len⟩
theorem swp_known {c : SC} (h : Clean S → SWp P n c Q fr S) : SWp P n c Q fr S := fun c' hc G a h1 h2 h3 => h (h1 ▸ h2.clean) c' hc G a h1 h2 h3
/-- A loop whose head is told by slots and any store. -/
theorem loopA {σ : Type} (C : List Nat) {V : List (Nat × AV)} (hV : keep C fr = V) (F : σ → List (Nat × AV)) (I : σ → St → Prop) (m : σ → Nat) (s0 : σ) {x : SC}
    (h0 : I s0 S ∧ fits (F s0) fr)
    (round : ∀ s T, Clean T → S.n ≤ T.n → I s T → SWp P n x (thenQ (fun fr' T' => Clean T' → T.n ≤ T'.n → ∃ s', (m s' < m s ∧ I s' T') ∧ fits (V ++ F s') fr' ∧ belF T'.n (V ++ F s')) Q) (frL (V ++ F s)) T) :
    SWp P n (.loop x) Q fr S := by
  subst hV
  refine swp_known fun hS => ?_
  have key : ∀ (C : List Nat) (A : List (Nat × AV)), fits A fr → fits (keep C fr ++ A) fr := by
    intro C A hA
    induction C with
    | nil => exact hA
    | cons c C ih => exact ⟨.inl rfl, ih⟩
  refine SWp.tell (fr' := frL (keep C fr ++ F s0)) (S' := S) (fun i => fits_wk (key C _ h0.2) i) rfl (fun l o h => h) ?_
  refine swp_loop (fun s fr' T => (I s T ∧ Clean T ∧ S.n ≤ T.n) ∧ fr' = frL (keep C fr ++ F s)) m ?_ s0 _ _ ⟨⟨h0.1, hS, Nat.le_refl _⟩, rfl⟩
  rintro s _ T ⟨⟨hi, hT, hn⟩, rfl⟩
  refine (swp_clean (round s T hT hn hi)).retell fun e fr1 T1 hq => ?_
  cases e with
  | normal =>
    obtain ⟨hq, hc, hle⟩ := hq
    obtain ⟨s', ⟨k1, k2⟩, k3, k4⟩ := hq hc hle
    exact .inr ⟨frL (keep C fr ++ F s'), T1, fun i => ⟨fits_wk k3 i, belF_bel k4 i⟩, hc, hle, s', k1, ⟨k2, hc, Nat.le_trans hn hle⟩, rfl⟩
  | _ => exact .inl hq.1
/-- The end of a function without results that turned the store. -/
def endT (T0 : St) (K : AV → St → Prop) : Exit → Fr → St → Prop
  | .normal, fr, T | .ret, fr, T => Clean T → T0.n ≤ T.n → K (.tup []) T
  | _, _, _ => False
theorem et_normal (T0 T : St) (K : AV → St → Prop) : endT T0 K .normal fr T = (Clean T → T0.n ≤ T.n → K (.tup []) T) := rfl
theorem et_ret (T0 T : St) (K : AV → St → Prop) : endT T0 K .ret fr T = (Clean T → T0.n ≤ T.n → K (.tup []) T) := rfl
theorem callT {f : FuncId} {sc : SC} {n : Nat} {args : List AV} {T0 : St} {K : AV → St → Prop} (hl : lookF P f = some (sc, n, [])) (ha : args.length ≤ n)
    (h : SWp P n sc (endT T0 K) (fr0 args) T0) : callS P f args T0 K () := by
  refine acall_look hl ha ((swp_clean h).mono fun e fr T hq => ?_)
  have fin : endT T0 K .ret fr T → Clean T → T0.n ≤ T.n → retQ [] T0.n K .ret fr T := fun h1 h2 h3 =>
    ⟨fr, T, T, View.refl _ _, trivial, h2, h3, by simp only [resAV, AV.bel, List.map_nil, bels], h1 h2 h3⟩
  cases e with
  | normal => exact fin hq.1 hq.2.1 hq.2.2
  | ret => exact fin hq.1 hq.2.1 hq.2.2
  | _ => exact hq.1.elim
end

theorem eq_nn {K : AV → Prop} (neg : Bool) (a b c d : Nat) : eqH .slice neg (.sc (.slice none a b)) (.sc (.slice none c d)) K () = letK (boolK neg true) K () := rfl
theorem s_slA {P : Program} {fr : Fr} {S : St} {K : AV → St → Prop} (n k : Nat) (x : SA) (lo hi : Option SA) : swp P (.slA n k x lo hi) fr S K = match evS fr x with
    | .ptr q tot off => orH (S.row? q tot) (fun r => orH (loIn (lo.map (evS fr)) 0) (fun l => orH (loIn (hi.map (evS fr)) n) (fun h => req (0 ≤ l ∧ l ≤ h ∧ h ≤ n ∧ l < n ∧ 0 < k ∧ r.2.1 = k ∧ tot = off + n * k) (fun _ => letK (.ref q tot (off + l.toNat * k) (h.toNat - l.toNat)) (fun v => K v S) ()) ()) ()) ()) ()
    | _ => False := by
  simp only [swp]
  generalize evS fr x = y
  cases y <;> first | rfl | simp only [orH, req, letK, and_assoc]
/-- An own row under a new name, its elements of another width. -/
theorem View.rekey {fr : Fr} {S : St} {i a : Nat} {e k tot off : Nat} {cs : List AV} (k' : Nat) (h : fr i = .ptr a tot off) (ha : S.m a = some (.row e k cs)) :
    View fr S (fr.put (some i) (.ptr S.n tot off)) ((S.kill a).add (.row e k' cs)) := fun n G act h1 h2 h3 => by
  subst h1
  let G' : Ctx := ⟨G.w, fun l => if l = G.S.n then G.μ a else G.μ l, (G.S.kill a).add (.row e k' cs)⟩
  have hlt := live_lt h2 ha
  have hsub : ∀ l' o', G'.S.m l' = some o' → (l' = G.S.n ∧ o' = .row e k' cs) ∨ (l' ≠ a ∧ l' ≠ G.S.n ∧ G.S.m l' = some o') := fun l' o' h => by
    by_cases e1 : l' = G.S.n
    · subst e1; left; exact ⟨rfl, by simpa [G', St.add, St.kill] using h.symm⟩
    · by_cases e2 : l' = a
      · subst e2; simp [G', St.add, St.kill, e1] at h
      · right; exact ⟨e2, e1, by simpa [G', St.add, St.kill, e1, e2] using h⟩
  have hμa : G'.μ G.S.n = G.μ a := by simp [G']
  have hμo : ∀ l, l ≠ G.S.n → G'.μ l = G.μ l := fun l hl => by simp [G', hl]
  have hlv : ∀ l' b, G'.live l' b → (l' = G.S.n ∧ G.live a b) ∨ (l' ≠ a ∧ l' ≠ G.S.n ∧ G.live l' b) := fun l' b h => by
    obtain ⟨⟨o', ho'⟩, hb⟩ := h
    rcases hsub l' o' ho' with ⟨rfl, _⟩ | ⟨q1, q2, h⟩
    · left; exact ⟨rfl, ⟨_, ha⟩, by rw [← hμa]; exact hb⟩
    · right; exact ⟨q1, q2, ⟨_, h⟩, by rw [← hμo l' q2]; exact hb⟩
  have hst : Step G G' := by
    refine ⟨rfl, rfl, Nat.le_refl _, rfl, Nat.le_refl _, fun _ _ => rfl, fun b _ ⟨l', h⟩ => ?_, by show G.S.n ≤ G.S.n + 1; omega, fun l' o' hl' ho' => ?_, MapsGo.refl _⟩
    · rcases hlv l' b h with ⟨_, h⟩ | ⟨_, _, h⟩
      · exact ⟨_, h⟩
      · exact ⟨_, h⟩
    · rcases hsub l' o' ho' with ⟨rfl, rfl⟩ | ⟨_, q1, h⟩
      · omega
      · cases o' with
        | row e k cs => exact ⟨cs, h, Nat.le_refl _, fun _ => ⟨hμo l' q1, fun b c _ hc => ⟨c, hc, rfl⟩⟩⟩
        | map es => exact ⟨es, h, hμo l' q1⟩
        | iter i => exact ⟨i, h, hμo l' q1⟩
  have hrel : Rel G' := by
    refine ⟨fun l' hl' => ?_, fun l' o' ho' => ?_, fun l1 l2 b a1 a2 => ?_⟩
    · have h1 : G.S.n + 1 ≤ l' := hl'
      have hd := h2.dom l' (by omega)
      have hn : l' ≠ G.S.n := by omega
      have hn2 : l' ≠ a := by omega
      simp only [G', St.kill, St.add, hn, hn2, if_false, hd]
    · rcases hsub l' o' ho' with ⟨rfl, rfl⟩ | ⟨_, q1, h⟩
      · obtain ⟨w1, w2⟩ := h2.ok _ _ ha
        refine ⟨w1, ?_⟩
        rcases w2 with ⟨w3, w4⟩ | ⟨b, c, w3, w4, w5, w6⟩
        · exact .inl ⟨by rw [hμa]; exact w3, w4⟩
        · exact .inr ⟨b, c, by rw [hμa]; exact w3, w4, w5, w6.step hst _ _ _ fun _ => rfl⟩
      · exact (h2.ok _ _ h).keep hst (hμo l' q1) fun _ _ => rfl
    · rcases hlv l1 b a1 with ⟨rfl, p1⟩ | ⟨p0, p2, p1⟩ <;> rcases hlv l2 b a2 with ⟨rfl, r1⟩ | ⟨r0, r2, r1⟩
      · rfl
      · exact absurd (h2.inj _ _ b p1 r1) (Ne.symm r0)
      · exact absurd (h2.inj _ _ b p1 r1) p0
      · exact h2.inj _ _ b p1 r1
  refine ⟨G', rfl, rfl, hrel, hst, h3.1, h3.2.1, fun x hx => ?_⟩
  by_cases ex : x = i
  · subst ex
    have hv := h3.2.2 x hx
    rw [h] at hv
    simp only [Fr.put, if_true]
    simp only [Rv] at hv ⊢
    obtain ⟨v1, v2, v3⟩ := hv
    refine ⟨by show G.S.n < G.S.n + 1; omega, v2, fun e2 k2 cs2 hm => ?_⟩
    rcases hsub G.S.n _ hm with ⟨_, hq⟩ | ⟨_, q, _⟩
    · cases hq
      obtain ⟨v4, v5⟩ := v3 e k cs ha
      refine ⟨v4, fun ht => ?_⟩
      have := v5 ht
      rw [hμa]
      exact this
    · exact absurd rfl q
  · rw [put_off (by simpa using fun e => ex e.symm)]
    exact (h3.2.2 x hx).step hst
theorem rekeyRow {P : Program} {n : Nat} {Q : Exit → Fr → St → Prop} {fr : Fr} {S : St} {L : List (Option Ob)} {c : SC} (i j e k k' : Nat) {tot off : Nat} {cs : List AV} (h : fr i = .ptr (S.nm j) tot off) (hj : L[j]? = some (some (.row e k cs)))
    (hk : SWp P n c Q (fr.put (some i) (.ptr (S.nm L.length) tot off)) (S.stk (L.set j none ++ [some (.row e k' cs)]))) : SWp P n c Q fr (S.stk L) := by
  have hl : j < L.length := (List.getElem?_eq_some_iff.1 hj).1
  have e1 : ¬ S.n + j < S.n := by omega
  refine SWp.view (View.rekey (e := e) (k := k) (cs := cs) (a := S.nm j) k' h (by simp [St.stk, St.nm, e1, hj])) ?_
  rw [stk_killL S hl, stk_add]
  exact hk
/-! ### names that were there before -/
theorem row_base {T : St} {a tot : Nat} (L : List (Option Ob)) (h : a < T.n) : (T.stk L).row? a tot = T.row? a tot := by
  unfold St.row?
  simp [St.stk, h]
theorem map_base {T : St} {a : Nat} (L : List (Option Ob)) (h : a < T.n) : (T.stk L).map? a = T.map? a := by
  unfold St.map?
  simp [St.stk, h]
theorem set_base {T : St} {a : Nat} (L : List (Option Ob)) (o : Ob) (h : a < T.n) : (T.stk L).set a o = (T.set a o).stk L := by
  refine stk_ext (by simp [St.set, St.stk]) fun l => ?_
  show (if l = a then some o else if l < T.n then T.m l else (L[l - T.n]?).join) = if l < (T.set a o).n then (T.set a o).m l else (L[l - (T.set a o).n]?).join
  rw [St.set_n]
  by_cases e : l = a
  · subst e; rw [if_pos rfl, if_pos h]; exact (St.set_same _ _ _).symm
  · rw [if_neg e]
    by_cases hl : l < T.n
    · rw [if_pos hl, if_pos hl, St.set_ne _ _ e]
    · rw [if_neg hl, if_neg hl]
theorem nm_set (T : St) (a : Nat) (o : Ob) (j : Nat) : (T.set a o).nm j = T.nm j := rfl
theorem stk_m_old {T : St} {l : Nat} (L : List (Option Ob)) (h : l < T.n) : (T.stk L).m l = T.m l := by simp [St.stk, h]
theorem stk_m_new (T : St) (L : List (Option Ob)) (j : Nat) : (T.stk L).m (T.nm j) = (L[j]?).join := by simp [St.stk, St.nm]; intro h; omega
theorem setn_map (T : St) (a : Nat) (o : Ob) (L : List (Option Ob)) (j : Nat) : ((T.set a o).stk L).map? (T.nm j) = mapAt L j := stk_map (T.set a o) L j
theorem setn_put2 (T : St) (a : Nat) (o o' : Ob) (x y : Option Ob) : ((T.set a o).stk [x, y]).set (T.nm 0) o' = (T.set a o).stk [some o', y] := stk_setL (T.set a o) (j := 0) o' (by simp)
theorem m_old {T : St} {a l : Nat} (o : Ob) (L : List (Option Ob)) (h : l < T.n) (e : l ≠ a) : ((T.set a o).stk L).m l = T.m l := by rw [stk_m_old L (by rw [St.set_n]; exact h), St.set_ne _ _ e]
theorem m_same {T : St} {a : Nat} (o : Ob) (L : List (Option Ob)) (h : a < T.n) : ((T.set a o).stk L).m a = some o := by rw [stk_m_old L (by rw [St.set_n]; exact h), St.set_same]
theorem m_new (T : St) (a : Nat) (o : Ob) (L : List (Option Ob)) (j : Nat) : ((T.set a o).stk L).m (T.nm j) = (L[j]?).join := stk_m_new (T.set a o) L j
/-- A store that only differs from S in names of later. -/
theorem stk_of {S T : St} (h : ∀ l, l < S.n → T.m l = S.m l) (hn : S.n ≤ T.n) (hT : Clean T) : ∃ L, T = S.stk L := by
  refine ⟨(List.range (T.n - S.n)).map fun j => T.m (S.n + j), stk_ext (by simp; omega) fun l => ?_⟩
  by_cases hl : l < S.n
  · rw [if_pos hl, h l hl]
  · rw [if_neg hl]
    by_cases hl2 : l < T.n
    · rw [List.getElem?_map, List.getElem?_range (by omega)]
      simp only [Option.map_some, Option.join_some]
      congr 1; omega
    · rw [List.getElem?_eq_none (by simp; omega)]
      cases e : T.m l with
      | none => rfl
      | some o => exact absurd (hT l o e).1 hl2
attribute [go_sem ↓]
  s_slA
attribute [go_sem]
  eq_nn et_normal et_ret nm_set setn_map setn_put2
end Go.Proofs.Ytfihpbeihlpfcaa.Ev
