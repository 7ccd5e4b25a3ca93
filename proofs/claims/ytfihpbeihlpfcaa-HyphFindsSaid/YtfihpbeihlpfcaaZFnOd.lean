/- The tree of the patterns of a book: the program. -/
import Derived.Test.YtfihpbeihlpfcaaZFnOc
set_option linter.unusedVariables false
set_option linter.unusedSimpArgs false
namespace Go.Proofs.Ytfihpbeihlpfcaa.Ev
open Go Go.Proofs

/-- A tree that is only read: f tells what stands at the end of a way. -/
inductive NodeA : (List Str → Option (List Int)) → AV → Prop
  | mk {f : List Str → Option (List Int)} {x : AV} {es : List (Str × AV)} {lv : List Int} (hx : (x = .sc (.map none) ∧ es = []) ∨ x = .rom (es.map fun e => .string e.1) (es.map (·.2))) (h0 : f [] = some lv)
      (h1 : ∀ e ∈ es, NodeA (fun π => f (e.1 :: π)) e.2) (h2 : ∀ s, (∀ e ∈ es, e.1 ≠ s) → ∀ π, f (s :: π) = none) : NodeA f (.rop [x, sl lv])
theorem NodeA.bel {f : List Str → Option (List Int)} {r : AV} (h : NodeA f r) (k : Nat) : r.bel k := by
  induction h with
  | mk hx h0 h1 h2 ih =>
    rename_i es lv
    simp only [AV.bel, bels]
    refine ⟨?_, (sl_still lv).bel k, trivial⟩
    rcases hx with ⟨rfl, _⟩ | rfl
    · simp only [AV.bel]
    · simp only [AV.bel]
      refine bels_iff.2 fun c hc => ?_
      obtain ⟨e, he, rfl⟩ := List.mem_map.1 hc
      exact ih e he
theorem NodeA.rop {f : List Str → Option (List Int)} {r : AV} (h : NodeA f r) : ∃ cs, r = .rop cs := by
  cases h; exact ⟨_, rfl⟩
/-- A tree in the store that is written no more. -/
theorem node_seen {D : Nat → Bool} {T : St} {h : Hp} {r N : Nat} (w : WF h r N) (hA : Ag T h) (hD : ∀ a c, h a = some c → D a = true) : ∀ (k d a : Nat), (∃ m l, h a = some (.nd m l)) → (∀ π, k ≤ π.length → reach h a π = none) → 2 * k + 2 ≤ d → NodeA (fun π => (reach h a π).map (lvH h)) (seen D T d (.ptr a 2 0))
  | 0, d, a, _, hk, _ => by have := hk [] (Nat.le_refl _); cases this
  | k + 1, d, a, ⟨m, l, ha⟩, hk, hd => by
    obtain ⟨d, rfl⟩ : ∃ d', d = d' + 3 := ⟨d - 3, by omega⟩
    have hr := row_of hA ha
    have e0 : seen D T (d + 3) (.ptr a 2 0) = .rop [seen D T (d + 2) (ndM m), seen D T (d + 2) (ndL l)] := by
      simp only [seen, hD _ _ ha, if_true, hr, List.drop_zero, List.map_cons, List.map_nil]
    have e1 : seen D T (d + 2) (ndL l) = sl (lvH h a) := by
      cases l with
      | none =>
        have : lvH h a = [] := by unfold lvH; rw [ha]
        rw [this]; rfl
      | some p =>
        obtain ⟨v, n⟩ := p
        obtain ⟨x, hx, hl, _⟩ := w.lv _ _ _ _ ha
        have h1 : lvH h a = x := by unfold lvH; rw [ha]; simp only [hx]
        have h2 : T.row? v n = some (3, 1, cellsL x) := by
          unfold St.row?; rw [hA _ _ hx]; simp only [obH, cellsL_len, hl, Nat.mul_one, if_true]
        rw [h1]
        simp only [ndL, seen, hD _ _ hx, if_true, h2, Nat.mul_one, Nat.zero_add, Nat.le_refl, List.drop_zero]
        rw [List.take_of_length_le (by rw [cellsL_len, hl]; omega), seen_cellsL, ← hl]
    rw [e0, e1]
    cases m with
    | none =>
      have hno : ∀ s, kidH h a s = none := fun s => by unfold kidH; rw [ha]
      refine .mk (es := []) (.inl ⟨by rfl, rfl⟩) rfl (fun e he => by cases he) fun s _ π => ?_
      simp only [reach, hno, Option.bind_none, Option.map_none]
    | some q =>
      obtain ⟨es, hq⟩ := w.mp _ _ _ ha
      have hks : ∀ s, kidH h a s = kid es s := fun s => kid_at ha hq
      have hm : T.m q = some (.map (esC es)) := hA _ _ hq
      refine .mk (es := es.map fun p => (p.1, seen D T (d + 1) (.ptr p.2 2 0))) (.inr ?_) rfl ?_ ?_
      · simp only [ndM, seen, hD _ _ hq, if_true, hm, esC, List.map_map]
        rfl
      · intro e he
        obtain ⟨p, hp, rfl⟩ := List.mem_map.1 he
        have hkp : kidH h a p.1 = some p.2 := by
          rw [hks]
          unfold kid
          have hnd := w.ky _ _ hq
          obtain ⟨i, hi, rfl⟩ := List.getElem_of_mem hp
          have : es.find? (fun e => decide (e.1 = es[i].1)) = some es[i] := by
            rw [List.find?_eq_some_iff_getElem]
            refine ⟨by simp, i, hi, rfl, fun j hj => ?_⟩
            simp only [Bool.not_eq_true', decide_eq_false_iff_not]
            intro e
            exact List.pairwise_iff_getElem.1 hnd j i (by simp; omega) (by simpa using hi) hj (by simpa using e)
          rw [this]; rfl
        have hrec := node_seen w hA hD k (d + 1) p.2 (w.kids _ _ _ hkp) (fun π hπ => by
          have := hk (p.1 :: π) (by simp; omega)
          simp only [reach, hkp, Option.bind_some] at this
          exact this) (by omega)
        have hfe : (fun π => (reach h a (p.1 :: π)).map (lvH h)) = fun π => (reach h p.2 π).map (lvH h) := by
          funext π; simp only [reach, hkp, Option.bind_some]
        dsimp only
        rw [hfe]
        exact hrec
      · intro s hs π
        have : kid es s = none := by
          unfold kid
          rw [Option.map_eq_none_iff]
          refine List.find?_eq_none.2 fun p hp => ?_
          have := hs _ (List.mem_map.2 ⟨p, hp, rfl⟩)
          simpa using this
        simp only [reach, hks, this, Option.bind_none, Option.map_none]
/-- What stands at the ends of ways when all patterns were put. -/
def treeF (L : List Pat) : List Str → Option (List Int) := L.foldl (fun f p => putF p f) fun π => if π = [] then some [] else none
theorem treeF_snoc (L : List Pat) (p : Pat) : treeF (L ++ [p]) = putF p (treeF L) := by simp [treeF]
theorem treeF_far (k : Nat) : ∀ (L : List Pat), (∀ p ∈ L, p.1.length < k) → ∀ π, k ≤ π.length → 0 < k → treeF L π = none := by
  intro L
  induction hn : L.length generalizing L with
  | zero =>
    intro _ π hπ hk
    obtain rfl := List.eq_nil_of_length_eq_zero hn
    show (if π = [] then some [] else none) = none
    rw [if_neg]; intro e; subst e; simp at hπ; omega
  | succ n ih =>
    intro hL π hπ hk
    obtain ⟨M, p, rfl⟩ : ∃ M p, L = M ++ [p] := by
      rcases List.eq_nil_or_concat L with rfl | ⟨M, p, rfl⟩
      · cases hn
      · exact ⟨M, p, List.concat_eq_append⟩
    have hp := hL p (by simp)
    rw [treeF_snoc, putF, if_neg (fun e => by rw [e] at hπ; omega), if_neg (fun e => by have := e.length_le; omega)]
    exact ih M (by simpa using hn) (fun p hp => hL p (by simp [hp])) π hπ hk
theorem clean_one {T : St} (hT : Clean T) {o : Ob} (ho : o.bel (T.n + 1)) : Clean (T.stk [some o]) := by
  intro l x hx
  by_cases hl : l < T.n
  · rw [stk_m_old _ hl] at hx
    obtain ⟨h1, h2, h3⟩ := hT l x hx
    refine ⟨by show l < T.n + 1; omega, by rw [stk_m_old _ hl]; exact hx, ?_⟩
    exact Ob.bel_mono (by show T.n ≤ T.n + 1; omega) h3
  · by_cases e : l = T.n
    · subst e
      have h2 := stk_m_new T [some o] 0
      rw [show T.nm 0 = T.n from rfl] at h2
      rw [h2] at hx
      simp only [List.getElem?_cons_zero, Option.join_some, Option.some.injEq] at hx
      subst hx
      exact ⟨by show T.n < T.n + 1; omega, h2, ho⟩
    · exfalso
      have : (T.stk [some o]).m l = none := by
        show (if l < T.n then T.m l else ([some o][l - T.n]?).join) = none
        rw [if_neg hl, List.getElem?_eq_none (by simp; omega)]; rfl
      rw [this] at hx; cases hx
/-- What holds at the head of tree's loop: i patterns were put. -/
def TrI (S : St) (r : Nat) (L : List Pat) (s : Nat × Hp) (T1 : St) : Prop :=
  s.1 ≤ L.length ∧ WF s.2 r T1.n ∧ Ag T1 s.2 ∧ (∀ π, semH s.2 r π = treeF (L.take s.1) π) ∧ (∀ l, l < S.n → T1.m l = S.m l) ∧ S.n ≤ T1.n ∧ ∀ a c, s.2 a = some c → S.n ≤ a
/-- ablaut/hyph.tree: 1 parameters, 0 captured -/
def s37 : SC := .seq (.reg [o1 2 (.mv (.c (.pointer none)))])
  (.seq (.reg [o1 6 (.build [(.map none), (.slice none 0 0)] []),
    o1 7 (.box 93 2 (.t 6)),
    o1 3 (.mv (.t 7))])
   (.seq (.seq (.reg [o1 8 (.mv (.t 0)),
      o1 9 (.lenL (.t 8)),
      o1 10 (.mv (cI 0))])
     (.block 0 (.loop (.seq (.reg [o1 11 (.bin .lss (.t 10) (.t 9))])
        (.seq (.cond (.t 11) (.skip) (.exit 0))
         (.seq (.block 1 (.seq (.reg [o1 12 (.iaddr 2 (.t 8) (.t 10)),
             o1 13 (.load (some 2) (.t 12)),
             o1 5 (.alloc 33 2 [(.slice none 0 0), (.slice none 0 0)]),
             o0 (.store 2 (.t 5) (.t 13))])
            (.reg [o1 14 (.mv (.t 3)),
             o1 15 (.load (some 2) (.t 5)),
             o1 16 (.call (.f 75) [(.t 14), (.t 15)])])))
          (.reg [o1 17 (.bin .add (.t 10) (cI 1)),
           o1 10 (.mv (.t 17))])))))))
    (.seq (.reg [o1 18 (.mv (.t 3)),
      o1 2 (.mv (.t 18))])
     (.ret))))
theorem s37_ok : lookF Try.prog 37 = some (s37, 19, [.tmp 2]) := by kernel_rfl
set_option maxHeartbeats 1000000 in
theorem tree_ok (L : List Pat) (h1 : ∀ p ∈ L, p.1.length ≤ 1000 ∧ p.2.length ≤ 1000 ∧ p.2 ≠ [] ∧ ∀ x ∈ p.2, 0 ≤ x) (h2 : ∀ i, i < L.length → (treeF (L.take i) (nth L i).1).getD [] = []) : FnR P 37 [sl L] fun r => NodeA (treeF L) r := by
  (refine fnR_look s37_ok (by simp) ((fun r h k => h.bel k)) fun S hS => cwp_sound _ _ _ _ ?_; simp (maxSteps := 900000) (disch := omega) only [s37, go_sem, Nat.reduceEqDiff, ↓reduceIte, reduceCtorEq, Nat.reduceAdd, Nat.reduceMul, Int.reduceToNat, List.reduceReplicate, Nat.reduceLeDiff, Nat.reduceLT, Int.reduceLT, Int.reduceLE, Int.reduceEq])
  repeat' (first | with_reducible refine inw ?_ | simp (maxSteps := 900000) (disch := omega) only [go_sem, Nat.reduceEqDiff, ↓reduceIte, reduceCtorEq, Nat.reduceAdd, Nat.reduceMul, Int.reduceToNat, List.reduceReplicate, Nat.reduceLeDiff, Nat.reduceLT, Int.reduceLT, Int.reduceLE, Int.reduceEq, one_mn] | with_reducible refine pickB_f ?_ | with_reducible refine giv_intro fun _h => ?_ | with_reducible refine alt_intro ?_ fun _h => ?_ | with_reducible refine pickD_nil ?_ | (with_reducible refine brc (fun _h => ?_) fun _h => ?_) <;> first | (exfalso; omega) | simp only [decide_eq_false _h] | simp only [(_h : (_ : Bool) = _)] | simp only [decide_eq_true _h] | skip)
  refine loopA [3, 8, 9] (by simp only [go_sem, Nat.reduceEqDiff, ↓reduceIte, reduceCtorEq, Nat.reduceAdd, Nat.reduceMul, Int.reduceToNat, List.reduceReplicate, Nat.reduceLeDiff, Nat.reduceLT, Int.reduceLT, Int.reduceLE, Int.reduceEq]; try rfl) (fun (s : Nat × Hp) => [(10, intA s.1)]) (fun s T1 => TrI S (S.nm 0) L s T1) (fun s => L.length - s.1) (0, Hp.put (fun _ => none) (S.nm 0) (.nd none none)) ?_ ?_
  · simp (maxSteps := 900000) (disch := omega) only [go_sem, Nat.reduceEqDiff, ↓reduceIte, reduceCtorEq, Nat.reduceAdd, Nat.reduceMul, Int.reduceToNat, List.reduceReplicate, Nat.reduceLeDiff, Nat.reduceLT, Int.reduceLT, Int.reduceLE, Int.reduceEq]
    have hne : ∀ a, a ≠ S.nm 0 → Hp.put (fun _ => none) (S.nm 0) (.nd none none) a = none := fun a e => Hp.put_ne _ _ e
    have hsm : Hp.put (fun _ => none) (S.nm 0) (.nd none none) (S.nm 0) = some (.nd none none) := Hp.put_same _ _ _
    generalize Hp.put (fun _ => none) (S.nm 0) (.nd none none) = h0 at *
    have only : ∀ a c, h0 a = some c → a = S.nm 0 ∧ c = .nd none none := fun a c hc => by
      by_cases e : a = S.nm 0
      · subst e; rw [hsm] at hc; cases hc; exact ⟨rfl, rfl⟩
      · rw [hne a e] at hc; cases hc
    have hk0 : ∀ a s, kidH h0 a s = none := fun a s => by
      unfold kidH
      by_cases e : a = S.nm 0
      · subst e; rw [hsm]
      · rw [hne a e]
    have hr0 : ∀ π c, reach h0 (S.nm 0) π = some c → π = [] ∧ c = S.nm 0 := fun π c hc => by
      cases π with
      | nil => simp only [reach, Option.some.injEq] at hc; exact ⟨rfl, hc.symm⟩
      | cons s π => simp only [reach, hk0, Option.bind_none] at hc; cases hc
    refine ⟨Nat.zero_le _, ⟨fun a c hc => ?_, ⟨none, none, hsm⟩, fun a s b hb => ?_, fun a q l hc => ?_, fun a m v k hc => ?_, fun a a' q l l' g1 g2 => ?_, fun a a' m m' v k k' g1 g2 => ?_, fun q es hc => ?_, fun π π' c g1 g2 => ?_⟩, fun a c hc => ?_, fun π => ?_, fun l hl => stk_m_old _ hl, ?_, fun a c hc => ?_⟩
    · rw [(only a c hc).1]; simp [St.nm, St.stk]
    · dsimp only at hb; rw [hk0] at hb; cases hb
    · have := (only _ _ hc).2; cases this
    · have := (only _ _ hc).2; cases this
    · exact (only _ _ g1).1.trans (only _ _ g2).1.symm
    · exact (only _ _ g1).1.trans (only _ _ g2).1.symm
    · have := (only _ _ hc).2; cases this
    · exact (hr0 _ _ g1).1.trans (hr0 _ _ g2).1.symm
    · obtain ⟨rfl, rfl⟩ := only _ _ hc
      exact stk_m_new _ _ 0
    · show (reach h0 (S.nm 0) π).map (lvH h0) = if π = [] then some [] else none
      by_cases e : π = []
      · subst e
        rw [if_pos rfl]
        have : lvH h0 (S.nm 0) = [] := by unfold lvH; rw [hsm]
        simp only [reach, Option.map_some, this]
      · rw [if_neg e]
        cases hc : reach h0 (S.nm 0) π with
        | none => rfl
        | some c => exact absurd (hr0 _ _ hc).1 e
    · simp [St.stk]
    · rw [(only a c hc).1]; simp [St.nm]
  rintro ⟨i, h⟩ T1 hT1 hn1 hI
  obtain ⟨hi, w1, hA1, hse, hfr, hge, hdo⟩ := hI
  dsimp only at hi w1 hA1 hse hfr hge hdo
  rw [← stk_nil hT1]
  by_cases hil : i < L.length
  · obtain ⟨g1, g2, g3, g4⟩ := h1 _ (nth_mem hil)
    have eC : ((cellsL L).drop (i * 2)).take 2 = [sl (nth L i).1, sl (nth L i).2] := by rw [cellsL_drop, nth_drop hil]; rfl
    repeat' (first | with_reducible refine inw ?_ | simp (maxSteps := 900000) (disch := omega) only [go_sem, Nat.reduceEqDiff, ↓reduceIte, reduceCtorEq, Nat.reduceAdd, Nat.reduceMul, Int.reduceToNat, List.reduceReplicate, Nat.reduceLeDiff, Nat.reduceLT, Int.reduceLT, Int.reduceLE, Int.reduceEq, eC] | with_reducible refine pickB_f ?_ | with_reducible refine giv_intro fun _h => ?_ | with_reducible refine alt_intro ?_ fun _h => ?_ | with_reducible refine pickD_nil ?_ | (with_reducible refine brc (fun _h => ?_) fun _h => ?_) <;> first | (exfalso; omega) | simp only [decide_eq_false _h] | simp only [(_h : (_ : Bool) = _)] | simp only [decide_eq_true _h] | skip)
    have hT2 : Clean (T1.stk [some (.row 33 2 [sl (nth L i).1, sl (nth L i).2])]) := clean_one hT1 (by simp only [Ob.bel, bels]; exact ⟨(sl_still _).bel _, (sl_still _).bel _, trivial⟩)
    have htk : L.take (i + 1) = L.take i ++ [nth L i] := by rw [List.take_add_one, nth_get? hil]; rfl
    refine put_call hT2 (r := S.nm 0) (h := h) (w1.mono (by simp [St.stk])) (fun a c hc => (stk_m_old _ (w1.lt _ _ hc)).trans (hA1 _ _ hc)) (nth L i) g1 g2 g3 g4 (by rw [hse]; exact h2 i hil) ?_
    intro T' h' hT' w' hA' hf' hse'
    have hd' : ∀ a c, h' a = some c → S.n ≤ a := fun a c hc => by
      by_cases e : S.n ≤ a
      · exact e
      · exfalso
        have hn : h a = none := by
          cases e2 : h a with
          | none => rfl
          | some c => have := hdo a c e2; omega
        have := (hf'.2 a (by show a < T1.n + 1; omega) hn).2
        rw [this] at hc; cases hc
    have ho' : ∀ l, l < S.n → T'.m l = S.m l := fun l hl => by
      have hn : h l = none := by
        cases e2 : h l with
        | none => rfl
        | some c => have := hdo l c e2; omega
      rw [(hf'.2 l (by show l < T1.n + 1; omega) hn).1, stk_m_old _ (by omega), hfr l hl]
    have hn' : T1.n + 1 ≤ T'.n := hf'.1
    have hw' : TrI S (S.nm 0) L (i + 1, h') T' := ⟨hil, w', hA', fun π => by dsimp only; rw [hse', htk, treeF_snoc, show semH h (S.nm 0) = treeF (L.take i) from funext hse], ho', by omega, hd'⟩
    repeat' (first | with_reducible refine inw ?_ | simp (maxSteps := 900000) (disch := omega) only [go_sem, Nat.reduceEqDiff, ↓reduceIte, reduceCtorEq, Nat.reduceAdd, Nat.reduceMul, Int.reduceToNat, List.reduceReplicate, Nat.reduceLeDiff, Nat.reduceLT, Int.reduceLT, Int.reduceLE, Int.reduceEq] | with_reducible refine pickB_f ?_ | with_reducible refine giv_intro fun _h => ?_ | with_reducible refine alt_intro ?_ fun _h => ?_ | with_reducible refine pickD_nil ?_ | (with_reducible refine brc (fun _h => ?_) fun _h => ?_) <;> first | (exfalso; omega) | simp only [decide_eq_false _h] | simp only [(_h : (_ : Bool) = _)] | simp only [decide_eq_true _h] | skip)
    intro _ _
    refine ⟨(i + 1, h'), ⟨by dsimp only; omega, hw'⟩, rfl, ?_⟩
    simp only [St.nm]; omega
  · obtain rfl : i = L.length := by omega
    rw [List.take_length] at hse
    have hN := node_seen (D := freshIn S) w1 hA1 (fun a c hc => by simp only [freshIn, decide_eq_true_eq]; exact hdo a c hc) 1001 2004 (S.nm 0) w1.root (fun π hπ => by
      have g := hse π
      rw [treeF_far 1001 L (fun p hp => by have := (h1 p hp).1; omega) π hπ (by omega)] at g
      unfold semH at g
      rwa [Option.map_eq_none_iff] at g) (by omega)
    rw [show (fun π => (reach h (S.nm 0) π).map (lvH h)) = treeF L from funext hse] at hN
    obtain ⟨L1, rfl⟩ := stk_of hfr hge hT1
    rw [stk_nil hT1]
    obtain ⟨cs, hcs⟩ := hN.rop
    refine SWp.view (View.shutD (freshIn S) (fr' := (frL ([(3, AV.ptr (S.nm 0) 2 0), (8, sl L), (9, AV.sc (.int .i64 L.length))] ++ [(10, intA L.length)])).put (some 3) (.rop cs)) fun j => ?_) ?_
    · by_cases e : j = 3
      · subst e
        right; right
        refine ⟨2004, ?_⟩
        rw [← hcs]; rfl
      · left
        simp only [Fr.put]
        rw [if_neg (by simpa using fun e2 => e e2.symm)]
    rw [stk_kills]
    rw [hcs] at hN
    repeat' (first | with_reducible refine inw ?_ | simp (maxSteps := 900000) (disch := omega) only [go_sem, Nat.reduceEqDiff, ↓reduceIte, reduceCtorEq, Nat.reduceAdd, Nat.reduceMul, Int.reduceToNat, List.reduceReplicate, Nat.reduceLeDiff, Nat.reduceLT, Int.reduceLT, Int.reduceLE, Int.reduceEq] | with_reducible refine pickB_f ?_ | with_reducible refine giv_intro fun _h => ?_ | with_reducible refine alt_intro ?_ fun _h => ?_ | with_reducible refine pickD_nil ?_ | (with_reducible refine brc (fun _h => ?_) fun _h => ?_) <;> first | (exfalso; omega) | simp only [decide_eq_false _h] | simp only [(_h : (_ : Bool) = _)] | simp only [decide_eq_true _h] | skip)
    exact hN
end Go.Proofs.Ytfihpbeihlpfcaa.Ev
