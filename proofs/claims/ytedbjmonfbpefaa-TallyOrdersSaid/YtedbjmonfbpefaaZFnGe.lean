/- Lists of grams that are the same; put together in either order. -/
import Derived.Test.YtedbjmonfbpefaaZFnGf
set_option linter.unusedVariables false
set_option linter.unusedSimpArgs false
namespace Go.Proofs.Ytedbjmonfbpefaa.Ev
open Go Go.Proofs

/-- ablaut/ablautref27.SameGrams: 2 parameters, 0 captured -/
def s39 : SC := .seq (.reg [o1 4 (.mv (cB false))])
  (.seq (.seq (.reg [o1 6 (.mv (.t 0)),
     o1 7 (.lenL (.t 6)),
     o1 8 (.mv (.t 1)),
     o1 9 (.lenL (.t 8)),
     o1 10 (.bin .neq (.t 7) (.t 9))])
    (.cond (.t 10) (.seq (.reg [o1 4 (.mv (cB false))])
      (.ret)) (.skip)))
   (.seq (.seq (.reg [o1 5 (.mv (cI 0))])
     (.block 0 (.loop (.seq (.seq (.reg [o1 11 (.mv (.t 5)),
          o1 12 (.mv (.t 0)),
          o1 13 (.lenL (.t 12)),
          o1 14 (.bin .lss (.t 11) (.t 13))])
         (.cond (.t 14) (.skip) (.exit 0)))
        (.seq (.block 1 (.seq (.regC [o1 17 (.mv (.t 0)),
            o1 18 (.mv (.t 5)),
            o1 19 (.iaddr 2 (.t 17) (.t 18)),
            o1 20 (.faddr 0 (.t 19)),
            o1 21 (.load none (.t 20)),
            o1 22 (.mv (.t 1)),
            o1 23 (.mv (.t 5)),
            o1 24 (.iaddr 2 (.t 22) (.t 23)),
            o1 25 (.faddr 0 (.t 24)),
            o1 26 (.load none (.t 25)),
            o1 27 (.call (.f 71) [(.t 21), (.t 26)]),
            o1 28 (.un .not (.t 27)),
            o1 29 (.mv (.t 28)),
            oF 30 (.mv (.t 0)) 29,
            oF 31 (.mv (.t 5)) 29,
            oF 32 (.iaddr 2 (.t 30) (.t 31)) 29,
            oF 33 (.faddr 1 (.t 32)) 29,
            oF 34 (.load none (.t 33)) 29,
            oF 35 (.mv (.t 1)) 29,
            oF 36 (.mv (.t 5)) 29,
            oF 37 (.iaddr 2 (.t 35) (.t 36)) 29,
            oF 38 (.faddr 1 (.t 37)) 29,
            oF 39 (.load none (.t 38)) 29,
            oF 40 (.bin .neq (.t 34) (.t 39)) 29,
            o1 41 (.pick (.t 29) (cB true) (.t 40))])
           (.cond (.t 41) (.seq (.reg [o1 4 (.mv (cB false))])
             (.ret)) (.skip))))
         (.reg [o1 15 (.mv (.t 5)),
          o1 16 (.bin .add (.t 15) (cI 1)),
          o1 5 (.mv (.t 16))]))))))
    (.seq (.reg [o1 4 (.mv (cB true))])
     (.ret))))
theorem s39_ok : lookF Try.prog 39 = some (s39, 42, [.tmp 4]) := by kernel_rfl
theorem sameG_ok (x : List Gram) (hl : x.length ≤ 8796093022208) (hw : ∀ g ∈ x, g.1.length ≤ 8796093022208) : Fn P 39 [sl x, sl x] (boolA true) := by
  (refine fn_look s39_ok (by simp) (by intro k; simp only [go_sem, Nat.reduceEqDiff, ↓reduceIte, reduceCtorEq, Nat.reduceAdd, Nat.reduceMul, Int.reduceToNat, List.reduceReplicate, Nat.reduceLeDiff, Nat.reduceLT, Int.reduceLT, Int.reduceLE, Int.reduceEq]) fun S hS => cwp_sound _ _ _ _ ?_; simp (maxSteps := 900000) (disch := omega) only [s39, go_sem, Nat.reduceEqDiff, ↓reduceIte, reduceCtorEq, Nat.reduceAdd, Nat.reduceMul, Int.reduceToNat, List.reduceReplicate, Nat.reduceLeDiff, Nat.reduceLT, Int.reduceLT, Int.reduceLE, Int.reduceEq])
  repeat' (first | with_reducible refine inw ?_ | simp (maxSteps := 900000) (disch := omega) only [go_sem, Nat.reduceEqDiff, ↓reduceIte, reduceCtorEq, Nat.reduceAdd, Nat.reduceMul, Int.reduceToNat, List.reduceReplicate, Nat.reduceLeDiff, Nat.reduceLT, Int.reduceLT, Int.reduceLE, Int.reduceEq] | with_reducible refine pickB_f ?_ | with_reducible refine giv_intro fun _h => ?_ | with_reducible refine alt_intro ?_ fun _h => ?_ | with_reducible refine pickD_nil ?_ | (with_reducible refine brc (fun _h => ?_) fun _h => ?_) <;> first | (exfalso; omega) | simp only [decide_eq_false _h] | simp only [(_h : (_ : Bool) = _)] | simp only [decide_eq_true _h] | skip)
  (refine loopC hS [0, 1] (by simp only [go_sem, Nat.reduceEqDiff, ↓reduceIte, reduceCtorEq, Nat.reduceAdd, Nat.reduceMul, Int.reduceToNat, List.reduceReplicate, Nat.reduceLeDiff, Nat.reduceLT, Int.reduceLT, Int.reduceLE, Int.reduceEq]; try rfl) (fun (i : Nat) => [(5, intA i)]) (fun (i : Nat) => []) (fun (i : Nat) => i ≤ x.length) (fun (i : Nat) => x.length - i) (0) ?_ (by intro s; first | rfl | (rcases s with ⟨_, _⟩; rfl) | (rcases s with ⟨_, _, _⟩; rfl) | (rcases s with ⟨_, _, _, _⟩; rfl) | (rcases s with ⟨_, _, _, _, _⟩; rfl)) ?_)
  · simp (maxSteps := 900000) (disch := omega) only [go_sem, Nat.reduceEqDiff, ↓reduceIte, reduceCtorEq, Nat.reduceAdd, Nat.reduceMul, Int.reduceToNat, List.reduceReplicate, Nat.reduceLeDiff, Nat.reduceLT, Int.reduceLT, Int.reduceLE, Int.reduceEq]; exact Nat.zero_le _
  rintro i hi
  replace hi : i ≤ x.length := hi
  by_cases hil : i < x.length
  · have c1 := rSame_ok (nth x i).1 (nth x i).1 (hw _ (nth_mem hil)) (hw _ (nth_mem hil))
    rw [decide_eq_true rfl] at c1
    repeat' (first | with_reducible refine inw ?_ | simp (maxSteps := 900000) (disch := omega) only [go_sem, Nat.reduceEqDiff, ↓reduceIte, reduceCtorEq, Nat.reduceAdd, Nat.reduceMul, Int.reduceToNat, List.reduceReplicate, Nat.reduceLeDiff, Nat.reduceLT, Int.reduceLT, Int.reduceLE, Int.reduceEq] | (with_reducible apply call_D (c1)); (focus simp (maxSteps := 900000) (disch := omega) only [go_sem, Nat.reduceEqDiff, ↓reduceIte, reduceCtorEq, Nat.reduceAdd, Nat.reduceMul, Int.reduceToNat, List.reduceReplicate, Nat.reduceLeDiff, Nat.reduceLT, Int.reduceLT, Int.reduceLE, Int.reduceEq] <;> rfl) | with_reducible refine pickB_f ?_ | with_reducible refine giv_intro fun _h => ?_ | with_reducible refine alt_intro ?_ fun _h => ?_ | with_reducible refine pickD_nil ?_ | (with_reducible refine brc (fun _h => ?_) fun _h => ?_) <;> first | (exfalso; omega) | simp only [decide_eq_false _h] | simp only [(_h : (_ : Bool) = _)] | simp only [decide_eq_true _h] | skip)
    exact ⟨i + 1, ⟨by omega, by omega⟩, by omega⟩
  · repeat' (first | with_reducible refine inw ?_ | simp (maxSteps := 900000) (disch := omega) only [go_sem, Nat.reduceEqDiff, ↓reduceIte, reduceCtorEq, Nat.reduceAdd, Nat.reduceMul, Int.reduceToNat, List.reduceReplicate, Nat.reduceLeDiff, Nat.reduceLT, Int.reduceLT, Int.reduceLE, Int.reduceEq] | with_reducible refine pickB_f ?_ | with_reducible refine giv_intro fun _h => ?_ | with_reducible refine alt_intro ?_ fun _h => ?_ | with_reducible refine pickD_nil ?_ | (with_reducible refine brc (fun _h => ?_) fun _h => ?_) <;> first | (exfalso; omega) | simp only [decide_eq_false _h] | simp only [(_h : (_ : Bool) = _)] | simp only [decide_eq_true _h] | skip)
/-! ### either order -/
theorem sumG_asc {l : List Gram} (h : AscG l) (w : List Str) : sumG l w = valG l w := by
  induction l with
  | nil => rfl
  | cons g l ih =>
    have h2 := ih (List.pairwise_cons.1 h).2
    rw [sumG_cons, valG, h2]
    by_cases e : g.1 = w
    · rw [if_pos e, if_pos e, valG_none fun x hx => by rw [← e]; exact asc_ne h x hx]; omega
    · rw [if_neg e, if_neg e]; omega
def OkG (l : List Gram) : Prop := ∀ g ∈ l, 0 < g.2
theorem sumG_insAG {l : List Gram} (h : OkG l) (w : List Str) : sumG (insAG l) w = sumG l w := by
  obtain ⟨h1, _, h3⟩ := insAG_facts l h
  rw [sumG_asc h1, h3]
theorem insAG_ext {a b : List Gram} (ha : OkG a) (hb : OkG b) (h : ∀ w, sumG a w = sumG b w) : insAG a = insAG b := by
  obtain ⟨a1, a2, a3⟩ := insAG_facts a ha
  obtain ⟨b1, b2, b3⟩ := insAG_facts b hb
  exact asc_ext a1 b1 a2 b2 fun w => by rw [a3, b3, h]
theorem okG_app {a b : List Gram} (ha : OkG a) (hb : OkG b) : OkG (a ++ b) := fun g hg => (List.mem_append.1 hg).elim (ha g) (hb g)
theorem okG_ins {l : List Gram} (h : OkG l) : OkG (insAG l) := (insAG_facts l h).2.1
theorem ins_comm {a b : List Gram} (ha : OkG a) (hb : OkG b) : insAG (a ++ b) = insAG (b ++ a) := insAG_ext (okG_app ha hb) (okG_app hb ha) fun w => by rw [sumG_app, sumG_app]; omega
theorem ins_assoc {a b c : List Gram} (ha : OkG a) (hb : OkG b) (hc : OkG c) : insAG (insAG (a ++ b) ++ c) = insAG (a ++ insAG (b ++ c)) :=
  insAG_ext (okG_app (okG_ins (okG_app ha hb)) hc) (okG_app ha (okG_ins (okG_app hb hc))) fun w => by
    rw [sumG_app, sumG_app, sumG_insAG (okG_app ha hb), sumG_insAG (okG_app hb hc), sumG_app, sumG_app]; omega
theorem bothF_zero {a b : List Gram} : bothF a b = 0 ↔ givenF a = 0 ∧ givenF b = 0 := by
  unfold bothF
  split <;> constructor <;> intro h <;> first | exact ⟨by omega, by omega⟩ | omega
theorem fitG_comm {a b : List Gram} : fitG a b ↔ fitG b a := ⟨fun ⟨h1, h2, h3⟩ => ⟨h2, h1, Ne.symm h3⟩, fun ⟨h1, h2, h3⟩ => ⟨h2, h1, Ne.symm h3⟩⟩
/-- When two lists are put together. -/
theorem mergeT_ok {a b : List Gram} : (mergeT a b).2 = 0 ↔ givenF a = 0 ∧ givenF b = 0 ∧ ¬fitG a b ∧ largeG (insAG (a ++ b)) = false := by
  unfold mergeT
  by_cases h1 : bothF a b ≠ 0
  · rw [if_pos h1]
    exact ⟨fun h => absurd h h1, fun h => absurd (bothF_zero.2 ⟨h.1, h.2.1⟩) h1⟩
  have h1' : bothF a b = 0 := by omega
  rw [if_neg h1]
  obtain ⟨g1, g2⟩ := bothF_zero.1 h1'
  by_cases h2 : fitG a b
  · rw [if_pos h2]
    exact ⟨fun h => absurd (show (10 : Int) = 0 from h) (by decide), fun h => absurd h2 h.2.2.1⟩
  rw [if_neg h2]
  cases h3 : largeG (insAG (a ++ b)) with
  | true => simp
  | false => simp [g1, g2, h2]
theorem mergeT_val {a b : List Gram} (h : (mergeT a b).2 = 0) : (mergeT a b).1 = insAG (a ++ b) := by
  obtain ⟨g1, g2, g3, g4⟩ := mergeT_ok.1 h
  unfold mergeT
  rw [if_neg (by have := bothF_zero.2 ⟨g1, g2⟩; omega), if_neg g3, if_neg (by rw [g4]; decide)]
theorem okG_of {l : List Gram} (h : givenF l = 0) : OkG l := fun g hg => (good_words (good_of h) g hg).2.2.1
theorem merge_comm {a b : List Gram} (h : (mergeT a b).2 = 0) : (mergeT b a).2 = 0 ∧ (mergeT b a).1 = (mergeT a b).1 := by
  obtain ⟨g1, g2, g3, g4⟩ := mergeT_ok.1 h
  have e := ins_comm (okG_of g1) (okG_of g2)
  have h2 : (mergeT b a).2 = 0 := mergeT_ok.2 ⟨g2, g1, fun q => g3 (fitG_comm.1 q), by rw [← e]; exact g4⟩
  exact ⟨h2, by rw [mergeT_val h, mergeT_val h2, e]⟩
theorem anyLong_of {l : List Gram} (h : givenF l = 0) : ∀ g ∈ l, anyLong g.1 = false := fun g hg => by
  unfold givenF at h
  split at h
  · cases h
  · rename_i h1
    cases h2 : anyLong g.1 with
    | false => rfl
    | true => exact absurd (.inr (List.any_eq_true.2 ⟨g, hg, h2⟩)) h1
theorem len_first {l : List Gram} (h : givenF l = 0) : ∀ g ∈ l, g.1.length = (nth l 0).1.length := fun g hg => by
  obtain ⟨i, hi, rfl⟩ := List.getElem_of_mem hg
  rw [← nth_eq hi]
  exact ((good_of h).ws i hi).1
/-- A list that lies in order, of rows of one length, with numbers as they must be. -/
theorem given_of {l : List Gram} {k : Nat} (hl : l.length ≤ 200) (ha : AscG l) (hL : ∀ g ∈ l, anyLong g.1 = false) (hk : ∀ g ∈ l, g.1.length = k) (hk1 : 1 ≤ k ∧ k ≤ 4) (hm : ∀ g ∈ l, 1 ≤ g.2 ∧ g.2 ≤ 1000) : givenF l = 0 := by
  rw [givenF_e hl fun j hj => hL _ (nth_mem hj)]
  refine (given_0 fun j hj => ?_).symm
  have q1 := hk _ (nth_mem hj)
  have q2 := hk _ (nth_mem (show 0 < l.length by omega))
  have q3 := hm _ (nth_mem hj)
  have q4 : 0 < j → cmpL (nth l (j - 1)).1 (nth l j).1 < 0 := fun h => asc_nth ha (by omega) hj
  rw [← Bool.not_eq_true]
  simp only [badG, Bool.or_eq_true, Bool.and_eq_true, decide_eq_true_eq, Bool.not_eq_true', decide_eq_false_iff_not]
  omega
theorem merge_given {a b : List Gram} (h : (mergeT a b).2 = 0) : givenF (insAG (a ++ b)) = 0 ∧ ∀ g ∈ insAG (a ++ b), (a ≠ [] → g.1.length = (nth a 0).1.length) ∧ (b ≠ [] → g.1.length = (nth b 0).1.length) := by
  obtain ⟨g1, g2, g3, g4⟩ := mergeT_ok.1 h
  have hlen : a ≠ [] → b ≠ [] → (nth a 0).1.length = (nth b 0).1.length := fun h1 h2 => by
    have p1 := List.length_pos_iff.2 h1
    have p2 := List.length_pos_iff.2 h2
    by_cases e : (nth a 0).1.length = (nth b 0).1.length
    · exact e
    · exact absurd ⟨p1, p2, e⟩ g3
  obtain ⟨f1, f2, _⟩ := insAG_facts (a ++ b) (okG_app (okG_of g1) (okG_of g2))
  have key : ∀ g ∈ insAG (a ++ b), (a ≠ [] → g.1.length = (nth a 0).1.length) ∧ (b ≠ [] → g.1.length = (nth b 0).1.length) := fun g hg => by
    obtain ⟨x, hx, e⟩ := insAG_mem _ g hg
    rw [← e]
    rcases List.mem_append.1 hx with hx | hx
    · have hne : a ≠ [] := fun e => by rw [e] at hx; cases hx
      have q := len_first g1 x hx
      exact ⟨fun _ => q, fun hb => q.trans (hlen hne hb)⟩
    · have hne : b ≠ [] := fun e => by rw [e] at hx; cases hx
      have q := len_first g2 x hx
      exact ⟨fun ha => q.trans (hlen ha hne).symm, fun _ => q⟩
  refine ⟨?_, key⟩
  simp only [largeG, Bool.or_eq_false_iff, decide_eq_false_iff_not] at g4
  have hm : ∀ g ∈ insAG (a ++ b), 1 ≤ g.2 ∧ g.2 ≤ 1000 := fun g hg => by
    have h1 := f2 g hg
    have h2 := List.any_eq_false.1 g4.2 g hg
    simp only [decide_eq_true_eq] at h2
    omega
  have hL : ∀ g ∈ insAG (a ++ b), anyLong g.1 = false := fun g hg => by
    obtain ⟨x, hx, e⟩ := insAG_mem _ g hg
    rw [← e]
    exact (List.mem_append.1 hx).elim (anyLong_of g1 x) (anyLong_of g2 x)
  by_cases ha : a = []
  · by_cases hb : b = []
    · subst ha; subst hb
      rfl
    · have p2 := List.length_pos_iff.2 hb
      have q := good_words (good_of g2) _ (nth_mem p2)
      exact given_of (by omega) f1 hL (fun g hg => (key g hg).2 hb) ⟨q.1, q.2.1⟩ hm
  · have p2 := List.length_pos_iff.2 ha
    have q := good_words (good_of g1) _ (nth_mem p2)
    exact given_of (by omega) f1 hL (fun g hg => (key g hg).1 ha) ⟨q.1, q.2.1⟩ hm
theorem insAG_ne {l : List Gram} (h : OkG l) (hn : l ≠ []) : insAG l ≠ [] := fun e => by
  obtain ⟨_, _, h3⟩ := insAG_facts l h
  obtain ⟨g, l', rfl⟩ := List.exists_cons_of_ne_nil hn
  have := h3 g.1
  rw [e, sumG_cons, if_pos rfl] at this
  have h1 := h g List.mem_cons_self
  have h2 := (sumG_le (l := l') (M := (l'.map (·.2)).foldr max 0) (fun x hx => ⟨by have := h x (List.mem_cons_of_mem _ hx); omega, by
    have : ∀ (m : List Int) (y : Int), y ∈ m → y ≤ m.foldr max 0 := by
      intro m; induction m with
      | nil => intro y hy; cases hy
      | cons z m ih => intro y hy; rw [List.foldr_cons]; rcases List.mem_cons.1 hy with rfl | hy; omega; have := ih y hy; omega
    exact this _ _ (List.mem_map.2 ⟨x, hx, rfl⟩)⟩) g.1).1
  simp only [valG] at this
  omega
/-- Three lists. -/
theorem merge_three {a b c : List Gram} (h1 : (mergeT a b).2 = 0) (h2 : (mergeT (mergeT a b).1 c).2 = 0) (h3 : (mergeT b c).2 = 0) : (mergeT a (mergeT b c).1).2 = 0 ∧ (mergeT a (mergeT b c).1).1 = (mergeT (mergeT a b).1 c).1 := by
  rw [mergeT_val h3]
  rw [mergeT_val h1] at h2 ⊢
  obtain ⟨a1, a2, a3, a4⟩ := mergeT_ok.1 h1
  obtain ⟨b1, b2, b3, b4⟩ := mergeT_ok.1 h2
  obtain ⟨c1, c2, c3, c4⟩ := mergeT_ok.1 h3
  have ea := ins_assoc (okG_of a1) (okG_of a2) (okG_of c2)
  have key : (mergeT a (insAG (b ++ c))).2 = 0 := by
    refine mergeT_ok.2 ⟨a1, (merge_given h3).1, ?_, by rw [← ea]; exact b4⟩
    rintro ⟨q1, q2, q3⟩
    have kz := (merge_given h3).2 _ (nth_mem q2)
    have hane : a ≠ [] := fun e => by rw [e] at q1; cases q1
    by_cases hb : b = []
    · by_cases hc : c = []
      · subst hb; subst hc; exact absurd q2 (by simp [insAG])
      · have hx : insAG (a ++ b) ≠ [] := insAG_ne (okG_app (okG_of a1) (okG_of a2)) (by simp [hane])
        have p1 := List.length_pos_iff.2 hx
        have p2 := List.length_pos_iff.2 hc
        have kx := ((merge_given h1).2 _ (nth_mem p1)).1 hane
        have e2 : (nth (insAG (a ++ b)) 0).1.length = (nth c 0).1.length := by
          by_cases e : (nth (insAG (a ++ b)) 0).1.length = (nth c 0).1.length
          · exact e
          · exact absurd ⟨p1, p2, e⟩ b3
        have := kz.2 hc
        omega
    · have p2 := List.length_pos_iff.2 hb
      have e2 : (nth a 0).1.length = (nth b 0).1.length := by
        by_cases e : (nth a 0).1.length = (nth b 0).1.length
        · exact e
        · exact absurd ⟨q1, p2, e⟩ a3
      have := kz.1 hb
      omega
  exact ⟨key, by rw [mergeT_val key, mergeT_val h2, ea]⟩
theorem merge_words {a b : List Gram} : ∀ g ∈ (mergeT a b).1, ∃ x ∈ a ++ b, x.1 = g.1 := fun g hg => by
  unfold mergeT at hg
  split at hg
  · cases hg
  split at hg
  · cases hg
  split at hg
  · cases hg
  · exact insAG_mem _ g hg
end Go.Proofs.Ytedbjmonfbpefaa.Ev
