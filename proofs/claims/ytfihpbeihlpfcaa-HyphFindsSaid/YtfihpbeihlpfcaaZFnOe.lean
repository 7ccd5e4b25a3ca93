/- The levels of the places of a word, by a tree: the program. -/
import Derived.Test.YtfihpbeihlpfcaaZFnOd
set_option linter.unusedVariables false
set_option linter.unusedSimpArgs false
namespace Go.Proofs.Ytfihpbeihlpfcaa.Ev
open Go Go.Proofs

abbrev edgeS : Str := ⟨#[46]⟩
/-- Symbol i of a word with its edges; none where a symbol looks like an edge. -/
def exS (w : List Str) (i : Nat) : Option Str := if i = 0 ∨ w.length < i then some edgeS else if nth w (i - 1) = edgeS then none else some (nth w (i - 1))
def updK (o lv : List Int) (fr : Nat) : Nat → List Int
  | 0 => o
  | k + 1 => (updK o lv fr k).set (fr + k) (max (nth (updK o lv fr k) (fr + k)) (nth lv k))
theorem updK_len (o lv : List Int) (fr : Nat) : ∀ k, (updK o lv fr k).length = o.length
  | 0 => rfl
  | k + 1 => by rw [updK, List.length_set, updK_len o lv fr k]
def wkL (f : List Str → Option (List Int)) (w : List Str) (fr : Nat) : Nat → Nat → List Str → List Int → List Int
  | 0, _, _, o => o
  | n + 1, i, π, o => match exS w i with
    | none => o
    | some s => match f (π ++ [s]) with
      | none => o
      | some lv => wkL f w fr n (i + 1) (π ++ [s]) (updK o lv fr lv.length)
def outF (f : List Str → Option (List Int)) (w : List Str) : Nat → List Int
  | 0 => List.replicate 63 0
  | n + 1 => wkL f w n (w.length + 2 - n) n [] (outF f w n)
theorem wkL_len (f : List Str → Option (List Int)) (w : List Str) (fr : Nat) : ∀ (n i : Nat) (π : List Str) (o : List Int), (wkL f w fr n i π o).length = o.length
  | 0, _, _, _ => rfl
  | n + 1, i, π, o => by
    rw [wkL]
    split
    · rfl
    · split
      · rfl
      · rw [wkL_len f w fr n, updK_len]
theorem outF_len (f : List Str → Option (List Int)) (w : List Str) : ∀ n, (outF f w n).length = 63
  | 0 => by rw [outF, List.length_replicate]
  | n + 1 => by rw [outF, wkL_len, outF_len f w n]
def lvlsF (f : List Str → Option (List Int)) (w : List Str) : List Int := ((outF f w (w.length + 2)).drop 1).take (w.length + 1)
def findK (es : List (Str × AV)) (s : Str) : Option AV := (es.find? fun e => decide (e.1 = s)).map (·.2)
theorem findE_K (s : Str) : ∀ (es : List (Str × AV)), findE ((es.map fun e => Value.string e.1).zip (es.map (·.2))) (.string s) = findK es s
  | [] => rfl
  | (k, b) :: es => by
    have ih := findE_K s es
    have hk : keyEq (.string s) (.string k) = decide (s = k) := Key.eq (self := keyStr) s k
    simp only [List.map_cons, List.zip_cons_cons, findE, hk, decide_eq_true_eq] at ih ⊢
    unfold findK at ih ⊢
    rw [List.find?_cons]
    by_cases e : s = k
    · subst e; simp
    · rw [if_neg e, ih]
      have : decide (k = s) = false := decide_eq_false (fun h => e h.symm)
      simp only [this]
theorem keysOk_K (es : List (Str × AV)) : keysOk .str ((es.map fun e => Value.string e.1).zip (es.map (·.2))) = true := by
  simp only [keysOk, List.all_eq_true]
  intro x hx
  obtain ⟨a, b, rfl⟩ : ∃ a b, x = (a, b) := ⟨_, _, rfl⟩
  obtain ⟨p, _, rfl⟩ := List.mem_map.1 (List.of_mem_zip hx).1
  rfl
/-- What a node that is read only gives. -/
theorem NodeA.look {f : List Str → Option (List Int)} {r : AV} (h : NodeA f r) : ∃ x lv es, r = .rop [x, sl lv] ∧ f [] = some lv ∧ (∀ S, mapOf S x = some es) ∧ keysOk .str es = true ∧
    ∀ s, (findE es (.string s) = none ∧ ∀ π, f (s :: π) = none) ∨ ∃ y, findE es (.string s) = some y ∧ NodeA (fun π => f (s :: π)) y := by
  cases h with
  | mk hx h0 h1 h2 =>
    rename_i x es lv
    have key : ∀ s, (findK es s = none ∧ ∀ π, f (s :: π) = none) ∨ ∃ y, findK es s = some y ∧ NodeA (fun π => f (s :: π)) y := fun s => by
      cases hf : es.find? (fun e => decide (e.1 = s)) with
      | none =>
        left
        refine ⟨by unfold findK; rw [hf]; rfl, h2 s fun e he hes => ?_⟩
        have := List.find?_eq_none.1 hf e he
        simp [hes] at this
      | some e =>
        right
        have he := List.mem_of_find?_eq_some hf
        have hes := List.find?_some hf
        simp only [decide_eq_true_eq] at hes
        exact ⟨e.2, by unfold findK; rw [hf]; rfl, hes ▸ h1 e he⟩
    rcases hx with ⟨rfl, rfl⟩ | rfl
    · exact ⟨_, lv, [], rfl, h0, fun S => rfl, rfl, key⟩
    · exact ⟨_, lv, _, rfl, h0, fun S => rfl, keysOk_K es, fun s => by rw [findE_K]; exact key s⟩
theorem getZ_some (z : Value) (a : AV) : getZ z (some a) = a := rfl
/-- slices.Clone[[]int,int]: 1 parameters, 0 captured -/
def s63 : SC := .seq (.reg [o1 2 (.mv (.c (.slice none 0 0)))])
  (.seq (.seq (.reg [o1 3 (.mv (.t 0)),
     o1 4 (.eq false .slice (.t 3) (.c (.slice none 0 0)))])
    (.cond (.t 4) (.seq (.reg [o1 2 (.mv (.c (.slice none 0 0)))])
      (.ret)) (.skip)))
   (.seq (.reg [o1 5 (.buildSl 3 1 0 [(.int .i64 0)] []),
     o1 6 (.mv (.t 0)),
     o1 7 (.app 3 1 8 (.t 5) (.t 6)),
     o1 2 (.mv (.t 7))])
    (.ret)))
theorem s63_ok : lookF Try.prog 63 = some (s63, 8, [.tmp 2]) := by kernel_rfl
theorem cloneI_ok (l : List Int) (hl : l.length ≤ 8796093022208) : Fn P 63 [sl l] (sl l) := by
  (refine fn_look s63_ok (by simp) (by intro k; simp only [go_sem, Nat.reduceEqDiff, ↓reduceIte, reduceCtorEq, Nat.reduceAdd, Nat.reduceMul, Int.reduceToNat, List.reduceReplicate, Nat.reduceLeDiff, Nat.reduceLT, Int.reduceLT, Int.reduceLE, Int.reduceEq]) fun S hS => cwp_sound _ _ _ _ ?_; simp (maxSteps := 900000) (disch := omega) only [s63, go_sem, Nat.reduceEqDiff, ↓reduceIte, reduceCtorEq, Nat.reduceAdd, Nat.reduceMul, Int.reduceToNat, List.reduceReplicate, Nat.reduceLeDiff, Nat.reduceLT, Int.reduceLT, Int.reduceLE, Int.reduceEq])
  repeat' (first | with_reducible refine inw ?_ | simp (maxSteps := 900000) (disch := omega) only [go_sem, Nat.reduceEqDiff, ↓reduceIte, reduceCtorEq, Nat.reduceAdd, Nat.reduceMul, Int.reduceToNat, List.reduceReplicate, Nat.reduceLeDiff, Nat.reduceLT, Int.reduceLT, Int.reduceLE, Int.reduceEq] | with_reducible refine pickB_f ?_ | with_reducible refine giv_intro fun _h => ?_ | with_reducible refine alt_intro ?_ fun _h => ?_ | with_reducible refine pickD_nil ?_ | (with_reducible refine brc (fun _h => ?_) fun _h => ?_) <;> first | (exfalso; omega) | simp only [decide_eq_false _h] | simp only [(_h : (_ : Bool) = _)] | simp only [decide_eq_true _h] | skip)
  rw [List.eq_nil_of_length_eq_zero _h]; rfl
theorem head_dropC1 (l : List Int) (j : Nat) : List.drop j (cellsL l) = cellsL (l.drop j) := by have := cellsL_drop l j; rwa [Nat.mul_one] at this
theorem takeC1 (l : List Int) (j : Nat) : List.take j (cellsL l) = cellsL (l.take j) := by
  have := cellsL_take l j; rwa [Nat.mul_one] at this
/-- (*ablaut/hyph.node).levels1: 2 parameters, 0 captured -/
def s39 : SC := .seq (.reg [o1 4 (.mv (.c (.slice none 0 0)))])
  (.seq (.reg [o1 5 (.alloc 95 63 [(.int .i64 0), (.int .i64 0), (.int .i64 0), (.int .i64 0), (.int .i64 0), (.int .i64 0), (.int .i64 0), (.int .i64 0), (.int .i64 0), (.int .i64 0), (.int .i64 0), (.int .i64 0), (.int .i64 0), (.int .i64 0), (.int .i64 0), (.int .i64 0), (.int .i64 0), (.int .i64 0), (.int .i64 0), (.int .i64 0), (.int .i64 0), (.int .i64 0), (.int .i64 0), (.int .i64 0), (.int .i64 0), (.int .i64 0), (.int .i64 0), (.int .i64 0), (.int .i64 0), (.int .i64 0), (.int .i64 0), (.int .i64 0), (.int .i64 0), (.int .i64 0), (.int .i64 0), (.int .i64 0), (.int .i64 0), (.int .i64 0), (.int .i64 0), (.int .i64 0), (.int .i64 0), (.int .i64 0), (.int .i64 0), (.int .i64 0), (.int .i64 0), (.int .i64 0), (.int .i64 0), (.int .i64 0), (.int .i64 0), (.int .i64 0), (.int .i64 0), (.int .i64 0), (.int .i64 0), (.int .i64 0), (.int .i64 0), (.int .i64 0), (.int .i64 0), (.int .i64 0), (.int .i64 0), (.int .i64 0), (.int .i64 0), (.int .i64 0), (.int .i64 0)])])
   (.seq (.reg [o1 13 (.mv (.t 1)),
     o1 14 (.lenL (.t 13)),
     o1 15 (.bin .add (.t 14) (cI 2)),
     o1 6 (.mv (.t 15))])
    (.seq (.seq (.reg [o1 16 (.mv (.t 6)),
       o1 17 (.mv (cI 0))])
      (.block 0 (.loop (.seq (.reg [o1 18 (.bin .lss (.t 17) (.t 16))])
         (.seq (.cond (.t 18) (.skip) (.exit 0))
          (.seq (.block 1 (.seq (.reg [o1 19 (.mv (.t 17)),
              o1 7 (.mv (.t 19))])
             (.seq (.reg [o1 20 (.mv (.t 0)),
               o1 8 (.mv (.t 20))])
              (.seq (.reg [o1 21 (.mv (.t 7)),
                o1 9 (.mv (.t 21))])
               (.block 2 (.loop (.seq (.seq (.reg [o1 22 (.mv (.t 9)),
                    o1 23 (.mv (.t 6)),
                    o1 24 (.bin .lss (.t 22) (.t 23)),
                    o1 25 (.mv (.t 24)),
                    oT 26 (.mv (.t 8)) 25,
                    oT 27 (.eq true .ptr (.t 26) (.c (.pointer none))) 25,
                    o1 28 (.pick (.t 25) (.t 27) (cB false))])
                   (.cond (.t 28) (.skip) (.exit 2)))
                  (.seq (.block 3 (.seq (.reg [o1 10 (.mv (.c (.string ⟨#[46]⟩)))])
                     (.seq (.seq (.reg [o1 31 (.mv (.t 9)),
                        o1 32 (.bin .gtr (.t 31) (cI 0)),
                        o1 33 (.mv (.t 32)),
                        oT 34 (.mv (.t 9)) 33,
                        oT 35 (.mv (.t 6)) 33,
                        oT 36 (.bin .sub (.t 35) (cI 1)) 33,
                        oT 37 (.bin .lss (.t 34) (.t 36)) 33,
                        o1 38 (.pick (.t 33) (.t 37) (cB false))])
                       (.cond (.t 38) (.seq (.reg [o1 39 (.mv (.t 1)),
                          o1 40 (.mv (.t 9)),
                          o1 41 (.bin .sub (.t 40) (cI 1)),
                          o1 42 (.iaddr 1 (.t 39) (.t 41)),
                          o1 43 (.load none (.t 42)),
                          o1 10 (.mv (.t 43))])
                         (.seq (.reg [o1 44 (.mv (.t 10)),
                           o1 45 (.bin .eql (.t 44) (.c (.string ⟨#[46]⟩)))])
                          (.cond (.t 45) (.exit 2) (.skip)))) (.skip)))
                      (.seq (.seq (.reg [o1 46 (.mv (.t 8)),
                         o1 47 (.nilck (.t 46)),
                         o1 48 (.faddr 0 (.t 47)),
                         o1 49 (.load none (.t 48)),
                         o1 50 (.mv (.t 10)),
                         o1 51 (.look .str (.pointer none) false (.t 49) (.t 50)),
                         o1 8 (.mv (.t 51))])
                        (.seq (.reg [o1 52 (.mv (.t 8)),
                          o1 53 (.eq false .ptr (.t 52) (.c (.pointer none)))])
                         (.cond (.t 53) (.exit 2) (.skip))))
                       (.seq (.reg [o1 54 (.mv (.t 8)),
                         o1 55 (.nilck (.t 54)),
                         o1 56 (.faddr 1 (.t 55)),
                         o1 57 (.load none (.t 56)),
                         o1 58 (.lenL (.t 57)),
                         o1 59 (.mv (cI 0))])
                        (.block 4 (.loop (.seq (.reg [o1 60 (.bin .lss (.t 59) (.t 58))])
                           (.seq (.cond (.t 60) (.skip) (.exit 4))
                            (.seq (.block 5 (.seq (.reg [o1 61 (.mv (.t 59)),
                                o1 62 (.iaddr 1 (.t 57) (.t 59)),
                                o1 63 (.load none (.t 62)),
                                o1 11 (.mv (.t 61)),
                                o1 12 (.mv (.t 63))])
                               (.reg [o1 64 (.mv (.t 7)),
                                o1 65 (.mv (.t 11)),
                                o1 66 (.bin .add (.t 64) (.t 65)),
                                o1 67 (.mv (.t 7)),
                                o1 68 (.mv (.t 11)),
                                o1 69 (.bin .add (.t 67) (.t 68)),
                                o1 70 (.iaddrA 63 1 (.t 5) (.t 69)),
                                o1 71 (.load none (.t 70)),
                                o1 72 (.mv (.t 12)),
                                o1 73 (.max (.t 71) (.t 72)),
                                o1 74 (.iaddrA 63 1 (.t 5) (.t 66)),
                                o0 (.store 1 (.t 74) (.t 73))])))
                             (.reg [o1 75 (.bin .add (.t 59) (cI 1)),
                              o1 59 (.mv (.t 75))])))))))))))
                   (.reg [o1 29 (.mv (.t 9)),
                    o1 30 (.bin .add (.t 29) (cI 1)),
                    o1 9 (.mv (.t 30))])))))))))
           (.reg [o1 76 (.bin .add (.t 17) (cI 1)),
            o1 17 (.mv (.t 76))])))))))
     (.seq (.reg [o1 77 (.mv (.t 1)),
       o1 78 (.lenL (.t 77)),
       o1 79 (.bin .add (.t 78) (cI 2)),
       o1 80 (.slA 63 1 (.t 5) (some (cI 1)) (some (.t 79))),
       o1 81 (.call (.f 63) [(.t 80)]),
       o1 4 (.mv (.t 81))])
      (.ret)))))
theorem s39_ok : lookF Try.prog 39 = some (s39, 82, [.tmp 4]) := by kernel_rfl
set_option maxHeartbeats 1000000 in
set_option maxRecDepth 10000 in
theorem levels1_ok (f : List Str → Option (List Int)) (r : AV) (w : List Str) (hr : NodeA f r) (hw : w.length ≤ 60) (hf : ∀ π lv, f π = some lv → lv.length ≤ π.length + 1) : Fn P 39 [r, sl w] (sl (lvlsF f w)) := by
  obtain ⟨cs, rfl⟩ := hr.rop
  have hcb : ∀ k, bels k cs := fun k => by have := hr.bel k; simpa only [AV.bel] using this
  (refine fn_look s39_ok (by simp) (by intro k; simp only [go_sem, Nat.reduceEqDiff, ↓reduceIte, reduceCtorEq, Nat.reduceAdd, Nat.reduceMul, Int.reduceToNat, List.reduceReplicate, Nat.reduceLeDiff, Nat.reduceLT, Int.reduceLT, Int.reduceLE, Int.reduceEq]) fun S hS => cwp_sound _ _ _ _ ?_; simp (maxSteps := 900000) (disch := omega) only [s39, go_sem, Nat.reduceEqDiff, ↓reduceIte, reduceCtorEq, Nat.reduceAdd, Nat.reduceMul, Int.reduceToNat, List.reduceReplicate, Nat.reduceLeDiff, Nat.reduceLT, Int.reduceLT, Int.reduceLE, Int.reduceEq])
  repeat' (first | with_reducible refine inw ?_ | simp (maxSteps := 900000) (disch := omega) only [go_sem, Nat.reduceEqDiff, ↓reduceIte, reduceCtorEq, Nat.reduceAdd, Nat.reduceMul, Int.reduceToNat, List.reduceReplicate, Nat.reduceLeDiff, Nat.reduceLT, Int.reduceLT, Int.reduceLE, Int.reduceEq] | with_reducible refine pickB_f ?_ | with_reducible refine giv_intro fun _h => ?_ | with_reducible refine alt_intro ?_ fun _h => ?_ | with_reducible refine pickD_nil ?_ | (with_reducible refine brc (fun _h => ?_) fun _h => ?_) <;> first | (exfalso; omega) | simp only [decide_eq_false _h] | simp only [(_h : (_ : Bool) = _)] | simp only [decide_eq_true _h] | skip)
  (refine loopC hS [0, 1, 5, 6, 16] (by simp only [go_sem, Nat.reduceEqDiff, ↓reduceIte, reduceCtorEq, Nat.reduceAdd, Nat.reduceMul, Int.reduceToNat, List.reduceReplicate, Nat.reduceLeDiff, Nat.reduceLT, Int.reduceLT, Int.reduceLE, Int.reduceEq]; try rfl) (fun (n : Nat) => [(17, intA n)]) (fun (n : Nat) => [some (.row 95 63 (cellsL (outF f w n)))]) (fun (n : Nat) => n ≤ w.length + 2) (fun (n : Nat) => w.length + 2 - n) (0) ?_ (by intro s; first | (simp only [List.length_cons, List.length_nil]; done) | rfl | (rcases s with ⟨_, _⟩; rfl) | (rcases s with ⟨_, _, _⟩; rfl) | (rcases s with ⟨_, _, _, _⟩; rfl) | (rcases s with ⟨_, _, _, _, _⟩; rfl)) ?_)
  · simp (maxSteps := 900000) (disch := omega) only [go_sem, Nat.reduceEqDiff, ↓reduceIte, reduceCtorEq, Nat.reduceAdd, Nat.reduceMul, Int.reduceToNat, List.reduceReplicate, Nat.reduceLeDiff, Nat.reduceLT, Int.reduceLT, Int.reduceLE, Int.reduceEq]
    rfl
  rintro n hn
  replace hn : n ≤ w.length + 2 := hn
  have hol := outF_len f w n
  by_cases hnl : n < w.length + 2
  · have hst : outF f w (n + 1) = wkL f w n (w.length + 2 - n) n [] (outF f w n) := rfl
    generalize hF2 : outF f w (n + 1) = F2 at *
    generalize outF f w n = o0 at *
    repeat' (first | with_reducible refine inw ?_ | simp (maxSteps := 900000) (disch := omega) only [go_sem, Nat.reduceEqDiff, ↓reduceIte, reduceCtorEq, Nat.reduceAdd, Nat.reduceMul, Int.reduceToNat, List.reduceReplicate, Nat.reduceLeDiff, Nat.reduceLT, Int.reduceLT, Int.reduceLE, Int.reduceEq] | with_reducible refine pickB_f ?_ | with_reducible refine giv_intro fun _h => ?_ | with_reducible refine alt_intro ?_ fun _h => ?_ | with_reducible refine pickD_nil ?_ | (with_reducible refine brc (fun _h => ?_) fun _h => ?_) <;> first | (exfalso; omega) | simp only [decide_eq_false _h] | simp only [(_h : (_ : Bool) = _)] | simp only [decide_eq_true _h] | skip)
    (refine loopC hS [0, 1, 5, 6, 7, 16, 17] (by simp only [go_sem, Nat.reduceEqDiff, ↓reduceIte, reduceCtorEq, Nat.reduceAdd, Nat.reduceMul, Int.reduceToNat, List.reduceReplicate, Nat.reduceLeDiff, Nat.reduceLT, Int.reduceLT, Int.reduceLE, Int.reduceEq]; try rfl) (fun (⟨i, π, at', o⟩ : Nat × List Str × AV × List Int) => [(8, at'), (9, intA i)]) (fun (⟨i, π, at', o⟩ : Nat × List Str × AV × List Int) => [some (.row 95 63 (cellsL o))]) (fun (⟨i, π, at', o⟩ : Nat × List Str × AV × List Int) => n ≤ i ∧ i ≤ w.length + 2 ∧ π.length = i - n ∧ NodeA (fun ρ => f (π ++ ρ)) at' ∧ o.length = 63 ∧ wkL f w n (w.length + 2 - i) i π o = F2) (fun (⟨i, π, at', o⟩ : Nat × List Str × AV × List Int) => w.length + 2 - i) ((n, [], .rop cs, o0)) ?_ (by intro s; first | (simp only [List.length_cons, List.length_nil]; done) | rfl | (rcases s with ⟨_, _⟩; rfl) | (rcases s with ⟨_, _, _⟩; rfl) | (rcases s with ⟨_, _, _, _⟩; rfl) | (rcases s with ⟨_, _, _, _, _⟩; rfl)) ?_)
    · simp (maxSteps := 900000) (disch := omega) only [go_sem, Nat.reduceEqDiff, ↓reduceIte, reduceCtorEq, Nat.reduceAdd, Nat.reduceMul, Int.reduceToNat, List.reduceReplicate, Nat.reduceLeDiff, Nat.reduceLT, Int.reduceLT, Int.reduceLE, Int.reduceEq]
      exact ⟨by omega, by omega, hr, hol, hst.symm⟩
    rintro ⟨i, π, at', o⟩ ⟨hi1, hi2, hπ, hN, hoL, hF⟩
    replace hi1 : n ≤ i := hi1
    replace hi2 : i ≤ w.length + 2 := hi2
    replace hπ : π.length = i - n := hπ
    replace hN : NodeA (fun ρ => f (π ++ ρ)) at' := hN
    replace hoL : o.length = 63 := hoL
    replace hF : wkL f w n (w.length + 2 - i) i π o = F2 := hF
    clear hst
    obtain ⟨x, lv, es, rfl, _, hmo, hko, hlk⟩ := hN.look
    by_cases hil : i < w.length + 2
    · obtain ⟨q, hq⟩ : ∃ q, w.length + 2 - i = q + 1 := ⟨w.length + 1 - i, by omega⟩
      rw [hq, wkL] at hF
      cases hx : exS w i with
      | none =>
        rw [hx] at hF
        have hx2 : 0 < i ∧ i ≤ w.length ∧ nth w (i - 1) = edgeS := by
          unfold exS at hx
          split at hx
          · cases hx
          · split at hx
            · rename_i e1 e2; exact ⟨by omega, by omega, e2⟩
            · cases hx
        obtain ⟨g1, g2, g3⟩ := hx2
        have e1 : ((i : Int) - 1).toNat = i - 1 := by omega
        repeat' (first | with_reducible refine inw ?_ | simp (maxSteps := 900000) (disch := omega) only [go_sem, Nat.reduceEqDiff, ↓reduceIte, reduceCtorEq, Nat.reduceAdd, Nat.reduceMul, Int.reduceToNat, List.reduceReplicate, Nat.reduceLeDiff, Nat.reduceLT, Int.reduceLT, Int.reduceLE, Int.reduceEq, e1, g3] | with_reducible refine pickB_f ?_ | with_reducible refine giv_intro fun _h => ?_ | with_reducible refine alt_intro ?_ fun _h => ?_ | with_reducible refine pickD_nil ?_ | (with_reducible refine brc (fun _h => ?_) fun _h => ?_) <;> first | (exfalso; omega) | simp only [decide_eq_false _h] | simp only [(_h : (_ : Bool) = _)] | simp only [decide_eq_true _h] | skip)
        exact ⟨n + 1, ⟨by omega, by omega⟩, by omega, hcb _, by rw [hF2, ← hF]⟩
      | some s =>
        rw [hx] at hF
        dsimp only at hF
        have hx2 : ((i = 0 ∨ w.length < i) ∧ s = edgeS) ∨ (0 < i ∧ i ≤ w.length ∧ nth w (i - 1) ≠ edgeS ∧ s = nth w (i - 1)) := by
          unfold exS at hx
          split at hx
          · rename_i e1; cases hx; exact .inl ⟨e1, rfl⟩
          · split at hx
            · cases hx
            · rename_i e1 e2; cases hx; exact .inr ⟨by omega, by omega, e2, rfl⟩
        have e1 : ((i : Int) - 1).toNat = i - 1 := by omega
        rcases hlk s with ⟨k1, k2⟩ | ⟨y, k1, hN2⟩
        · have k3 := k2 []
          rw [k3] at hF
          dsimp only at hF
          rcases hx2 with ⟨g1, rfl⟩ | ⟨g1, g2, g3, rfl⟩
          case' inl => repeat' (first | with_reducible refine inw ?_ | simp (maxSteps := 900000) (disch := omega) only [go_sem, Nat.reduceEqDiff, ↓reduceIte, reduceCtorEq, Nat.reduceAdd, Nat.reduceMul, Int.reduceToNat, List.reduceReplicate, Nat.reduceLeDiff, Nat.reduceLT, Int.reduceLT, Int.reduceLE, Int.reduceEq, e1, hmo, hko, k1, getZ_pn] | with_reducible refine pickB_f ?_ | with_reducible refine giv_intro fun _h => ?_ | with_reducible refine alt_intro ?_ fun _h => ?_ | with_reducible refine pickD_nil ?_ | (with_reducible refine brc (fun _h => ?_) fun _h => ?_) <;> first | (exfalso; omega) | simp only [decide_eq_false _h] | simp only [(_h : (_ : Bool) = _)] | simp only [decide_eq_true _h] | skip)
          case' inr => repeat' (first | with_reducible refine inw ?_ | simp (maxSteps := 900000) (disch := omega) only [go_sem, Nat.reduceEqDiff, ↓reduceIte, reduceCtorEq, Nat.reduceAdd, Nat.reduceMul, Int.reduceToNat, List.reduceReplicate, Nat.reduceLeDiff, Nat.reduceLT, Int.reduceLT, Int.reduceLE, Int.reduceEq, e1, hmo, hko, k1, getZ_pn] | with_reducible refine pickB_f ?_ | with_reducible refine giv_intro fun _h => ?_ | with_reducible refine alt_intro ?_ fun _h => ?_ | with_reducible refine pickD_nil ?_ | (with_reducible refine brc (fun _h => ?_) fun _h => ?_) <;> first | (exfalso; omega) | simp only [decide_eq_false _h] | simp only [(_h : (_ : Bool) = _)] | simp only [decide_eq_true _h] | skip)
          all_goals exact ⟨n + 1, ⟨by omega, by omega⟩, by omega, hcb _, by rw [hF2, ← hF]⟩
        · have hyb := hN2.bel
          obtain ⟨x', lv', es', rfl, k3, _⟩ := hN2.look
          have hyb2 : ∀ k, x'.bel k := fun k => by have := hyb k; simp only [AV.bel, bels] at this; exact this.1
          rw [k3] at hF
          dsimp only at hF
          have hll := hf _ _ k3
          rw [List.length_append, List.length_singleton, hπ] at hll
          obtain ⟨sy, hsy⟩ : ∃ sy, sy = s := ⟨_, rfl⟩
          have hNy : NodeA (fun ρ => f ((π ++ [sy]) ++ ρ)) (.rop [x', sl lv']) := by
            rw [hsy]
            have : (fun ρ => f ((π ++ [s]) ++ ρ)) = fun ρ => f (π ++ s :: ρ) := by funext ρ; rw [List.append_assoc]; rfl
            rw [this]; exact hN2
          rw [← hsy] at hF
          rcases hx2 with ⟨g1, rfl⟩ | ⟨g1, g2, g3, rfl⟩
          case' inl => repeat' (first | with_reducible refine inw ?_ | simp (maxSteps := 900000) (disch := omega) only [go_sem, Nat.reduceEqDiff, ↓reduceIte, reduceCtorEq, Nat.reduceAdd, Nat.reduceMul, Int.reduceToNat, List.reduceReplicate, Nat.reduceLeDiff, Nat.reduceLT, Int.reduceLT, Int.reduceLE, Int.reduceEq, e1, hmo, hko, k1, getZ_pn, getZ_some] | with_reducible refine pickB_f ?_ | with_reducible refine giv_intro fun _h => ?_ | with_reducible refine alt_intro ?_ fun _h => ?_ | with_reducible refine pickD_nil ?_ | (with_reducible refine brc (fun _h => ?_) fun _h => ?_) <;> first | (exfalso; omega) | simp only [decide_eq_false _h] | simp only [(_h : (_ : Bool) = _)] | simp only [decide_eq_true _h] | skip)
          case' inr => repeat' (first | with_reducible refine inw ?_ | simp (maxSteps := 900000) (disch := omega) only [go_sem, Nat.reduceEqDiff, ↓reduceIte, reduceCtorEq, Nat.reduceAdd, Nat.reduceMul, Int.reduceToNat, List.reduceReplicate, Nat.reduceLeDiff, Nat.reduceLT, Int.reduceLT, Int.reduceLE, Int.reduceEq, e1, hmo, hko, k1, getZ_pn, getZ_some] | with_reducible refine pickB_f ?_ | with_reducible refine giv_intro fun _h => ?_ | with_reducible refine alt_intro ?_ fun _h => ?_ | with_reducible refine pickD_nil ?_ | (with_reducible refine brc (fun _h => ?_) fun _h => ?_) <;> first | (exfalso; omega) | simp only [decide_eq_false _h] | simp only [(_h : (_ : Bool) = _)] | simp only [decide_eq_true _h] | skip)
          all_goals try (exfalso; exact g3 (by assumption))
          all_goals
            (refine loopC hS [0, 1, 5, 6, 7, 8, 9, 16, 17, 57, 58] (by simp only [go_sem, Nat.reduceEqDiff, ↓reduceIte, reduceCtorEq, Nat.reduceAdd, Nat.reduceMul, Int.reduceToNat, List.reduceReplicate, Nat.reduceLeDiff, Nat.reduceLT, Int.reduceLT, Int.reduceLE, Int.reduceEq]; try rfl) (fun (k : Nat) => [(59, intA k)]) (fun (k : Nat) => [some (.row 95 63 (cellsL (updK o lv' n k)))]) (fun (k : Nat) => k ≤ lv'.length) (fun (k : Nat) => lv'.length - k) (0) ?_ (by intro s; first | (simp only [List.length_cons, List.length_nil]; done) | rfl | (rcases s with ⟨_, _⟩; rfl) | (rcases s with ⟨_, _, _⟩; rfl) | (rcases s with ⟨_, _, _, _⟩; rfl) | (rcases s with ⟨_, _, _, _, _⟩; rfl)) ?_)
            · simp (maxSteps := 900000) (disch := omega) only [go_sem, Nat.reduceEqDiff, ↓reduceIte, reduceCtorEq, Nat.reduceAdd, Nat.reduceMul, Int.reduceToNat, List.reduceReplicate, Nat.reduceLeDiff, Nat.reduceLT, Int.reduceLT, Int.reduceLE, Int.reduceEq]
              exact ⟨Nat.zero_le _, rfl⟩
            rintro k hk
            replace hk : k ≤ lv'.length := hk
            have hul := updK_len o lv' n k
            by_cases hkl : k < lv'.length
            · have hst2 : updK o lv' n (k + 1) = (updK o lv' n k).set (n + k) (max (nth (updK o lv' n k) (n + k)) (nth lv' k)) := rfl
              have e2 : ((n : Int) + k).toNat = n + k := by omega
              generalize updK o lv' n k = u at *
              have hR : ∀ R, rowAt (some (.row 95 63 (cellsL u)) :: R) 0 63 = some (95, 63, cellsL u) := fun R => by rw [rowAt_zero, if_pos (by rw [cellsL_len]; omega)]
              repeat' (first | with_reducible refine inw ?_ | simp (maxSteps := 900000) (disch := omega) only [go_sem, Nat.reduceEqDiff, ↓reduceIte, reduceCtorEq, Nat.reduceAdd, Nat.reduceMul, Int.reduceToNat, List.reduceReplicate, Nat.reduceLeDiff, Nat.reduceLT, Int.reduceLT, Int.reduceLE, Int.reduceEq, e2, hR] | with_reducible refine pickB_f ?_ | with_reducible refine giv_intro fun _h => ?_ | with_reducible refine alt_intro ?_ fun _h => ?_ | with_reducible refine pickD_nil ?_ | (with_reducible refine brc (fun _h => ?_) fun _h => ?_) <;> first | (exfalso; omega) | simp only [decide_eq_false _h] | simp only [(_h : (_ : Bool) = _)] | simp only [decide_eq_true _h] | skip)
              refine ⟨k + 1, ⟨by omega, by omega⟩, by omega, ⟨hcb _, hyb2 _⟩, ?_⟩
              rw [hst2, List.set_eq_take_append_cons_drop, if_pos (by omega)]
              all_goals simp
            · obtain rfl : k = lv'.length := by omega
              repeat' (first | with_reducible refine inw ?_ | simp (maxSteps := 900000) (disch := omega) only [go_sem, Nat.reduceEqDiff, ↓reduceIte, reduceCtorEq, Nat.reduceAdd, Nat.reduceMul, Int.reduceToNat, List.reduceReplicate, Nat.reduceLeDiff, Nat.reduceLT, Int.reduceLT, Int.reduceLE, Int.reduceEq] | with_reducible refine pickB_f ?_ | with_reducible refine giv_intro fun _h => ?_ | with_reducible refine alt_intro ?_ fun _h => ?_ | with_reducible refine pickD_nil ?_ | (with_reducible refine brc (fun _h => ?_) fun _h => ?_) <;> first | (exfalso; omega) | simp only [decide_eq_false _h] | simp only [(_h : (_ : Bool) = _)] | simp only [decide_eq_true _h] | skip)
              refine ⟨(i + 1, π ++ [sy], .rop [x', sl lv'], updK o lv' n lv'.length), ⟨by dsimp only; omega, by dsimp only; omega, by dsimp only; omega, by dsimp only; rw [List.length_append, List.length_singleton]; omega, hNy, hul.trans hoL, ?_⟩, ⟨.inl rfl, by dsimp only; omega⟩, ⟨hcb _, hyb _⟩, rfl⟩
              dsimp only
              rw [show w.length + 2 - (i + 1) = q by omega]
              exact hF
    · have hie : i = w.length + 2 := by omega
      rw [show w.length + 2 - i = 0 by omega, wkL] at hF
      repeat' (first | with_reducible refine inw ?_ | simp (maxSteps := 900000) (disch := omega) only [go_sem, Nat.reduceEqDiff, ↓reduceIte, reduceCtorEq, Nat.reduceAdd, Nat.reduceMul, Int.reduceToNat, List.reduceReplicate, Nat.reduceLeDiff, Nat.reduceLT, Int.reduceLT, Int.reduceLE, Int.reduceEq] | with_reducible refine pickB_f ?_ | with_reducible refine giv_intro fun _h => ?_ | with_reducible refine alt_intro ?_ fun _h => ?_ | with_reducible refine pickD_nil ?_ | (with_reducible refine brc (fun _h => ?_) fun _h => ?_) <;> first | (exfalso; omega) | simp only [decide_eq_false _h] | simp only [(_h : (_ : Bool) = _)] | simp only [decide_eq_true _h] | skip)
      exact ⟨n + 1, ⟨by omega, by omega⟩, by omega, hcb _, by rw [hF2, ← hF]⟩
  · obtain rfl : n = w.length + 2 := by omega
    refine rekeyRow (tot := 63) (off := 0) 5 0 95 63 1 (by simp (maxSteps := 900000) (disch := omega) only [go_sem, Nat.reduceEqDiff, ↓reduceIte, reduceCtorEq, Nat.reduceAdd, Nat.reduceMul, Int.reduceToNat, List.reduceReplicate, Nat.reduceLeDiff, Nat.reduceLT, Int.reduceLT, Int.reduceLE, Int.reduceEq]) rfl ?_
    simp only [List.set_cons_zero, List.cons_append, List.nil_append, List.length_cons, List.length_nil, Nat.zero_add]
    have e1 : ((w.length : Int) + 2).toNat - 1 = w.length + 1 := by omega
    have c1 := cloneI_ok (lvlsF f w) (by rw [lvlsF, List.length_take]; omega)
    generalize hO : outF f w (w.length + 2) = O at *
    have hlv : lvlsF f w = (O.drop 1).take (w.length + 1) := by rw [lvlsF, hO]
    have hll : (lvlsF f w).length = w.length + 1 := by rw [hlv, List.length_take, List.length_drop]; omega
    have hc : List.take (w.length + 1) (List.drop 1 (cellsL O)) = cellsL (lvlsF f w) := by rw [hlv, head_dropC1, takeC1]
    have hR : ∀ R, rowAt (none :: some (.row 95 1 (cellsL O)) :: R) 1 63 = some (95, 1, cellsL O) := fun R => by rw [rowAt_succ, rowAt_zero, if_pos (by rw [cellsL_len]; omega)]
    have hS2 : ∀ D S d, seenRow (some (95, 1, cellsL O)) 1 (w.length + 1) 63 (seen D S d) = sl (lvlsF f w) := fun D S d => by
      simp only [seenRow, Nat.mul_one]
      rw [if_pos (by omega), hc, seen_cellsL, ← hll]
    repeat' (first | with_reducible refine inw ?_ | simp (maxSteps := 900000) (disch := omega) only [go_sem, Nat.reduceEqDiff, ↓reduceIte, reduceCtorEq, Nat.reduceAdd, Nat.reduceMul, Int.reduceToNat, List.reduceReplicate, Nat.reduceLeDiff, Nat.reduceLT, Int.reduceLT, Int.reduceLE, Int.reduceEq, e1, hR] | with_reducible refine pickB_f ?_ | with_reducible refine giv_intro fun _h => ?_ | with_reducible refine alt_intro ?_ fun _h => ?_ | with_reducible refine pickD_nil ?_ | (with_reducible refine brc (fun _h => ?_) fun _h => ?_) <;> first | (exfalso; omega) | simp only [decide_eq_false _h] | simp only [(_h : (_ : Bool) = _)] | simp only [decide_eq_true _h] | skip)
    refine call_give c1 ?_ ?_
    · show [seen (freshIn S) (S.stk [none, some (.row 95 1 (cellsL O))]) (3 + 1) (.ref (S.nm 1) 63 1 (w.length + 1))] = [sl (lvlsF f w)]
      rw [seen_f, hR, hS2]
    repeat' (first | with_reducible refine inw ?_ | simp (maxSteps := 900000) (disch := omega) only [go_sem, Nat.reduceEqDiff, ↓reduceIte, reduceCtorEq, Nat.reduceAdd, Nat.reduceMul, Int.reduceToNat, List.reduceReplicate, Nat.reduceLeDiff, Nat.reduceLT, Int.reduceLT, Int.reduceLE, Int.reduceEq] | with_reducible refine pickB_f ?_ | with_reducible refine giv_intro fun _h => ?_ | with_reducible refine alt_intro ?_ fun _h => ?_ | with_reducible refine pickD_nil ?_ | (with_reducible refine brc (fun _h => ?_) fun _h => ?_) <;> first | (exfalso; omega) | simp only [decide_eq_false _h] | simp only [(_h : (_ : Bool) = _)] | simp only [decide_eq_true _h] | skip)
    all_goals skip
end Go.Proofs.Ytfihpbeihlpfcaa.Ev
