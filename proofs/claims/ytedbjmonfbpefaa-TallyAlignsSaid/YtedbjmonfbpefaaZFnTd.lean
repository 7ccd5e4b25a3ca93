/- How two lists of lengths are put together (tally.Align). -/
import Derived.Test.YtedbjmonfbpefaaZFnC
import Derived.Test.YtedbjmonfbpefaaZEvZ
set_option linter.unusedVariables false
set_option linter.unusedSimpArgs false
namespace Go.Proofs.Ytedbjmonfbpefaa.Ev
open Go Go.Proofs Go.RowKit
/-- ablaut/tally.Align: 3 parameters, 0 captured -/
noncomputable def s27 : SC := .seq (.reg [o1 3 (.box 36 1 (.t 0)),
   o1 4 (.box 36 1 (.t 1)),
   o1 5 (.box 3 1 (.t 2)),
   o1 6 (.mv (.c (.slice none 0 0))),
   o1 7 (.mv (cI 0)),
   o1 8 (.mv (cI 0))])
  (.seq (.seq (.reg [o1 25 (.load none (.t 3)),
     o1 26 (.lenL (.t 25)),
     o1 27 (.bin .gtr (.t 26) (cI 200)),
     o1 28 (.mv (.t 27)),
     oF 29 (.load none (.t 4)) 28,
     oF 30 (.lenL (.t 29)) 28,
     oF 31 (.bin .gtr (.t 30) (cI 200)) 28,
     o1 32 (.pick (.t 28) (cB true) (.t 31))])
    (.cond (.t 32) (.seq (.reg [o1 6 (.mv (.c (.slice none 0 0))),
       o1 7 (.mv (cI 0)),
       o1 8 (.mv (cI 3))])
      (.ret)) (.skip)))
   (.seq (.reg [o1 9 (.mv (.f 61))])
    (.seq (.seq (.reg [o1 33 (.load none (.t 3)),
       o1 34 (.mv (.t 9)),
       o1 35 (.call (.f 62) [(.t 33), (.t 34)]),
       o1 36 (.mv (.t 35)),
       oF 37 (.load none (.t 4)) 36,
       oF 38 (.mv (.t 9)) 36,
       oF 39 (.call (.f 62) [(.t 37), (.t 38)]) 36,
       o1 40 (.pick (.t 36) (cB true) (.t 39)),
       o1 41 (.mv (.t 40)),
       oF 42 (.mv (.t 9)) 41,
       oF 43 (.load none (.t 5)) 41,
       oF 44 (.call (.t 42) [(.t 43)]) 41,
       o1 45 (.pick (.t 41) (cB true) (.t 44))])
      (.cond (.t 45) (.seq (.reg [o1 6 (.mv (.c (.slice none 0 0))),
         o1 7 (.mv (cI 0)),
         o1 8 (.mv (cI 1))])
        (.ret)) (.skip)))
     (.seq (.reg [o1 10 (.alloc 79 40401 (zerosAt Try.prog 79))])
      (.seq (.reg [o1 46 (.mkfunc 63 [(.t 3), (.t 4), (.t 5), (.t 10)]),
        o1 11 (.mv (.t 46))])
       (.seq (.seq (.reg [o1 47 (.load none (.t 3)),
          o1 48 (.lenL (.t 47)),
          o1 12 (.mv (.t 48))])
         (.block 0 (.loop (.seq (.seq (.reg [o1 49 (.mv (.t 12)),
              o1 50 (.bin .geq (.t 49) (cI 0))])
             (.cond (.t 50) (.skip) (.exit 0)))
            (.seq (.block 1 (.seq (.reg [o1 53 (.load none (.t 4)),
                o1 54 (.lenL (.t 53)),
                o1 13 (.mv (.t 54))])
               (.block 2 (.loop (.seq (.seq (.reg [o1 55 (.mv (.t 13)),
                    o1 56 (.bin .geq (.t 55) (cI 0))])
                   (.cond (.t 56) (.skip) (.exit 2)))
                  (.seq (.block 3 (.seq (.reg [o1 59 (.mv (.t 12)),
                      o1 60 (.mv (.t 13)),
                      o1 61 (.iaddrA 201 201 (.t 10) (.t 59)),
                      o1 62 (.iaddrA 201 1 (.t 61) (.t 60)),
                      o0 (.store 1 (.t 62) (cI (-1)))])
                     (.seq (.seq (.reg [o1 63 (.mv (.t 12)),
                        o1 64 (.load none (.t 3)),
                        o1 65 (.lenL (.t 64)),
                        o1 66 (.bin .eql (.t 63) (.t 65)),
                        o1 67 (.mv (.t 66)),
                        oT 68 (.mv (.t 13)) 67,
                        oT 69 (.load none (.t 4)) 67,
                        oT 70 (.lenL (.t 69)) 67,
                        oT 71 (.bin .eql (.t 68) (.t 70)) 67,
                        o1 72 (.pick (.t 67) (.t 71) (cB false))])
                       (.cond (.t 72) (.reg [o1 73 (.mv (.t 12)),
                         o1 74 (.mv (.t 13)),
                         o1 75 (.iaddrA 201 201 (.t 10) (.t 73)),
                         o1 76 (.iaddrA 201 1 (.t 75) (.t 74)),
                         o0 (.store 1 (.t 76) (cI 0))]) (.skip)))
                      (.seq (.reg [o1 77 (.call (.f 65) []),
                        o1 78 (.lenL (.t 77)),
                        o1 79 (.mv (cI 0))])
                       (.block 4 (.loop (.seq (.reg [o1 80 (.bin .lss (.t 79) (.t 78))])
                          (.seq (.cond (.t 80) (.skip) (.exit 4))
                           (.seq (.block 5 (.seq (.reg [o1 81 (.iaddr 2 (.t 77) (.t 79)),
                               o1 82 (.load (some 2) (.t 81)),
                               o1 15 (.alloc 41 2 [(.int .i64 0), (.int .i64 0)]),
                               o0 (.store 2 (.t 15) (.t 82))])
                              (.seq (.reg [o1 84 (.mv (.t 11)),
                                o1 85 (.mv (.t 12)),
                                o1 86 (.mv (.t 13)),
                                o1 87 (.load (some 2) (.t 15)),
                                o1 88 (.call (.t 84) [(.t 85), (.t 86), (.t 87)]),
                                o1 83 (.mv (.t 88)),
                                o1 89 (.ext (.t 83) 0),
                                o1 90 (.ext (.t 83) 1),
                                o1 16 (.mv (.t 89)),
                                o1 17 (.mv (.t 90))])
                               (.seq (.reg [o1 91 (.mv (.t 17)),
                                 o1 92 (.mv (.t 91)),
                                 oT 93 (.mv (.t 12)) 92,
                                 oT 94 (.mv (.t 13)) 92,
                                 oT 95 (.iaddrA 201 201 (.t 10) (.t 93)) 92,
                                 oT 96 (.iaddrA 201 1 (.t 95) (.t 94)) 92,
                                 oT 97 (.load none (.t 96)) 92,
                                 oT 98 (.bin .lss (.t 97) (cI 0)) 92,
                                 oT 99 (.mv (.t 98)) 92,
                                 oF 100 (.mv (.t 16)) 99,
                                 oF 101 (.mv (.t 12)) 99,
                                 oF 102 (.mv (.t 13)) 99,
                                 oF 103 (.iaddrA 201 201 (.t 10) (.t 101)) 99,
                                 oF 104 (.iaddrA 201 1 (.t 103) (.t 102)) 99,
                                 oF 105 (.load none (.t 104)) 99,
                                 oF 106 (.bin .lss (.t 100) (.t 105)) 99,
                                 oT 107 (.pick (.t 99) (cB true) (.t 106)) 92,
                                 o1 108 (.pick (.t 92) (.t 107) (cB false))])
                                (.cond (.t 108) (.reg [o1 109 (.mv (.t 12)),
                                  o1 110 (.mv (.t 13)),
                                  o1 111 (.mv (.t 16)),
                                  o1 112 (.iaddrA 201 201 (.t 10) (.t 109)),
                                  o1 113 (.iaddrA 201 1 (.t 112) (.t 110)),
                                  o0 (.store 1 (.t 113) (.t 111))]) (.skip))))))
                            (.reg [o1 114 (.bin .add (.t 79) (cI 1)),
                             o1 79 (.mv (.t 114))]))))))))))
                   (.reg [o1 57 (.mv (.t 13)),
                    o1 58 (.bin .sub (.t 57) (cI 1)),
                    o1 13 (.mv (.t 58))])))))))
             (.reg [o1 51 (.mv (.t 12)),
              o1 52 (.bin .sub (.t 51) (cI 1)),
              o1 12 (.mv (.t 52))]))))))
        (.seq (.reg [o1 18 (.mv (.c (.slice none 0 0)))])
         (.seq (.seq (.reg [o1 19 (.mv (cI 0)),
            o1 20 (.mv (cI 0))])
           (.block 6 (.loop (.seq (.seq (.reg [o1 115 (.mv (.t 19)),
                o1 116 (.load none (.t 3)),
                o1 117 (.lenL (.t 116)),
                o1 118 (.bin .lss (.t 115) (.t 117)),
                o1 119 (.mv (.t 118)),
                oF 120 (.mv (.t 20)) 119,
                oF 121 (.load none (.t 4)) 119,
                oF 122 (.lenL (.t 121)) 119,
                oF 123 (.bin .lss (.t 120) (.t 122)) 119,
                o1 124 (.pick (.t 119) (cB true) (.t 123))])
               (.cond (.t 124) (.skip) (.exit 6)))
              (.block 7 (.seq (.reg [o1 125 (.call (.f 65) []),
                 o1 126 (.lenL (.t 125)),
                 o1 127 (.mv (cI 0))])
                (.block 8 (.loop (.seq (.reg [o1 128 (.bin .lss (.t 127) (.t 126))])
                   (.seq (.cond (.t 128) (.skip) (.exit 8))
                    (.seq (.block 9 (.seq (.reg [o1 129 (.iaddr 2 (.t 125) (.t 127)),
                        o1 130 (.load (some 2) (.t 129)),
                        o1 22 (.alloc 41 2 [(.int .i64 0), (.int .i64 0)]),
                        o0 (.store 2 (.t 22) (.t 130))])
                       (.seq (.reg [o1 132 (.mv (.t 11)),
                         o1 133 (.mv (.t 19)),
                         o1 134 (.mv (.t 20)),
                         o1 135 (.load (some 2) (.t 22)),
                         o1 136 (.call (.t 132) [(.t 133), (.t 134), (.t 135)]),
                         o1 131 (.mv (.t 136)),
                         o1 137 (.ext (.t 131) 0),
                         o1 138 (.ext (.t 131) 1),
                         o1 23 (.mv (.t 137)),
                         o1 24 (.mv (.t 138))])
                        (.seq (.reg [o1 139 (.mv (.t 24)),
                          o1 140 (.mv (.t 139)),
                          oT 141 (.mv (.t 23)) 140,
                          oT 142 (.mv (.t 19)) 140,
                          oT 143 (.mv (.t 20)) 140,
                          oT 144 (.iaddrA 201 201 (.t 10) (.t 142)) 140,
                          oT 145 (.iaddrA 201 1 (.t 144) (.t 143)) 140,
                          oT 146 (.load none (.t 145)) 140,
                          oT 147 (.bin .eql (.t 141) (.t 146)) 140,
                          o1 148 (.pick (.t 140) (.t 147) (cB false))])
                         (.cond (.t 148) (.seq (.reg [o1 149 (.mv (.t 18)),
                            o1 150 (.load (some 2) (.t 22)),
                            o1 151 (.buildSl 41 2 1 [(.int .i64 0), (.int .i64 0)] [(0, 2, (.t 150))]),
                            o1 152 (.app 41 2 16 (.t 149) (.t 151)),
                            o1 18 (.mv (.t 152))])
                           (.seq (.regD [o1 153 (.mv (.t 19)),
                             o1 154 (.faddr 0 (.t 22)),
                             o1 155 (.load none (.t 154)),
                             o1 156 (.bin .add (.t 153) (.t 155)),
                             o1 157 (.mv (.t 20)),
                             o1 158 (.faddr 1 (.t 22)),
                             o1 159 (.load none (.t 158)),
                             o1 160 (.bin .add (.t 157) (.t 159)),
                             o1 19 (.mv (.t 156)),
                             o1 20 (.mv (.t 160))])
                            (.exit 8))) (.skip))))))
                     (.reg [o1 161 (.bin .add (.t 127) (cI 1)),
                      o1 127 (.mv (.t 161))]))))))))))))
          (.seq (.regD [o1 162 (.mv (.t 18)),
            o1 163 (.iaddrA 201 201 (.t 10) (cI 0)),
            o1 164 (.iaddrA 201 1 (.t 163) (cI 0)),
            o1 165 (.load none (.t 164)),
            o1 6 (.mv (.t 162)),
            o1 7 (.mv (.t 165)),
            o1 8 (.mv (cI 0))])
           (.ret))))))))))
theorem s27_ok : lookF Try.prog 27 = some (s27, 166, [.tmp 6, .tmp 7, .tmp 8]) := by kernel_rfl
def isZi : Value → Bool
  | .int .i64 n => n == 0
  | _ => false
theorem isZi_eq {v : Value} (h : isZi v = true) : v = .int .i64 0 := by
  unfold isZi at h
  split at h
  · rw [beq_iff_eq] at h; rw [h]
  · cases h
def chkZ : List Value → Nat → Bool
  | [], 0 => true
  | v :: l, n + 1 => isZi v && chkZ l n
  | _, _ => false
theorem chkZ_eq : ∀ {l : List Value} {n : Nat}, chkZ l n = true → l = List.replicate n (.int .i64 0)
  | [], 0, _ => rfl
  | [], n + 1, h => by simp [chkZ] at h
  | v :: l, 0, h => by simp [chkZ] at h
  | v :: l, n + 1, h => by
    rw [chkZ, Bool.and_eq_true] at h
    rw [List.replicate_succ, isZi_eq h.1, chkZ_eq h.2]
theorem chk79 : chkZ (zerosAt Try.prog 79) 40401 = true := by kernel_rfl
/-- 40401 zeros, by name (simp would spell them). -/
def zV : List Value := List.replicate 40401 (.int .i64 0)
def zR : List Int := List.replicate 40401 0
theorem z79 : zerosAt Try.prog 79 = zV := chkZ_eq chk79
theorem zV_len : zV.length = 40401 := List.length_replicate
theorem zR_len : zR.length = 40401 := List.length_replicate
theorem zerosC (n : Nat) : (List.replicate n (Value.int .i64 0)).map AV.sc = cellsL (List.replicate n (0 : Int)) := by
  induction n with
  | zero => rfl
  | succ n ih =>
    rw [List.replicate_succ, List.replicate_succ, List.map_cons, ih]
    rfl
theorem zV_c : zV.map AV.sc = cellsL zR := zerosC 40401
/-! ### its small functions -/
theorem findIdx_anyG {α : Type} {l : List α} {p : α → Bool} : decide (0 ≤ (match l.findIdx? p with | some i => (i : Int) | none => -1)) = l.any p := by
  cases h : l.findIdx? p with
  | none => have := List.findIdx?_eq_none_iff.1 h; simp; simpa using this
  | some i =>
    obtain ⟨h1, h2, _⟩ := List.findIdx?_eq_some_iff_getElem.1 h
    have : l.any p = true := List.any_eq_true.2 ⟨l[i], List.getElem_mem h1, h2⟩
    rw [this]; simp
/-- slices.IndexFunc[[]int,int]: 2 parameters, 0 captured -/
def s108 : SC := .seq (.reg [o1 4 (.mv (cI 0))])
  (.seq (.seq (.reg [o1 6 (.mv (.t 0)),
     o1 7 (.lenL (.t 6)),
     o1 8 (.mv (cI 0))])
    (.block 0 (.loop (.seq (.reg [o1 9 (.bin .lss (.t 8) (.t 7))])
       (.seq (.cond (.t 9) (.skip) (.exit 0))
        (.seq (.block 1 (.seq (.reg [o1 10 (.mv (.t 8)),
            o1 5 (.mv (.t 10))])
           (.seq (.reg [o1 11 (.mv (.t 1)),
             o1 12 (.mv (.t 0)),
             o1 13 (.mv (.t 5)),
             o1 14 (.iaddr 1 (.t 12) (.t 13)),
             o1 15 (.load none (.t 14)),
             o1 16 (.call (.t 11) [(.t 15)])])
            (.cond (.t 16) (.seq (.reg [o1 17 (.mv (.t 5)),
               o1 4 (.mv (.t 17))])
              (.ret)) (.skip)))))
         (.reg [o1 18 (.bin .add (.t 8) (cI 1)),
          o1 8 (.mv (.t 18))])))))))
   (.seq (.reg [o1 4 (.mv (cI (-1)))])
    (.ret)))
theorem s108_ok : lookF Try.prog 108 = some (s108, 19, [.tmp 4]) := by kernel_rfl
theorem intIdx_ok (l : List Int) (p : Int → Bool) (g : FuncId) (caps : List AV) (hc : ∀ c ∈ caps, AV.Still c) (hp : ∀ x, x ∈ l → Fn P g (valA x :: caps) (boolA (p x))) :
    Fn P 108 [sl l, .clo g caps] (intA (match l.findIdx? p with | some i => (i : Int) | none => -1)) := by
  have h1 := caps_seen hc
  have h2 := caps_bel hc
  (refine fn_look s108_ok (by simp) (by intro k; simp only [go_sem, Nat.reduceEqDiff, ↓reduceIte, reduceCtorEq, Nat.reduceAdd, Nat.reduceMul, Int.reduceToNat, List.reduceReplicate, Nat.reduceLeDiff, Nat.reduceLT, Int.reduceLT, Int.reduceLE, Int.reduceEq]) fun S hS => cwp_sound _ _ _ _ ?_; simp (maxSteps := 900000) (disch := omega) only [s108, go_sem, Nat.reduceEqDiff, ↓reduceIte, reduceCtorEq, Nat.reduceAdd, Nat.reduceMul, Int.reduceToNat, List.reduceReplicate, Nat.reduceLeDiff, Nat.reduceLT, Int.reduceLT, Int.reduceLE, Int.reduceEq])
  repeat' (first | with_reducible refine inw ?_ | simp (maxSteps := 900000) (disch := omega) only [go_sem, Nat.reduceEqDiff, ↓reduceIte, reduceCtorEq, Nat.reduceAdd, Nat.reduceMul, Int.reduceToNat, List.reduceReplicate, Nat.reduceLeDiff, Nat.reduceLT, Int.reduceLT, Int.reduceLE, Int.reduceEq, h1, h2] | with_reducible refine giv_intro fun _h => ?_ | with_reducible refine alt_intro ?_ fun _h => ?_ | with_reducible refine pickD_nil ?_ | (with_reducible refine brc (fun _h => ?_) fun _h => ?_) <;> first | (exfalso; omega) | simp only [decide_eq_false _h] | simp only [(_h : (_ : Bool) = _)] | simp only [decide_eq_true _h] | skip)
  (refine loopC hS [0, 1, 7] (by simp only [go_sem, Nat.reduceEqDiff, ↓reduceIte, reduceCtorEq, Nat.reduceAdd, Nat.reduceMul, Int.reduceToNat, List.reduceReplicate, Nat.reduceLeDiff, Nat.reduceLT, Int.reduceLT, Int.reduceLE, Int.reduceEq]; try rfl) (fun (i : Nat) => [(8, intA i)]) (fun (i : Nat) => []) (fun (i : Nat) => i ≤ l.length ∧ l.findIdx? p = ((l.drop i).findIdx? p).map (· + i)) (fun (i : Nat) => l.length - i) (0) ?h01 ?hn1 ?rd1; case hn1 => (intro s; first | rfl | (rcases s with ⟨_, _⟩; rfl) | (rcases s with ⟨_, _, _⟩; rfl) | (rcases s with ⟨_, _, _, _⟩; rfl) | (rcases s with ⟨_, _, _, _, _⟩; rfl)))
  · simp (maxSteps := 900000) (disch := omega) only [go_sem, Nat.reduceEqDiff, ↓reduceIte, reduceCtorEq, Nat.reduceAdd, Nat.reduceMul, Int.reduceToNat, List.reduceReplicate, Nat.reduceLeDiff, Nat.reduceLT, Int.reduceLT, Int.reduceLE, Int.reduceEq]; simp
  rintro i ⟨hi, hI⟩
  replace hi : i ≤ l.length := hi
  replace hI : l.findIdx? p = ((l.drop i).findIdx? p).map (· + i) := hI
  repeat' (first | with_reducible refine inw ?_ | simp (maxSteps := 900000) (disch := omega) only [go_sem, Nat.reduceEqDiff, ↓reduceIte, reduceCtorEq, Nat.reduceAdd, Nat.reduceMul, Int.reduceToNat, List.reduceReplicate, Nat.reduceLeDiff, Nat.reduceLT, Int.reduceLT, Int.reduceLE, Int.reduceEq, h1, h2] | (with_reducible apply call (hp _ (nth_mem (by assumption)))); (focus simp (maxSteps := 900000) (disch := omega) only [go_sem, Nat.reduceEqDiff, ↓reduceIte, reduceCtorEq, Nat.reduceAdd, Nat.reduceMul, Int.reduceToNat, List.reduceReplicate, Nat.reduceLeDiff, Nat.reduceLT, Int.reduceLT, Int.reduceLE, Int.reduceEq, h1, h2] <;> rfl) | with_reducible refine giv_intro fun _h => ?_ | with_reducible refine alt_intro ?_ fun _h => ?_ | with_reducible refine pickD_nil ?_ | (with_reducible refine brc (fun _h => ?_) fun _h => ?_) <;> first | (exfalso; omega) | simp only [decide_eq_false _h] | simp only [(_h : (_ : Bool) = _)] | simp only [decide_eq_true _h] | skip)
  · rw [hI, nth_drop (by assumption)]
    simp_all [List.findIdx?_cons]
  · refine ⟨i + 1, ⟨by omega, by omega, ?_⟩, by omega⟩
    rw [hI, nth_drop (by assumption), List.findIdx?_cons]
    simp_all [Function.comp_def, Nat.add_comm, Nat.add_left_comm]
  · rw [hI, List.drop_eq_nil_of_le (by omega)]; rfl
/-- slices.ContainsFunc[[]int,int]: 2 parameters, 0 captured -/
def s62 : SC := .seq (.reg [o1 4 (.mv (cB false))])
  (.seq (.reg [o1 5 (.mv (.t 0)),
    o1 6 (.mv (.t 1)),
    o1 7 (.call (.f 108) [(.t 5), (.t 6)]),
    o1 8 (.bin .geq (.t 7) (cI 0)),
    o1 4 (.mv (.t 8))])
   (.ret))
theorem s62_ok : lookF Try.prog 62 = some (s62, 9, [.tmp 4]) := by kernel_rfl
theorem intAny_ok (l : List Int) (p : Int → Bool) (g : FuncId) (caps : List AV) (hc : ∀ c ∈ caps, AV.Still c) (hp : ∀ x, x ∈ l → Fn P g (valA x :: caps) (boolA (p x))) :
    Fn P 62 [sl l, .clo g caps] (boolA (l.any p)) := by
  have h1 := caps_seen hc
  have h2 := caps_bel hc
  (refine fn_look s62_ok (by simp) (by intro k; simp only [go_sem, Nat.reduceEqDiff, ↓reduceIte, reduceCtorEq, Nat.reduceAdd, Nat.reduceMul, Int.reduceToNat, List.reduceReplicate, Nat.reduceLeDiff, Nat.reduceLT, Int.reduceLT, Int.reduceLE, Int.reduceEq]) fun S hS => cwp_sound _ _ _ _ ?_; simp (maxSteps := 900000) (disch := omega) only [s62, go_sem, Nat.reduceEqDiff, ↓reduceIte, reduceCtorEq, Nat.reduceAdd, Nat.reduceMul, Int.reduceToNat, List.reduceReplicate, Nat.reduceLeDiff, Nat.reduceLT, Int.reduceLT, Int.reduceLE, Int.reduceEq])
  repeat' (first | with_reducible refine inw ?_ | simp (maxSteps := 900000) (disch := omega) only [go_sem, Nat.reduceEqDiff, ↓reduceIte, reduceCtorEq, Nat.reduceAdd, Nat.reduceMul, Int.reduceToNat, List.reduceReplicate, Nat.reduceLeDiff, Nat.reduceLT, Int.reduceLT, Int.reduceLE, Int.reduceEq, h1, h2] | (with_reducible apply call (intIdx_ok l p g caps hc hp)); (focus simp (maxSteps := 900000) (disch := omega) only [go_sem, Nat.reduceEqDiff, ↓reduceIte, reduceCtorEq, Nat.reduceAdd, Nat.reduceMul, Int.reduceToNat, List.reduceReplicate, Nat.reduceLeDiff, Nat.reduceLT, Int.reduceLT, Int.reduceLE, Int.reduceEq, h1, h2] <;> rfl) | with_reducible refine giv_intro fun _h => ?_ | with_reducible refine alt_intro ?_ fun _h => ?_ | with_reducible refine pickD_nil ?_ | (with_reducible refine brc (fun _h => ?_) fun _h => ?_) <;> first | (exfalso; omega) | simp only [decide_eq_false _h] | simp only [(_h : (_ : Bool) = _)] | simp only [decide_eq_true _h] | skip)
  exact findIdx_anyG
def badN (n : Int) : Bool := decide (n < 0 ∨ 1000 < n)
/-- ablaut/tally.Align$1: 1 parameters, 0 captured -/
def s61 : SC := .seq (.reg [o1 2 (.mv (cB false))])
  (.seq (.reg [o1 3 (.mv (.t 0)),
    o1 4 (.bin .lss (.t 3) (cI 0)),
    o1 5 (.mv (.t 4)),
    oF 6 (.mv (.t 0)) 5,
    oF 7 (.bin .gtr (.t 6) (cI 1000)) 5,
    o1 8 (.pick (.t 5) (cB true) (.t 7)),
    o1 2 (.mv (.t 8))])
   (.ret))
theorem s61_ok : lookF Try.prog 61 = some (s61, 9, [.tmp 2]) := by kernel_rfl
theorem alBad_ok (n : Int) : Fn P 61 [intA n] (boolA (badN n)) := by
  rw [badN]
  by_cases h : n < 0
  · rw [decide_eq_true (Or.inl h)]
    (refine fn_look s61_ok (by simp) (by intro k; simp only [go_sem, Nat.reduceEqDiff, ↓reduceIte, reduceCtorEq, Nat.reduceAdd, Nat.reduceMul, Int.reduceToNat, List.reduceReplicate, Nat.reduceLeDiff, Nat.reduceLT, Int.reduceLT, Int.reduceLE, Int.reduceEq]) fun S hS => cwp_sound _ _ _ _ ?_; simp (maxSteps := 900000) (disch := omega) only [s61, go_sem, Nat.reduceEqDiff, ↓reduceIte, reduceCtorEq, Nat.reduceAdd, Nat.reduceMul, Int.reduceToNat, List.reduceReplicate, Nat.reduceLeDiff, Nat.reduceLT, Int.reduceLT, Int.reduceLE, Int.reduceEq])
    repeat' (first | with_reducible refine inw ?_ | simp (maxSteps := 900000) (disch := omega) only [go_sem, Nat.reduceEqDiff, ↓reduceIte, reduceCtorEq, Nat.reduceAdd, Nat.reduceMul, Int.reduceToNat, List.reduceReplicate, Nat.reduceLeDiff, Nat.reduceLT, Int.reduceLT, Int.reduceLE, Int.reduceEq] | with_reducible refine giv_intro fun _h => ?_ | with_reducible refine alt_intro ?_ fun _h => ?_ | with_reducible refine pickD_nil ?_ | (with_reducible refine brc (fun _h => ?_) fun _h => ?_) <;> first | (exfalso; omega) | simp only [decide_eq_false _h] | simp only [(_h : (_ : Bool) = _)] | simp only [decide_eq_true _h] | skip)
  · by_cases h2 : 1000 < n
    · rw [decide_eq_true (Or.inr h2)]
      (refine fn_look s61_ok (by simp) (by intro k; simp only [go_sem, Nat.reduceEqDiff, ↓reduceIte, reduceCtorEq, Nat.reduceAdd, Nat.reduceMul, Int.reduceToNat, List.reduceReplicate, Nat.reduceLeDiff, Nat.reduceLT, Int.reduceLT, Int.reduceLE, Int.reduceEq]) fun S hS => cwp_sound _ _ _ _ ?_; simp (maxSteps := 900000) (disch := omega) only [s61, go_sem, Nat.reduceEqDiff, ↓reduceIte, reduceCtorEq, Nat.reduceAdd, Nat.reduceMul, Int.reduceToNat, List.reduceReplicate, Nat.reduceLeDiff, Nat.reduceLT, Int.reduceLT, Int.reduceLE, Int.reduceEq])
      repeat' (first | with_reducible refine inw ?_ | simp (maxSteps := 900000) (disch := omega) only [go_sem, Nat.reduceEqDiff, ↓reduceIte, reduceCtorEq, Nat.reduceAdd, Nat.reduceMul, Int.reduceToNat, List.reduceReplicate, Nat.reduceLeDiff, Nat.reduceLT, Int.reduceLT, Int.reduceLE, Int.reduceEq] | with_reducible refine giv_intro fun _h => ?_ | with_reducible refine alt_intro ?_ fun _h => ?_ | with_reducible refine pickD_nil ?_ | (with_reducible refine brc (fun _h => ?_) fun _h => ?_) <;> first | (exfalso; omega) | simp only [decide_eq_false _h] | simp only [(_h : (_ : Bool) = _)] | simp only [decide_eq_true _h] | skip)
      exact decide_eq_true h2
    · rw [decide_eq_false (by omega)]
      (refine fn_look s61_ok (by simp) (by intro k; simp only [go_sem, Nat.reduceEqDiff, ↓reduceIte, reduceCtorEq, Nat.reduceAdd, Nat.reduceMul, Int.reduceToNat, List.reduceReplicate, Nat.reduceLeDiff, Nat.reduceLT, Int.reduceLT, Int.reduceLE, Int.reduceEq]) fun S hS => cwp_sound _ _ _ _ ?_; simp (maxSteps := 900000) (disch := omega) only [s61, go_sem, Nat.reduceEqDiff, ↓reduceIte, reduceCtorEq, Nat.reduceAdd, Nat.reduceMul, Int.reduceToNat, List.reduceReplicate, Nat.reduceLeDiff, Nat.reduceLT, Int.reduceLT, Int.reduceLE, Int.reduceEq])
      repeat' (first | with_reducible refine inw ?_ | simp (maxSteps := 900000) (disch := omega) only [go_sem, Nat.reduceEqDiff, ↓reduceIte, reduceCtorEq, Nat.reduceAdd, Nat.reduceMul, Int.reduceToNat, List.reduceReplicate, Nat.reduceLeDiff, Nat.reduceLT, Int.reduceLT, Int.reduceLE, Int.reduceEq] | with_reducible refine giv_intro fun _h => ?_ | with_reducible refine alt_intro ?_ fun _h => ?_ | with_reducible refine pickD_nil ?_ | (with_reducible refine brc (fun _h => ?_) fun _h => ?_) <;> first | (exfalso; omega) | simp only [decide_eq_false _h] | simp only [(_h : (_ : Bool) = _)] | simp only [decide_eq_true _h] | skip)
      exact decide_eq_false h2
def totI (l : List Int) : Int := l.foldr (· + ·) 0
theorem totI_app (a b : List Int) : totI (a ++ b) = totI a + totI b := by
  induction a with
  | nil => simp [totI]
  | cons x a ih => simp only [totI, List.cons_append, List.foldr_cons] at ih ⊢; omega
theorem totI_step {l : List Int} {i : Nat} (h : i < l.length) : totI (l.take (i + 1)) = totI (l.take i) + nth l i := by
  rw [List.take_add_one, nth_get? h, totI_app]; simp [totI]
theorem totI_le {l : List Int} (h : ∀ x ∈ l, 0 ≤ x ∧ x ≤ 1000) : 0 ≤ totI l ∧ totI l ≤ 1000 * l.length := by
  induction l with
  | nil => simp [totI]
  | cons x l ih =>
    have h1 := ih fun y hy => h y (List.mem_cons_of_mem _ hy)
    have h2 := h x List.mem_cons_self
    simp only [totI, List.foldr_cons, List.length_cons] at h1 ⊢
    omega
/-- ablaut/tally.total: 1 parameters, 0 captured -/
def s64 : SC := .seq (.reg [o1 2 (.mv (cI 0))])
  (.seq (.reg [o1 3 (.mv (cI 0))])
   (.seq (.seq (.reg [o1 6 (.mv (.t 0)),
      o1 7 (.lenL (.t 6)),
      o1 8 (.mv (cI 0))])
     (.block 0 (.loop (.seq (.reg [o1 9 (.bin .lss (.t 8) (.t 7))])
        (.seq (.cond (.t 9) (.skip) (.exit 0))
         (.seq (.block 1 (.seq (.reg [o1 10 (.iaddr 1 (.t 6) (.t 8)),
             o1 11 (.load none (.t 10)),
             o1 5 (.mv (.t 11))])
            (.reg [o1 12 (.mv (.t 3)),
             o1 13 (.mv (.t 5)),
             o1 14 (.bin .add (.t 12) (.t 13)),
             o1 3 (.mv (.t 14))])))
          (.reg [o1 15 (.bin .add (.t 8) (cI 1)),
           o1 8 (.mv (.t 15))])))))))
    (.seq (.reg [o1 16 (.mv (.t 3)),
      o1 2 (.mv (.t 16))])
     (.ret))))
theorem s64_ok : lookF Try.prog 64 = some (s64, 17, [.tmp 2]) := by kernel_rfl
theorem total_ok (l : List Int) (hl : l.length ≤ 200) (h : ∀ x ∈ l, 0 ≤ x ∧ x ≤ 1000) : Fn P 64 [sl l] (intA (totI l)) := by
  (refine fn_look s64_ok (by simp) (by intro k; simp only [go_sem, Nat.reduceEqDiff, ↓reduceIte, reduceCtorEq, Nat.reduceAdd, Nat.reduceMul, Int.reduceToNat, List.reduceReplicate, Nat.reduceLeDiff, Nat.reduceLT, Int.reduceLT, Int.reduceLE, Int.reduceEq]) fun S hS => cwp_sound _ _ _ _ ?_; simp (maxSteps := 900000) (disch := omega) only [s64, go_sem, Nat.reduceEqDiff, ↓reduceIte, reduceCtorEq, Nat.reduceAdd, Nat.reduceMul, Int.reduceToNat, List.reduceReplicate, Nat.reduceLeDiff, Nat.reduceLT, Int.reduceLT, Int.reduceLE, Int.reduceEq])
  repeat' (first | with_reducible refine inw ?_ | simp (maxSteps := 900000) (disch := omega) only [go_sem, Nat.reduceEqDiff, ↓reduceIte, reduceCtorEq, Nat.reduceAdd, Nat.reduceMul, Int.reduceToNat, List.reduceReplicate, Nat.reduceLeDiff, Nat.reduceLT, Int.reduceLT, Int.reduceLE, Int.reduceEq] | with_reducible refine giv_intro fun _h => ?_ | with_reducible refine alt_intro ?_ fun _h => ?_ | with_reducible refine pickD_nil ?_ | (with_reducible refine brc (fun _h => ?_) fun _h => ?_) <;> first | (exfalso; omega) | simp only [decide_eq_false _h] | simp only [(_h : (_ : Bool) = _)] | simp only [decide_eq_true _h] | skip)
  (refine loopC hS [6, 7] (by simp only [go_sem, Nat.reduceEqDiff, ↓reduceIte, reduceCtorEq, Nat.reduceAdd, Nat.reduceMul, Int.reduceToNat, List.reduceReplicate, Nat.reduceLeDiff, Nat.reduceLT, Int.reduceLT, Int.reduceLE, Int.reduceEq]; try rfl) (fun (i : Nat) => [(3, intA (totI (l.take i))), (8, intA i)]) (fun (i : Nat) => []) (fun (i : Nat) => i ≤ l.length) (fun (i : Nat) => l.length - i) (0) ?h02 ?hn2 ?rd2; case hn2 => (intro s; first | rfl | (rcases s with ⟨_, _⟩; rfl) | (rcases s with ⟨_, _, _⟩; rfl) | (rcases s with ⟨_, _, _, _⟩; rfl) | (rcases s with ⟨_, _, _, _, _⟩; rfl)))
  · simp (maxSteps := 900000) (disch := omega) only [go_sem, Nat.reduceEqDiff, ↓reduceIte, reduceCtorEq, Nat.reduceAdd, Nat.reduceMul, Int.reduceToNat, List.reduceReplicate, Nat.reduceLeDiff, Nat.reduceLT, Int.reduceLT, Int.reduceLE, Int.reduceEq]; simp [totI]
  rintro i hi
  replace hi : i ≤ l.length := hi
  have hb := totI_le (l := l.take i) fun x hx => h x (List.mem_of_mem_take hx)
  rw [List.length_take] at hb
  by_cases hil : i < l.length
  · have hx := h _ (nth_mem hil)
    have hs := totI_step hil
    repeat' (first | with_reducible refine inw ?_ | simp (maxSteps := 900000) (disch := omega) only [go_sem, Nat.reduceEqDiff, ↓reduceIte, reduceCtorEq, Nat.reduceAdd, Nat.reduceMul, Int.reduceToNat, List.reduceReplicate, Nat.reduceLeDiff, Nat.reduceLT, Int.reduceLT, Int.reduceLE, Int.reduceEq] | with_reducible refine giv_intro fun _h => ?_ | with_reducible refine alt_intro ?_ fun _h => ?_ | with_reducible refine pickD_nil ?_ | (with_reducible refine brc (fun _h => ?_) fun _h => ?_) <;> first | (exfalso; omega) | simp only [decide_eq_false _h] | simp only [(_h : (_ : Bool) = _)] | simp only [decide_eq_true _h] | skip)
    exact ⟨i + 1, ⟨by omega, by omega⟩, by omega, by omega⟩
  · rw [List.take_of_length_le (by omega)]
    repeat' (first | with_reducible refine inw ?_ | simp (maxSteps := 900000) (disch := omega) only [go_sem, Nat.reduceEqDiff, ↓reduceIte, reduceCtorEq, Nat.reduceAdd, Nat.reduceMul, Int.reduceToNat, List.reduceReplicate, Nat.reduceLeDiff, Nat.reduceLT, Int.reduceLT, Int.reduceLE, Int.reduceEq] | with_reducible refine giv_intro fun _h => ?_ | with_reducible refine alt_intro ?_ fun _h => ?_ | with_reducible refine pickD_nil ?_ | (with_reducible refine brc (fun _h => ?_) fun _h => ?_) <;> first | (exfalso; omega) | simp only [decide_eq_false _h] | simp only [(_h : (_ : Bool) = _)] | simp only [decide_eq_true _h] | skip)
abbrev Bead := Int × Int
def beads : List Bead := [(0, 1), (1, 0), (1, 1), (1, 2), (2, 1), (2, 2)]
theorem z2_12 : zcells [Value.int .i64 0, Value.int .i64 0] 12 = List.replicate 12 (intA 0) := rfl
/-- ablaut/tally.kinds: 0 parameters, 0 captured -/
def s65 : SC := .seq (.reg [o1 0 (.mv (.c (.slice none 0 0)))])
  (.seq (.reg [o1 1 (.build [(.int .i64 0), (.int .i64 0)] [(0, 1, (cI 0)), (1, 1, (cI 1))]),
    o1 2 (.build [(.int .i64 0), (.int .i64 0)] [(0, 1, (cI 1)), (1, 1, (cI 0))]),
    o1 3 (.build [(.int .i64 0), (.int .i64 0)] [(0, 1, (cI 1)), (1, 1, (cI 1))]),
    o1 4 (.build [(.int .i64 0), (.int .i64 0)] [(0, 1, (cI 1)), (1, 1, (cI 2))]),
    o1 5 (.build [(.int .i64 0), (.int .i64 0)] [(0, 1, (cI 2)), (1, 1, (cI 1))]),
    o1 6 (.build [(.int .i64 0), (.int .i64 0)] [(0, 1, (cI 2)), (1, 1, (cI 2))]),
    o1 7 (.buildSl 41 2 6 [(.int .i64 0), (.int .i64 0)] [(0, 2, (.t 1)), (2, 2, (.t 2)), (4, 2, (.t 3)), (6, 2, (.t 4)), (8, 2, (.t 5)), (10, 2, (.t 6))]),
    o1 0 (.mv (.t 7))])
   (.ret))
theorem s65_ok : lookF Try.prog 65 = some (s65, 8, [.tmp 0]) := by kernel_rfl
theorem kinds_ok : Fn P 65 [] (sl beads) := by
  (refine fn_look s65_ok (by simp) (by intro k; simp only [go_sem, Nat.reduceEqDiff, ↓reduceIte, reduceCtorEq, Nat.reduceAdd, Nat.reduceMul, Int.reduceToNat, List.reduceReplicate, Nat.reduceLeDiff, Nat.reduceLT, Int.reduceLT, Int.reduceLE, Int.reduceEq]) fun S hS => cwp_sound _ _ _ _ ?_; simp (maxSteps := 900000) (disch := omega) only [s65, go_sem, Nat.reduceEqDiff, ↓reduceIte, reduceCtorEq, Nat.reduceAdd, Nat.reduceMul, Int.reduceToNat, List.reduceReplicate, Nat.reduceLeDiff, Nat.reduceLT, Int.reduceLT, Int.reduceLE, Int.reduceEq])
  repeat' (first | with_reducible refine inw ?_ | simp (maxSteps := 900000) (disch := omega) only [go_sem, Nat.reduceEqDiff, ↓reduceIte, reduceCtorEq, Nat.reduceAdd, Nat.reduceMul, Int.reduceToNat, List.reduceReplicate, Nat.reduceLeDiff, Nat.reduceLT, Int.reduceLT, Int.reduceLE, Int.reduceEq, z2_12] | with_reducible refine giv_intro fun _h => ?_ | with_reducible refine alt_intro ?_ fun _h => ?_ | with_reducible refine pickD_nil ?_ | (with_reducible refine brc (fun _h => ?_) fun _h => ?_) <;> first | (exfalso; omega) | simp only [decide_eq_false _h] | simp only [(_h : (_ : Bool) = _)] | simp only [decide_eq_true _h] | skip)
  rfl
end Go.Proofs.Ytedbjmonfbpefaa.Ev
