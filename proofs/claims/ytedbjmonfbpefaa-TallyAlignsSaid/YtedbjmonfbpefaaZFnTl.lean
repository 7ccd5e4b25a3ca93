/- The reference's Align: the walk. -/
import Derived.Test.YtedbjmonfbpefaaZFnTk
import Derived.Test.YtedbjmonfbpefaaZFnTh
set_option linter.unusedVariables false
set_option linter.unusedSimpArgs false
namespace Go.Proofs.Ytedbjmonfbpefaa.Ev
open Go Go.Proofs Go.RowKit

/-- The cells of the table while row i is in work. -/
def tcs (i : Nat) (r : List AV) (X : List (List Int)) : List AV := List.replicate i (.sc (.slice none 0 0)) ++ r ++ cellsL X
theorem tcs_len (i : Nat) (r : List AV) (X : List (List Int)) : (tcs i r X).length = i + r.length + X.length := by
  rw [tcs, List.length_append, List.length_append, List.length_replicate, cellsL_len, Nat.mul_one]
theorem tcs_at (i : Nat) (r : AV) (X : List (List Int)) : (tcs i [r] X)[i]? = some r := by
  rw [tcs, List.append_assoc, List.getElem?_append_right (by rw [List.length_replicate]; exact Nat.le_refl _), List.length_replicate, Nat.sub_self]; rfl
theorem cells_drop_take : ∀ (X : List (List Int)) (v : Nat), v < X.length → (cellsL X)[v]? = some (sl (nth X v))
  | x :: X, 0, _ => rfl
  | x :: X, v + 1, h => by
    rw [cellsL_cons, show (Enc.cells x ++ cellsL X)[v + 1]? = (cellsL X)[v]? from rfl]
    exact cells_drop_take X v (Nat.lt_of_succ_lt_succ h)
theorem tcs_in {i u : Nat} (r : AV) (X : List (List Int)) (h0 : 0 < u) (h : u ≤ X.length) : (tcs i [r] X)[i + u]? = some (sl (nth X (u - 1))) := by
  rw [tcs, List.append_assoc, List.getElem?_append_right (by rw [List.length_replicate]; omega), List.length_replicate, Nat.add_sub_cancel_left, List.singleton_append]
  obtain ⟨v, rfl⟩ : ∃ v, u = v + 1 := ⟨u - 1, by omega⟩
  rw [List.getElem?_cons_succ, Nat.add_sub_cancel]
  have e1 := cells_drop_take X v (by omega)
  exact e1
theorem tcs_put (i : Nat) (r : AV) (X : List (List Int)) : (tcs (i + 1) [] X).take i ++ [r] ++ (tcs (i + 1) [] X).drop (i + 1) = tcs i [r] X := by
  have e : tcs (i + 1) [] X = List.replicate i (.sc (.slice none 0 0)) ++ (AV.sc (.slice none 0 0) :: cellsL X) := by
    rw [tcs, List.append_nil, List.replicate_succ', List.append_assoc]; rfl
  rw [e, List.take_left' List.length_replicate, ← List.drop_drop, List.drop_left' List.length_replicate]; rfl
theorem tcs_set (i : Nat) (r : AV) (x : List Int) (X : List (List Int)) : (tcs i [r] X).set i (sl x) = tcs i [] (x :: X) := by
  rw [tcs, tcs, List.append_assoc, List.set_append_right _ _ (by rw [List.length_replicate]; exact Nat.le_refl _), List.length_replicate, Nat.sub_self, List.append_nil]; rfl
theorem tcs_z {p : Nat} {X : List (List Int)} (h : p < X.length) : (tcs 0 [] X)[p]? = some (sl (nth X p)) := cells_drop_take X p h
theorem bels_rep (k i : Nat) : bels k (List.replicate i (.sc (.slice none 0 0))) = True := by
  induction i with
  | zero => simp [bels]
  | succ i ih => rw [List.replicate_succ, bels, ih]; simp [AV.bel]
theorem bels_tcs (k i : Nat) (r : List AV) (X : List (List Int)) : bels k (tcs i r X) = bels k r := by
  rw [tcs, bels_app, bels_app, bels_cellsL, bels_rep, and_true, true_and]
theorem take_nth1 {α : Type} {k : Nat} [Enc α k] {l : List α} {i : Nat} (h : i < l.length) : l.take (i + 1) = l.take i ++ [nth l i] := by
  rw [nth_eq h, List.take_succ_eq_append_getElem h]
/-- A row of the table, done. -/
def tR (a b : List Int) (s : Int) (p : Nat) : List Int := (List.range (b.length + 1)).map fun k => tab a b s p k
def tRs (a b : List Int) (s : Int) (i : Nat) : List (List Int) := (List.range (a.length + 1 - i)).map fun d => tR a b s (i + d)
theorem tR_len (a b : List Int) (s : Int) (p : Nat) : (tR a b s p).length = b.length + 1 := by rw [tR, List.length_map, List.length_range]
theorem tR_nth {a b : List Int} {s : Int} {p k : Nat} (hk : k ≤ b.length) : nth (tR a b s p) k = tab a b s p k := by
  rw [nth_eq (by rw [tR_len]; omega)]; simp [tR]
theorem tRs_nth {a b : List Int} {s : Int} {i u : Nat} (h0 : 0 < u) (hu : i + u ≤ a.length) : nth (tRs a b s (i + 1)) (u - 1) = tR a b s (i + u) := by
  rw [nth_eq (by rw [tRs, List.length_map, List.length_range]; omega)]
  simp only [tRs, List.getElem_map, List.getElem_range]
  congr 1; omega
theorem tRs_cons {a b : List Int} {s : Int} {i : Nat} (hi : i ≤ a.length) : tRs a b s i = tR a b s i :: tRs a b s (i + 1) := by
  rw [tRs, tRs, show a.length + 1 - i = (a.length + 1 - (i + 1)) + 1 by omega, List.range_succ_eq_map, List.map_cons, List.map_map]
  congr 1
  exact List.map_congr_left fun d _ => by show tR a b s (i + (d + 1)) = tR a b s (i + 1 + d); congr 1; omega
theorem tR_is {a b : List Int} {s : Int} {i : Nat} {R : List Int} (hl : R.length = b.length + 1) (h : ∀ q, q ≤ b.length → nth R q = tab a b s i q) : R = tR a b s i := by
  refine List.ext_getElem (by rw [hl, tR_len]) fun q h1 h2 => ?_
  rw [← nth_eq h1, ← nth_eq h2, h q (by omega), tR_nth (by omega)]
theorem putAt_put {l : List Int} {k : Nat} (h : k < l.length) (x y : Int) : putAt (putAt l k x) k y = putAt l k y := by
  rw [putAt_set (by rw [putAt_len h]; exact h), putAt_set h, putAt_set h, List.set_set]
/-- ablaut/ablautref27.Align: 3 parameters, 0 captured -/
def s28 : SC := .seq (.reg [o1 6 (.mv (.c (.slice none 0 0))),
   o1 7 (.mv (cI 0)),
   o1 8 (.mv (cI 0))])
  (.seq (.seq (.reg [o1 23 (.mv (.t 0)),
     o1 24 (.lenL (.t 23)),
     o1 25 (.bin .gtr (.t 24) (cI 200)),
     o1 26 (.mv (.t 25)),
     oF 27 (.mv (.t 1)) 26,
     oF 28 (.lenL (.t 27)) 26,
     oF 29 (.bin .gtr (.t 28) (cI 200)) 26,
     o1 30 (.pick (.t 26) (cB true) (.t 29))])
    (.cond (.t 30) (.seq (.reg [o1 6 (.mv (.c (.slice none 0 0))),
       o1 7 (.mv (cI 0)),
       o1 8 (.mv (cI 3))])
      (.ret)) (.skip)))
   (.seq (.reg [o1 31 (.mv (.t 2)),
     o1 32 (.bin .lss (.t 31) (cI 0)),
     o1 33 (.mv (.t 32)),
     oF 34 (.mv (.t 2)) 33,
     oF 35 (.bin .gtr (.t 34) (cI 1000)) 33,
     o1 36 (.pick (.t 33) (cB true) (.t 35)),
     o1 9 (.mv (.t 36))])
    (.seq (.seq (.reg [o1 10 (.mv (cI 0))])
      (.block 0 (.loop (.seq (.seq (.reg [o1 37 (.mv (.t 10)),
           o1 38 (.mv (.t 0)),
           o1 39 (.lenL (.t 38)),
           o1 40 (.bin .lss (.t 37) (.t 39))])
          (.cond (.t 40) (.skip) (.exit 0)))
         (.seq (.block 1 (.reg [o1 43 (.mv (.t 9)),
            o1 44 (.mv (.t 43)),
            oF 45 (.mv (.t 0)) 44,
            oF 46 (.mv (.t 10)) 44,
            oF 47 (.iaddr 1 (.t 45) (.t 46)) 44,
            oF 48 (.load none (.t 47)) 44,
            oF 49 (.bin .lss (.t 48) (cI 0)) 44,
            o1 50 (.pick (.t 44) (cB true) (.t 49)),
            o1 51 (.mv (.t 50)),
            oF 52 (.mv (.t 0)) 51,
            oF 53 (.mv (.t 10)) 51,
            oF 54 (.iaddr 1 (.t 52) (.t 53)) 51,
            oF 55 (.load none (.t 54)) 51,
            oF 56 (.bin .gtr (.t 55) (cI 1000)) 51,
            o1 57 (.pick (.t 51) (cB true) (.t 56)),
            o1 9 (.mv (.t 57))]))
          (.reg [o1 41 (.mv (.t 10)),
           o1 42 (.bin .add (.t 41) (cI 1)),
           o1 10 (.mv (.t 42))]))))))
     (.seq (.seq (.reg [o1 11 (.mv (cI 0))])
       (.block 2 (.loop (.seq (.seq (.reg [o1 58 (.mv (.t 11)),
            o1 59 (.mv (.t 1)),
            o1 60 (.lenL (.t 59)),
            o1 61 (.bin .lss (.t 58) (.t 60))])
           (.cond (.t 61) (.skip) (.exit 2)))
          (.seq (.block 3 (.reg [o1 64 (.mv (.t 9)),
             o1 65 (.mv (.t 64)),
             oF 66 (.mv (.t 1)) 65,
             oF 67 (.mv (.t 11)) 65,
             oF 68 (.iaddr 1 (.t 66) (.t 67)) 65,
             oF 69 (.load none (.t 68)) 65,
             oF 70 (.bin .lss (.t 69) (cI 0)) 65,
             o1 71 (.pick (.t 65) (cB true) (.t 70)),
             o1 72 (.mv (.t 71)),
             oF 73 (.mv (.t 1)) 72,
             oF 74 (.mv (.t 11)) 72,
             oF 75 (.iaddr 1 (.t 73) (.t 74)) 72,
             oF 76 (.load none (.t 75)) 72,
             oF 77 (.bin .gtr (.t 76) (cI 1000)) 72,
             o1 78 (.pick (.t 72) (cB true) (.t 77)),
             o1 9 (.mv (.t 78))]))
           (.reg [o1 62 (.mv (.t 11)),
            o1 63 (.bin .add (.t 62) (cI 1)),
            o1 11 (.mv (.t 63))]))))))
      (.seq (.seq (.reg [o1 79 (.mv (.t 9))])
        (.cond (.t 79) (.seq (.reg [o1 6 (.mv (.c (.slice none 0 0))),
           o1 7 (.mv (cI 0)),
           o1 8 (.mv (cI 1))])
          (.ret)) (.skip)))
       (.seq (.reg [o1 80 (.mv (.t 0)),
         o1 81 (.lenL (.t 80)),
         o1 82 (.bin .add (.t 81) (cI 1)),
         o1 83 (.mksl 36 1 24 [(.slice none 0 0)] (.t 82) (.t 82)),
         o1 12 (.mv (.t 83))])
        (.seq (.seq (.reg [o1 84 (.mv (.t 0)),
           o1 85 (.lenL (.t 84)),
           o1 13 (.mv (.t 85))])
          (.block 4 (.loop (.seq (.seq (.reg [o1 86 (.mv (.t 13)),
               o1 87 (.bin .geq (.t 86) (cI 0))])
              (.cond (.t 87) (.skip) (.exit 4)))
             (.seq (.block 5 (.seq (.reg [o1 90 (.mv (.t 12)),
                 o1 91 (.mv (.t 13)),
                 o1 92 (.mv (.t 1)),
                 o1 93 (.lenL (.t 92)),
                 o1 94 (.bin .add (.t 93) (cI 1)),
                 o1 95 (.mksl 3 1 8 [(.int .i64 0)] (.t 94) (.t 94)),
                 o1 96 (.iaddr 1 (.t 90) (.t 91)),
                 o0 (.store 1 (.t 96) (.t 95))])
                (.seq (.reg [o1 97 (.mv (.t 1)),
                  o1 98 (.lenL (.t 97)),
                  o1 14 (.mv (.t 98))])
                 (.block 6 (.loop (.seq (.seq (.reg [o1 99 (.mv (.t 14)),
                      o1 100 (.bin .geq (.t 99) (cI 0))])
                     (.cond (.t 100) (.skip) (.exit 6)))
                    (.seq (.block 7 (.seq (.reg [o1 103 (.mv (.t 12)),
                        o1 104 (.mv (.t 13)),
                        o1 105 (.iaddr 1 (.t 103) (.t 104)),
                        o1 106 (.load none (.t 105)),
                        o1 107 (.mv (.t 14)),
                        o1 108 (.iaddr 1 (.t 106) (.t 107)),
                        o0 (.store 1 (.t 108) (cI (-1)))])
                       (.seq (.seq (.reg [o1 109 (.mv (.t 13)),
                          o1 110 (.mv (.t 0)),
                          o1 111 (.lenL (.t 110)),
                          o1 112 (.bin .eql (.t 109) (.t 111)),
                          o1 113 (.mv (.t 112)),
                          oT 114 (.mv (.t 14)) 113,
                          oT 115 (.mv (.t 1)) 113,
                          oT 116 (.lenL (.t 115)) 113,
                          oT 117 (.bin .eql (.t 114) (.t 116)) 113,
                          o1 118 (.pick (.t 113) (.t 117) (cB false))])
                         (.cond (.t 118) (.reg [o1 119 (.mv (.t 12)),
                           o1 120 (.mv (.t 13)),
                           o1 121 (.iaddr 1 (.t 119) (.t 120)),
                           o1 122 (.load none (.t 121)),
                           o1 123 (.mv (.t 14)),
                           o1 124 (.iaddr 1 (.t 122) (.t 123)),
                           o0 (.store 1 (.t 124) (cI 0))]) (.skip)))
                        (.seq (.reg [o1 15 (.mv (cI 0))])
                         (.block 8 (.loop (.seq (.seq (.reg [o1 125 (.mv (.t 15)),
                              o1 126 (.bin .lss (.t 125) (cI 6))])
                             (.cond (.t 126) (.skip) (.exit 8)))
                            (.seq (.block 9 (.seq (.reg [o1 129 (.call (.f 66) []),
                                o1 130 (.mv (.t 15)),
                                o1 131 (.ixa 6 2 true (.t 129) (.t 130)),
                                o1 16 (.alloc 41 2 [(.int .i64 0), (.int .i64 0)]),
                                o0 (.store 2 (.t 16) (.t 131))])
                               (.seq (.seq (.reg [o1 132 (.mv (.t 13)),
                                  o1 133 (.faddr 0 (.t 16)),
                                  o1 134 (.load none (.t 133)),
                                  o1 135 (.bin .add (.t 132) (.t 134)),
                                  o1 136 (.mv (.t 0)),
                                  o1 137 (.lenL (.t 136)),
                                  o1 138 (.bin .gtr (.t 135) (.t 137)),
                                  o1 139 (.mv (.t 138)),
                                  oF 140 (.mv (.t 14)) 139,
                                  oF 141 (.faddr 1 (.t 16)) 139,
                                  oF 142 (.load none (.t 141)) 139,
                                  oF 143 (.bin .add (.t 140) (.t 142)) 139,
                                  oF 144 (.mv (.t 1)) 139,
                                  oF 145 (.lenL (.t 144)) 139,
                                  oF 146 (.bin .gtr (.t 143) (.t 145)) 139,
                                  o1 147 (.pick (.t 139) (cB true) (.t 146))])
                                 (.cond (.t 147) (.exit 9) (.skip)))
                                (.seq (.regD [o1 148 (.mv (.t 0)),
                                  o1 149 (.mv (.t 1)),
                                  o1 150 (.mv (.t 13)),
                                  o1 151 (.mv (.t 14)),
                                  o1 152 (.mv (.t 2)),
                                  o1 153 (.load (some 2) (.t 16)),
                                  o1 154 (.call (.f 67) [(.t 148), (.t 149), (.t 150), (.t 151), (.t 152), (.t 153)]),
                                  o1 155 (.mv (.t 12)),
                                  o1 156 (.mv (.t 13)),
                                  o1 157 (.faddr 0 (.t 16)),
                                  o1 158 (.load none (.t 157)),
                                  o1 159 (.bin .add (.t 156) (.t 158)),
                                  o1 160 (.iaddr 1 (.t 155) (.t 159)),
                                  o1 161 (.load none (.t 160)),
                                  o1 162 (.mv (.t 14)),
                                  o1 163 (.faddr 1 (.t 16)),
                                  o1 164 (.load none (.t 163)),
                                  o1 165 (.bin .add (.t 162) (.t 164)),
                                  o1 166 (.iaddr 1 (.t 161) (.t 165)),
                                  o1 167 (.load none (.t 166)),
                                  o1 168 (.bin .add (.t 154) (.t 167)),
                                  o1 17 (.mv (.t 168))])
                                 (.seq (.reg [o1 169 (.mv (.t 12)),
                                   o1 170 (.mv (.t 13)),
                                   o1 171 (.iaddr 1 (.t 169) (.t 170)),
                                   o1 172 (.load none (.t 171)),
                                   o1 173 (.mv (.t 14)),
                                   o1 174 (.iaddr 1 (.t 172) (.t 173)),
                                   o1 175 (.load none (.t 174)),
                                   o1 176 (.bin .lss (.t 175) (cI 0)),
                                   o1 177 (.mv (.t 176)),
                                   oF 178 (.mv (.t 17)) 177,
                                   oF 179 (.mv (.t 12)) 177,
                                   oF 180 (.mv (.t 13)) 177,
                                   oF 181 (.iaddr 1 (.t 179) (.t 180)) 177,
                                   oF 182 (.load none (.t 181)) 177,
                                   oF 183 (.mv (.t 14)) 177,
                                   oF 184 (.iaddr 1 (.t 182) (.t 183)) 177,
                                   oF 185 (.load none (.t 184)) 177,
                                   oF 186 (.bin .lss (.t 178) (.t 185)) 177,
                                   o1 187 (.pick (.t 177) (cB true) (.t 186))])
                                  (.cond (.t 187) (.reg [o1 188 (.mv (.t 12)),
                                    o1 189 (.mv (.t 13)),
                                    o1 190 (.iaddr 1 (.t 188) (.t 189)),
                                    o1 191 (.load none (.t 190)),
                                    o1 192 (.mv (.t 14)),
                                    o1 193 (.mv (.t 17)),
                                    o1 194 (.iaddr 1 (.t 191) (.t 192)),
                                    o0 (.store 1 (.t 194) (.t 193))]) (.skip)))))))
                             (.reg [o1 127 (.mv (.t 15)),
                              o1 128 (.bin .add (.t 127) (cI 1)),
                              o1 15 (.mv (.t 128))])))))))))
                     (.reg [o1 101 (.mv (.t 14)),
                      o1 102 (.bin .sub (.t 101) (cI 1)),
                      o1 14 (.mv (.t 102))]))))))))
              (.reg [o1 88 (.mv (.t 13)),
               o1 89 (.bin .sub (.t 88) (cI 1)),
               o1 13 (.mv (.t 89))]))))))
         (.seq (.reg [o1 18 (.mv (.c (.slice none 0 0)))])
          (.seq (.reg [o1 19 (.mv (cI 0)),
            o1 20 (.mv (cI 0))])
           (.seq (.block 10 (.loop (.seq (.seq (.reg [o1 195 (.mv (.t 19)),
                 o1 196 (.mv (.t 0)),
                 o1 197 (.lenL (.t 196)),
                 o1 198 (.bin .lss (.t 195) (.t 197)),
                 o1 199 (.mv (.t 198)),
                 oF 200 (.mv (.t 20)) 199,
                 oF 201 (.mv (.t 1)) 199,
                 oF 202 (.lenL (.t 201)) 199,
                 oF 203 (.bin .lss (.t 200) (.t 202)) 199,
                 o1 204 (.pick (.t 199) (cB true) (.t 203))])
                (.cond (.t 204) (.skip) (.exit 10)))
               (.block 11 (.seq (.reg [o1 21 (.mv (cI 0))])
                 (.block 12 (.loop (.seq (.seq (.reg [o1 205 (.mv (.t 21)),
                      o1 206 (.bin .lss (.t 205) (cI 6))])
                     (.cond (.t 206) (.skip) (.exit 12)))
                    (.seq (.block 13 (.seq (.reg [o1 209 (.call (.f 66) []),
                        o1 210 (.mv (.t 21)),
                        o1 211 (.ixa 6 2 true (.t 209) (.t 210)),
                        o1 22 (.alloc 41 2 [(.int .i64 0), (.int .i64 0)]),
                        o0 (.store 2 (.t 22) (.t 211))])
                       (.seq (.seq (.regD [o1 212 (.mv (.t 19)),
                          o1 213 (.faddr 0 (.t 22)),
                          o1 214 (.load none (.t 213)),
                          o1 215 (.bin .add (.t 212) (.t 214)),
                          o1 216 (.mv (.t 0)),
                          o1 217 (.lenL (.t 216)),
                          o1 218 (.bin .gtr (.t 215) (.t 217)),
                          o1 219 (.mv (.t 218)),
                          oF 220 (.mv (.t 20)) 219,
                          oF 221 (.faddr 1 (.t 22)) 219,
                          oF 222 (.load none (.t 221)) 219,
                          oF 223 (.bin .add (.t 220) (.t 222)) 219,
                          oF 224 (.mv (.t 1)) 219,
                          oF 225 (.lenL (.t 224)) 219,
                          oF 226 (.bin .gtr (.t 223) (.t 225)) 219,
                          o1 227 (.pick (.t 219) (cB true) (.t 226)),
                          o1 228 (.mv (.t 227)),
                          oF 229 (.mv (.t 0)) 228,
                          oF 230 (.mv (.t 1)) 228,
                          oF 231 (.mv (.t 19)) 228,
                          oF 232 (.mv (.t 20)) 228,
                          oF 233 (.mv (.t 2)) 228,
                          oF 234 (.load (some 2) (.t 22)) 228,
                          oF 235 (.call (.f 67) [(.t 229), (.t 230), (.t 231), (.t 232), (.t 233), (.t 234)]) 228,
                          oF 236 (.mv (.t 12)) 228,
                          oF 237 (.mv (.t 19)) 228,
                          oF 238 (.faddr 0 (.t 22)) 228,
                          oF 239 (.load none (.t 238)) 228,
                          oF 240 (.bin .add (.t 237) (.t 239)) 228,
                          oF 241 (.iaddr 1 (.t 236) (.t 240)) 228,
                          oF 242 (.load none (.t 241)) 228,
                          oF 243 (.mv (.t 20)) 228,
                          oF 244 (.faddr 1 (.t 22)) 228,
                          oF 245 (.load none (.t 244)) 228,
                          oF 246 (.bin .add (.t 243) (.t 245)) 228,
                          oF 247 (.iaddr 1 (.t 242) (.t 246)) 228,
                          oF 248 (.load none (.t 247)) 228,
                          oF 249 (.bin .add (.t 235) (.t 248)) 228,
                          oF 250 (.mv (.t 12)) 228,
                          oF 251 (.mv (.t 19)) 228,
                          oF 252 (.iaddr 1 (.t 250) (.t 251)) 228,
                          oF 253 (.load none (.t 252)) 228,
                          oF 254 (.mv (.t 20)) 228,
                          oF 255 (.iaddr 1 (.t 253) (.t 254)) 228,
                          oF 256 (.load none (.t 255)) 228,
                          oF 257 (.bin .neq (.t 249) (.t 256)) 228,
                          o1 258 (.pick (.t 228) (cB true) (.t 257))])
                         (.cond (.t 258) (.exit 13) (.skip)))
                        (.seq (.reg [o1 259 (.mv (.t 18)),
                          o1 260 (.load (some 2) (.t 22)),
                          o1 261 (.buildSl 41 2 1 [(.int .i64 0), (.int .i64 0)] [(0, 2, (.t 260))]),
                          o1 262 (.app 41 2 16 (.t 259) (.t 261)),
                          o1 18 (.mv (.t 262))])
                         (.seq (.regD [o1 263 (.mv (.t 19)),
                           o1 264 (.faddr 0 (.t 22)),
                           o1 265 (.load none (.t 264)),
                           o1 266 (.bin .add (.t 263) (.t 265)),
                           o1 267 (.mv (.t 20)),
                           o1 268 (.faddr 1 (.t 22)),
                           o1 269 (.load none (.t 268)),
                           o1 270 (.bin .add (.t 267) (.t 269)),
                           o1 19 (.mv (.t 266)),
                           o1 20 (.mv (.t 270))])
                          (.exit 12))))))
                     (.reg [o1 207 (.mv (.t 21)),
                      o1 208 (.bin .add (.t 207) (cI 1)),
                      o1 21 (.mv (.t 208))]))))))))))
            (.seq (.regD [o1 271 (.mv (.t 18)),
              o1 272 (.mv (.t 12)),
              o1 273 (.iaddr 1 (.t 272) (cI 0)),
              o1 274 (.load none (.t 273)),
              o1 275 (.iaddr 1 (.t 274) (cI 0)),
              o1 276 (.load none (.t 275)),
              o1 6 (.mv (.t 271)),
              o1 7 (.mv (.t 276)),
              o1 8 (.mv (cI 0))])
             (.ret))))))))))))
theorem s28_ok : lookF Try.prog 28 = some (s28, 277, [.tmp 6, .tmp 7, .tmp 8]) := by kernel_rfl
set_option maxRecDepth 10000 in
set_option maxHeartbeats 2000000 in
theorem rAlign_ok (a b : List Int) (s : Int) : Fn P 28 [sl a, sl b, intA s] (alA (alT a b s)) := by
  by_cases hL : 200 < a.length ∨ 200 < b.length
  · rw [alT, if_pos hL]
    by_cases hL2 : 200 < a.length
    · (refine fn_look s28_ok (by simp) (by intro k; simp only [go_sem, Nat.reduceEqDiff, ↓reduceIte, reduceCtorEq, Nat.reduceAdd, Nat.reduceMul, Int.reduceToNat, List.reduceReplicate, Nat.reduceLeDiff, Nat.reduceLT, Int.reduceLT, Int.reduceLE, Int.reduceEq]) fun S hS => cwp_sound _ _ _ _ ?_; simp (maxSteps := 900000) (disch := omega) only [s28, go_sem, Nat.reduceEqDiff, ↓reduceIte, reduceCtorEq, Nat.reduceAdd, Nat.reduceMul, Int.reduceToNat, List.reduceReplicate, Nat.reduceLeDiff, Nat.reduceLT, Int.reduceLT, Int.reduceLE, Int.reduceEq])
      repeat' (first | with_reducible refine inw ?_ | simp (maxSteps := 900000) (disch := omega) only [go_sem, Nat.reduceEqDiff, ↓reduceIte, reduceCtorEq, Nat.reduceAdd, Nat.reduceMul, Int.reduceToNat, List.reduceReplicate, Nat.reduceLeDiff, Nat.reduceLT, Int.reduceLT, Int.reduceLE, Int.reduceEq] | with_reducible refine giv_intro fun _h => ?_ | with_reducible refine alt_intro ?_ fun _h => ?_ | with_reducible refine pickD_nil ?_ | (with_reducible refine brc (fun _h => ?_) fun _h => ?_) <;> first | (exfalso; omega) | simp only [decide_eq_false _h] | simp only [(_h : (_ : Bool) = _)] | simp only [decide_eq_true _h] | skip)
      rfl
    · (refine fn_look s28_ok (by simp) (by intro k; simp only [go_sem, Nat.reduceEqDiff, ↓reduceIte, reduceCtorEq, Nat.reduceAdd, Nat.reduceMul, Int.reduceToNat, List.reduceReplicate, Nat.reduceLeDiff, Nat.reduceLT, Int.reduceLT, Int.reduceLE, Int.reduceEq]) fun S hS => cwp_sound _ _ _ _ ?_; simp (maxSteps := 900000) (disch := omega) only [s28, go_sem, Nat.reduceEqDiff, ↓reduceIte, reduceCtorEq, Nat.reduceAdd, Nat.reduceMul, Int.reduceToNat, List.reduceReplicate, Nat.reduceLeDiff, Nat.reduceLT, Int.reduceLT, Int.reduceLE, Int.reduceEq])
      repeat' (first | with_reducible refine inw ?_ | simp (maxSteps := 900000) (disch := omega) only [go_sem, Nat.reduceEqDiff, ↓reduceIte, reduceCtorEq, Nat.reduceAdd, Nat.reduceMul, Int.reduceToNat, List.reduceReplicate, Nat.reduceLeDiff, Nat.reduceLT, Int.reduceLT, Int.reduceLE, Int.reduceEq] | with_reducible refine giv_intro fun _h => ?_ | with_reducible refine alt_intro ?_ fun _h => ?_ | with_reducible refine pickD_nil ?_ | (with_reducible refine brc (fun _h => ?_) fun _h => ?_) <;> first | (exfalso; omega) | simp only [decide_eq_false _h] | simp only [(_h : (_ : Bool) = _)] | simp only [decide_eq_true _h] | skip)
      rfl
  have hla : a.length ≤ 200 := by omega
  have hlb : b.length ≤ 200 := by omega
  by_cases hs : s < 0 ∨ 1000 < s
  · rw [alT, if_neg hL, if_pos (.inr (.inr (decide_eq_true hs)))]
    by_cases hs0 : s < 0
    · (refine fn_look s28_ok (by simp) (by intro k; simp only [go_sem, Nat.reduceEqDiff, ↓reduceIte, reduceCtorEq, Nat.reduceAdd, Nat.reduceMul, Int.reduceToNat, List.reduceReplicate, Nat.reduceLeDiff, Nat.reduceLT, Int.reduceLT, Int.reduceLE, Int.reduceEq]) fun S hS => cwp_sound _ _ _ _ ?_; simp (maxSteps := 900000) (disch := omega) only [s28, go_sem, Nat.reduceEqDiff, ↓reduceIte, reduceCtorEq, Nat.reduceAdd, Nat.reduceMul, Int.reduceToNat, List.reduceReplicate, Nat.reduceLeDiff, Nat.reduceLT, Int.reduceLT, Int.reduceLE, Int.reduceEq])
      repeat' (first | with_reducible refine inw ?_ | simp (maxSteps := 900000) (disch := omega) only [go_sem, Nat.reduceEqDiff, ↓reduceIte, reduceCtorEq, Nat.reduceAdd, Nat.reduceMul, Int.reduceToNat, List.reduceReplicate, Nat.reduceLeDiff, Nat.reduceLT, Int.reduceLT, Int.reduceLE, Int.reduceEq] | with_reducible refine giv_intro fun _h => ?_ | with_reducible refine alt_intro ?_ fun _h => ?_ | with_reducible refine pickD_nil ?_ | (with_reducible refine brc (fun _h => ?_) fun _h => ?_) <;> first | (exfalso; omega) | simp only [decide_eq_false _h] | simp only [(_h : (_ : Bool) = _)] | simp only [decide_eq_true _h] | skip)
      (refine loopC hS [0, 1, 2] (by simp only [go_sem, Nat.reduceEqDiff, ↓reduceIte, reduceCtorEq, Nat.reduceAdd, Nat.reduceMul, Int.reduceToNat, List.reduceReplicate, Nat.reduceLeDiff, Nat.reduceLT, Int.reduceLT, Int.reduceLE, Int.reduceEq]; try rfl) (fun (i : Nat) => [(9, boolA true), (10, intA i)]) (fun (i : Nat) => []) (fun (i : Nat) => i ≤ a.length) (fun (i : Nat) => a.length - i) (0) ?_ (by intro s; first | rfl | (rcases s with ⟨_, _⟩; rfl) | (rcases s with ⟨_, _, _⟩; rfl) | (rcases s with ⟨_, _, _, _⟩; rfl) | (rcases s with ⟨_, _, _, _, _⟩; rfl)) ?_)
      · simp (maxSteps := 900000) (disch := omega) only [go_sem, Nat.reduceEqDiff, ↓reduceIte, reduceCtorEq, Nat.reduceAdd, Nat.reduceMul, Int.reduceToNat, List.reduceReplicate, Nat.reduceLeDiff, Nat.reduceLT, Int.reduceLT, Int.reduceLE, Int.reduceEq]; exact Nat.zero_le _
      rintro i hi
      replace hi : i ≤ a.length := hi
      repeat' (first | with_reducible refine inw ?_ | simp (maxSteps := 900000) (disch := omega) only [go_sem, Nat.reduceEqDiff, ↓reduceIte, reduceCtorEq, Nat.reduceAdd, Nat.reduceMul, Int.reduceToNat, List.reduceReplicate, Nat.reduceLeDiff, Nat.reduceLT, Int.reduceLT, Int.reduceLE, Int.reduceEq] | with_reducible refine giv_intro fun _h => ?_ | with_reducible refine alt_intro ?_ fun _h => ?_ | with_reducible refine pickD_nil ?_ | (with_reducible refine brc (fun _h => ?_) fun _h => ?_) <;> first | (exfalso; omega) | simp only [decide_eq_false _h] | simp only [(_h : (_ : Bool) = _)] | simp only [decide_eq_true _h] | skip)
      · exact ⟨i + 1, ⟨by omega, by omega⟩, by omega⟩
      (refine loopC hS [0, 1, 2] (by simp only [go_sem, Nat.reduceEqDiff, ↓reduceIte, reduceCtorEq, Nat.reduceAdd, Nat.reduceMul, Int.reduceToNat, List.reduceReplicate, Nat.reduceLeDiff, Nat.reduceLT, Int.reduceLT, Int.reduceLE, Int.reduceEq]; try rfl) (fun (k : Nat) => [(9, boolA true), (11, intA k)]) (fun (k : Nat) => []) (fun (k : Nat) => k ≤ b.length) (fun (k : Nat) => b.length - k) (0) ?_ (by intro s; first | rfl | (rcases s with ⟨_, _⟩; rfl) | (rcases s with ⟨_, _, _⟩; rfl) | (rcases s with ⟨_, _, _, _⟩; rfl) | (rcases s with ⟨_, _, _, _, _⟩; rfl)) ?_)
      · simp (maxSteps := 900000) (disch := omega) only [go_sem, Nat.reduceEqDiff, ↓reduceIte, reduceCtorEq, Nat.reduceAdd, Nat.reduceMul, Int.reduceToNat, List.reduceReplicate, Nat.reduceLeDiff, Nat.reduceLT, Int.reduceLT, Int.reduceLE, Int.reduceEq]; exact Nat.zero_le _
      rintro k hk
      replace hk : k ≤ b.length := hk
      repeat' (first | with_reducible refine inw ?_ | simp (maxSteps := 900000) (disch := omega) only [go_sem, Nat.reduceEqDiff, ↓reduceIte, reduceCtorEq, Nat.reduceAdd, Nat.reduceMul, Int.reduceToNat, List.reduceReplicate, Nat.reduceLeDiff, Nat.reduceLT, Int.reduceLT, Int.reduceLE, Int.reduceEq] | with_reducible refine giv_intro fun _h => ?_ | with_reducible refine alt_intro ?_ fun _h => ?_ | with_reducible refine pickD_nil ?_ | (with_reducible refine brc (fun _h => ?_) fun _h => ?_) <;> first | (exfalso; omega) | simp only [decide_eq_false _h] | simp only [(_h : (_ : Bool) = _)] | simp only [decide_eq_true _h] | skip)
      · exact ⟨k + 1, ⟨by omega, by omega⟩, by omega⟩
      all_goals rfl
    · (refine fn_look s28_ok (by simp) (by intro k; simp only [go_sem, Nat.reduceEqDiff, ↓reduceIte, reduceCtorEq, Nat.reduceAdd, Nat.reduceMul, Int.reduceToNat, List.reduceReplicate, Nat.reduceLeDiff, Nat.reduceLT, Int.reduceLT, Int.reduceLE, Int.reduceEq]) fun S hS => cwp_sound _ _ _ _ ?_; simp (maxSteps := 900000) (disch := omega) only [s28, go_sem, Nat.reduceEqDiff, ↓reduceIte, reduceCtorEq, Nat.reduceAdd, Nat.reduceMul, Int.reduceToNat, List.reduceReplicate, Nat.reduceLeDiff, Nat.reduceLT, Int.reduceLT, Int.reduceLE, Int.reduceEq])
      repeat' (first | with_reducible refine inw ?_ | simp (maxSteps := 900000) (disch := omega) only [go_sem, Nat.reduceEqDiff, ↓reduceIte, reduceCtorEq, Nat.reduceAdd, Nat.reduceMul, Int.reduceToNat, List.reduceReplicate, Nat.reduceLeDiff, Nat.reduceLT, Int.reduceLT, Int.reduceLE, Int.reduceEq] | with_reducible refine giv_intro fun _h => ?_ | with_reducible refine alt_intro ?_ fun _h => ?_ | with_reducible refine pickD_nil ?_ | (with_reducible refine brc (fun _h => ?_) fun _h => ?_) <;> first | (exfalso; omega) | simp only [decide_eq_false _h] | simp only [(_h : (_ : Bool) = _)] | simp only [decide_eq_true _h] | skip)
      (refine loopC hS [0, 1, 2] (by simp only [go_sem, Nat.reduceEqDiff, ↓reduceIte, reduceCtorEq, Nat.reduceAdd, Nat.reduceMul, Int.reduceToNat, List.reduceReplicate, Nat.reduceLeDiff, Nat.reduceLT, Int.reduceLT, Int.reduceLE, Int.reduceEq]; try rfl) (fun (i : Nat) => [(9, boolA true), (10, intA i)]) (fun (i : Nat) => []) (fun (i : Nat) => i ≤ a.length) (fun (i : Nat) => a.length - i) (0) ?_ (by intro s; first | rfl | (rcases s with ⟨_, _⟩; rfl) | (rcases s with ⟨_, _, _⟩; rfl) | (rcases s with ⟨_, _, _, _⟩; rfl) | (rcases s with ⟨_, _, _, _, _⟩; rfl)) ?_)
      · simp (maxSteps := 900000) (disch := omega) only [go_sem, Nat.reduceEqDiff, ↓reduceIte, reduceCtorEq, Nat.reduceAdd, Nat.reduceMul, Int.reduceToNat, List.reduceReplicate, Nat.reduceLeDiff, Nat.reduceLT, Int.reduceLT, Int.reduceLE, Int.reduceEq]; simp; omega
      rintro i hi
      replace hi : i ≤ a.length := hi
      repeat' (first | with_reducible refine inw ?_ | simp (maxSteps := 900000) (disch := omega) only [go_sem, Nat.reduceEqDiff, ↓reduceIte, reduceCtorEq, Nat.reduceAdd, Nat.reduceMul, Int.reduceToNat, List.reduceReplicate, Nat.reduceLeDiff, Nat.reduceLT, Int.reduceLT, Int.reduceLE, Int.reduceEq] | with_reducible refine giv_intro fun _h => ?_ | with_reducible refine alt_intro ?_ fun _h => ?_ | with_reducible refine pickD_nil ?_ | (with_reducible refine brc (fun _h => ?_) fun _h => ?_) <;> first | (exfalso; omega) | simp only [decide_eq_false _h] | simp only [(_h : (_ : Bool) = _)] | simp only [decide_eq_true _h] | skip)
      · exact ⟨i + 1, ⟨by omega, by omega⟩, by omega⟩
      (refine loopC hS [0, 1, 2] (by simp only [go_sem, Nat.reduceEqDiff, ↓reduceIte, reduceCtorEq, Nat.reduceAdd, Nat.reduceMul, Int.reduceToNat, List.reduceReplicate, Nat.reduceLeDiff, Nat.reduceLT, Int.reduceLT, Int.reduceLE, Int.reduceEq]; try rfl) (fun (k : Nat) => [(9, boolA true), (11, intA k)]) (fun (k : Nat) => []) (fun (k : Nat) => k ≤ b.length) (fun (k : Nat) => b.length - k) (0) ?_ (by intro s; first | rfl | (rcases s with ⟨_, _⟩; rfl) | (rcases s with ⟨_, _, _⟩; rfl) | (rcases s with ⟨_, _, _, _⟩; rfl) | (rcases s with ⟨_, _, _, _, _⟩; rfl)) ?_)
      · simp (maxSteps := 900000) (disch := omega) only [go_sem, Nat.reduceEqDiff, ↓reduceIte, reduceCtorEq, Nat.reduceAdd, Nat.reduceMul, Int.reduceToNat, List.reduceReplicate, Nat.reduceLeDiff, Nat.reduceLT, Int.reduceLT, Int.reduceLE, Int.reduceEq]; exact Nat.zero_le _
      rintro k hk
      replace hk : k ≤ b.length := hk
      repeat' (first | with_reducible refine inw ?_ | simp (maxSteps := 900000) (disch := omega) only [go_sem, Nat.reduceEqDiff, ↓reduceIte, reduceCtorEq, Nat.reduceAdd, Nat.reduceMul, Int.reduceToNat, List.reduceReplicate, Nat.reduceLeDiff, Nat.reduceLT, Int.reduceLT, Int.reduceLE, Int.reduceEq] | with_reducible refine giv_intro fun _h => ?_ | with_reducible refine alt_intro ?_ fun _h => ?_ | with_reducible refine pickD_nil ?_ | (with_reducible refine brc (fun _h => ?_) fun _h => ?_) <;> first | (exfalso; omega) | simp only [decide_eq_false _h] | simp only [(_h : (_ : Bool) = _)] | simp only [decide_eq_true _h] | skip)
      · exact ⟨k + 1, ⟨by omega, by omega⟩, by omega⟩
      all_goals rfl
  (refine fn_look s28_ok (by simp) (by intro k; simp only [go_sem, Nat.reduceEqDiff, ↓reduceIte, reduceCtorEq, Nat.reduceAdd, Nat.reduceMul, Int.reduceToNat, List.reduceReplicate, Nat.reduceLeDiff, Nat.reduceLT, Int.reduceLT, Int.reduceLE, Int.reduceEq]) fun S hS => cwp_sound _ _ _ _ ?_; simp (maxSteps := 900000) (disch := omega) only [s28, go_sem, Nat.reduceEqDiff, ↓reduceIte, reduceCtorEq, Nat.reduceAdd, Nat.reduceMul, Int.reduceToNat, List.reduceReplicate, Nat.reduceLeDiff, Nat.reduceLT, Int.reduceLT, Int.reduceLE, Int.reduceEq])
  repeat' (first | with_reducible refine inw ?_ | simp (maxSteps := 900000) (disch := omega) only [go_sem, Nat.reduceEqDiff, ↓reduceIte, reduceCtorEq, Nat.reduceAdd, Nat.reduceMul, Int.reduceToNat, List.reduceReplicate, Nat.reduceLeDiff, Nat.reduceLT, Int.reduceLT, Int.reduceLE, Int.reduceEq] | with_reducible refine giv_intro fun _h => ?_ | with_reducible refine alt_intro ?_ fun _h => ?_ | with_reducible refine pickD_nil ?_ | (with_reducible refine brc (fun _h => ?_) fun _h => ?_) <;> first | (exfalso; omega) | simp only [decide_eq_false _h] | simp only [(_h : (_ : Bool) = _)] | simp only [decide_eq_true _h] | skip)
  (refine loopC hS [0, 1, 2] (by simp only [go_sem, Nat.reduceEqDiff, ↓reduceIte, reduceCtorEq, Nat.reduceAdd, Nat.reduceMul, Int.reduceToNat, List.reduceReplicate, Nat.reduceLeDiff, Nat.reduceLT, Int.reduceLT, Int.reduceLE, Int.reduceEq]; try rfl) (fun (i : Nat) => [(9, boolA ((a.take i).any badN)), (10, intA i)]) (fun (i : Nat) => []) (fun (i : Nat) => i ≤ a.length) (fun (i : Nat) => a.length - i) (0) ?_ (by intro s; first | rfl | (rcases s with ⟨_, _⟩; rfl) | (rcases s with ⟨_, _, _⟩; rfl) | (rcases s with ⟨_, _, _, _⟩; rfl) | (rcases s with ⟨_, _, _, _, _⟩; rfl)) ?_)
  · simp (maxSteps := 900000) (disch := omega) only [go_sem, Nat.reduceEqDiff, ↓reduceIte, reduceCtorEq, Nat.reduceAdd, Nat.reduceMul, Int.reduceToNat, List.reduceReplicate, Nat.reduceLeDiff, Nat.reduceLT, Int.reduceLT, Int.reduceLE, Int.reduceEq]; simp; omega
  rintro i hi
  replace hi : i ≤ a.length := hi
  by_cases hia : i < a.length
  · have hb1 : (a.take (i + 1)).any badN = ((a.take i).any badN || badN (nth a i)) := by rw [take_nth1 hia, List.any_append]; simp
    rw [badN] at hb1
    repeat' (first | with_reducible refine inw ?_ | simp (maxSteps := 900000) (disch := omega) only [go_sem, Nat.reduceEqDiff, ↓reduceIte, reduceCtorEq, Nat.reduceAdd, Nat.reduceMul, Int.reduceToNat, List.reduceReplicate, Nat.reduceLeDiff, Nat.reduceLT, Int.reduceLT, Int.reduceLE, Int.reduceEq] | with_reducible refine giv_intro fun _h => ?_ | with_reducible refine alt_intro ?_ fun _h => ?_ | with_reducible refine pickD_nil ?_ | (with_reducible refine brc (fun _h => ?_) fun _h => ?_) <;> first | (exfalso; omega) | simp only [decide_eq_false _h] | simp only [(_h : (_ : Bool) = _)] | simp only [decide_eq_true _h] | skip)
    all_goals
      refine ⟨i + 1, ⟨by omega, by omega⟩, ?_, by omega⟩
      first
        | (rw [hb1, show (a.take i).any badN = true by assumption]; rfl)
        | (rw [hb1, show (a.take i).any badN = false by assumption, decide_eq_true (Or.inl (by assumption))]; rfl)
        | (rw [hb1, show (a.take i).any badN = false by assumption, Bool.false_or]; exact decide_eq_decide.2 ⟨fun h => .inr h, fun h => by omega⟩)
  obtain rfl : i = a.length := by omega
  rw [List.take_length]
  repeat' (first | with_reducible refine inw ?_ | simp (maxSteps := 900000) (disch := omega) only [go_sem, Nat.reduceEqDiff, ↓reduceIte, reduceCtorEq, Nat.reduceAdd, Nat.reduceMul, Int.reduceToNat, List.reduceReplicate, Nat.reduceLeDiff, Nat.reduceLT, Int.reduceLT, Int.reduceLE, Int.reduceEq] | with_reducible refine giv_intro fun _h => ?_ | with_reducible refine alt_intro ?_ fun _h => ?_ | with_reducible refine pickD_nil ?_ | (with_reducible refine brc (fun _h => ?_) fun _h => ?_) <;> first | (exfalso; omega) | simp only [decide_eq_false _h] | simp only [(_h : (_ : Bool) = _)] | simp only [decide_eq_true _h] | skip)
  (refine loopC hS [0, 1, 2] (by simp only [go_sem, Nat.reduceEqDiff, ↓reduceIte, reduceCtorEq, Nat.reduceAdd, Nat.reduceMul, Int.reduceToNat, List.reduceReplicate, Nat.reduceLeDiff, Nat.reduceLT, Int.reduceLT, Int.reduceLE, Int.reduceEq]; try rfl) (fun (k : Nat) => [(9, boolA (a.any badN || (b.take k).any badN)), (11, intA k)]) (fun (k : Nat) => []) (fun (k : Nat) => k ≤ b.length) (fun (k : Nat) => b.length - k) (0) ?_ (by intro s; first | rfl | (rcases s with ⟨_, _⟩; rfl) | (rcases s with ⟨_, _, _⟩; rfl) | (rcases s with ⟨_, _, _, _⟩; rfl) | (rcases s with ⟨_, _, _, _, _⟩; rfl)) ?_)
  · simp (maxSteps := 900000) (disch := omega) only [go_sem, Nat.reduceEqDiff, ↓reduceIte, reduceCtorEq, Nat.reduceAdd, Nat.reduceMul, Int.reduceToNat, List.reduceReplicate, Nat.reduceLeDiff, Nat.reduceLT, Int.reduceLT, Int.reduceLE, Int.reduceEq]; simp
  rintro k hk
  replace hk : k ≤ b.length := hk
  by_cases hka : k < b.length
  · have hb1 : (a.any badN || (b.take (k + 1)).any badN) = ((a.any badN || (b.take k).any badN) || badN (nth b k)) := by rw [take_nth1 hka, List.any_append, Bool.or_assoc]; simp
    rw [badN] at hb1
    repeat' (first | with_reducible refine inw ?_ | simp (maxSteps := 900000) (disch := omega) only [go_sem, Nat.reduceEqDiff, ↓reduceIte, reduceCtorEq, Nat.reduceAdd, Nat.reduceMul, Int.reduceToNat, List.reduceReplicate, Nat.reduceLeDiff, Nat.reduceLT, Int.reduceLT, Int.reduceLE, Int.reduceEq] | with_reducible refine giv_intro fun _h => ?_ | with_reducible refine alt_intro ?_ fun _h => ?_ | with_reducible refine pickD_nil ?_ | (with_reducible refine brc (fun _h => ?_) fun _h => ?_) <;> first | (exfalso; omega) | simp only [decide_eq_false _h] | simp only [(_h : (_ : Bool) = _)] | simp only [decide_eq_true _h] | skip)
    all_goals
      refine ⟨k + 1, ⟨by omega, by omega⟩, ?_, by omega⟩
      first
        | (rw [hb1, show (a.any badN || (b.take k).any badN) = true by assumption]; rfl)
        | (rw [hb1, show (a.any badN || (b.take k).any badN) = false by assumption, decide_eq_true (Or.inl (by assumption))]; rfl)
        | (rw [hb1, show (a.any badN || (b.take k).any badN) = false by assumption, Bool.false_or]; exact decide_eq_decide.2 ⟨fun h => .inr h, fun h => by omega⟩)
  obtain rfl : k = b.length := by omega
  rw [List.take_length]
  by_cases hB : a.any badN = true ∨ b.any badN = true
  · rw [alT, if_neg hL, if_pos (by rcases hB with h | h; exact .inl h; exact .inr (.inl h))]
    have hB' : (a.any badN || b.any badN) = true := by rw [Bool.or_eq_true]; exact hB
    repeat' (first | with_reducible refine inw ?_ | simp (maxSteps := 900000) (disch := omega) only [go_sem, Nat.reduceEqDiff, ↓reduceIte, reduceCtorEq, Nat.reduceAdd, Nat.reduceMul, Int.reduceToNat, List.reduceReplicate, Nat.reduceLeDiff, Nat.reduceLT, Int.reduceLT, Int.reduceLE, Int.reduceEq, hB'] | with_reducible refine giv_intro fun _h => ?_ | with_reducible refine alt_intro ?_ fun _h => ?_ | with_reducible refine pickD_nil ?_ | (with_reducible refine brc (fun _h => ?_) fun _h => ?_) <;> first | (exfalso; omega) | simp only [decide_eq_false _h] | simp only [(_h : (_ : Bool) = _)] | simp only [decide_eq_true _h] | skip)
    all_goals rfl
  have e1 : a.any badN = false := by cases h : a.any badN; rfl; exact absurd (.inl h) hB
  have e2 : b.any badN = false := by cases h : b.any badN; rfl; exact absurd (.inr h) hB
  have ha := any_ok e1
  have hb := any_ok e2
  have hs' : 0 ≤ s ∧ s ≤ 1000 := by omega
  rw [alT, if_neg hL, if_neg (by rw [e1, e2, badN, decide_eq_false hs]; simp)]
  rw [e1, e2]
  have eAl : ((a.length : Int) + 1).toNat = a.length + 1 := by omega
  have eBl : ((b.length : Int) + 1).toNat = b.length + 1 := by omega
  repeat' (first | with_reducible refine inw ?_ | simp (maxSteps := 900000) (disch := omega) only [go_sem, Nat.reduceEqDiff, ↓reduceIte, reduceCtorEq, Nat.reduceAdd, Nat.reduceMul, Int.reduceToNat, List.reduceReplicate, Nat.reduceLeDiff, Nat.reduceLT, Int.reduceLT, Int.reduceLE, Int.reduceEq, eAl, eBl] | with_reducible refine giv_intro fun _h => ?_ | with_reducible refine alt_intro ?_ fun _h => ?_ | with_reducible refine pickD_nil ?_ | (with_reducible refine brc (fun _h => ?_) fun _h => ?_) <;> first | (exfalso; omega) | simp only [decide_eq_false _h] | simp only [(_h : (_ : Bool) = _)] | simp only [decide_eq_true _h] | skip)
  (refine loopC hS [0, 1, 2, 12] (by simp only [go_sem, Nat.reduceEqDiff, ↓reduceIte, reduceCtorEq, Nat.reduceAdd, Nat.reduceMul, Int.reduceToNat, List.reduceReplicate, Nat.reduceLeDiff, Nat.reduceLT, Int.reduceLT, Int.reduceLE, Int.reduceEq]; try rfl) (fun (i : Nat) => [(13, intA ((i : Int) - 1))]) (fun (i : Nat) => [some (.row 36 1 (tcs i [] (tRs a b s i)))]) (fun (i : Nat) => i ≤ a.length + 1) (fun (i : Nat) => i) (a.length + 1) ?_ (by intro s; first | rfl | (rcases s with ⟨_, _⟩; rfl) | (rcases s with ⟨_, _, _⟩; rfl) | (rcases s with ⟨_, _, _, _⟩; rfl) | (rcases s with ⟨_, _, _, _, _⟩; rfl)) ?_)
  · simp (maxSteps := 900000) (disch := omega) only [go_sem, Nat.reduceEqDiff, ↓reduceIte, reduceCtorEq, Nat.reduceAdd, Nat.reduceMul, Int.reduceToNat, List.reduceReplicate, Nat.reduceLeDiff, Nat.reduceLT, Int.reduceLT, Int.reduceLE, Int.reduceEq]
    have e0 : tRs a b s (a.length + 1) = [] := by rw [tRs, Nat.sub_self]; rfl
    refine ⟨by omega, ?_, ?_⟩
    · rw [e0, tcs, cellsL_nil, List.append_nil, List.append_nil]
    · rw [bels_tcs]; trivial
  rintro i hi
  replace hi : i ≤ a.length + 1 := hi
  by_cases hi0 : i = 0
  · subst hi0
    repeat' (first | with_reducible refine inw ?_ | simp (maxSteps := 900000) (disch := omega) only [go_sem, Nat.reduceEqDiff, ↓reduceIte, reduceCtorEq, Nat.reduceAdd, Nat.reduceMul, Int.reduceToNat, List.reduceReplicate, Nat.reduceLeDiff, Nat.reduceLT, Int.reduceLT, Int.reduceLE, Int.reduceEq] | with_reducible refine giv_intro fun _h => ?_ | with_reducible refine alt_intro ?_ fun _h => ?_ | with_reducible refine pickD_nil ?_ | (with_reducible refine brc (fun _h => ?_) fun _h => ?_) <;> first | (exfalso; omega) | simp only [decide_eq_false _h] | simp only [(_h : (_ : Bool) = _)] | simp only [decide_eq_true _h] | skip)
    refine nil_row 18 41 2 (by simp (maxSteps := 900000) (disch := omega) only [go_sem, Nat.reduceEqDiff, ↓reduceIte, reduceCtorEq, Nat.reduceAdd, Nat.reduceMul, Int.reduceToNat, List.reduceReplicate, Nat.reduceLeDiff, Nat.reduceLT, Int.reduceLT, Int.reduceLE, Int.reduceEq]) ?_
    have zl : (tRs a b s 0).length = a.length + 1 := by rw [tRs, List.length_map, List.length_range]; omega
    have eT : ∀ (L : List (Option Ob)), rowAt (some (.row 36 1 (tcs 0 [] (tRs a b s 0))) :: L) 0 (a.length + 1) = some (36, 1, tcs 0 [] (tRs a b s 0)) := fun L => by
      rw [rowAt_zero, if_pos (by rw [tcs_len, zl, List.length_nil]; omega)]
    have hT : ∀ p, p ≤ a.length → (tcs 0 [] (tRs a b s 0))[p]? = some (sl (tR a b s p)) := fun p hp => by
      rw [tcs_z (by omega), nth_eq (by omega)]; simp only [tRs, List.getElem_map, List.getElem_range, Nat.zero_add]
    have hbel : ∀ k, bels k (tcs 0 [] (tRs a b s 0)) := fun k => by rw [bels_tcs]; trivial
    (refine loopC hS [0, 1, 2, 12] (by simp only [go_sem, Nat.reduceEqDiff, ↓reduceIte, reduceCtorEq, Nat.reduceAdd, Nat.reduceMul, Int.reduceToNat, List.reduceReplicate, Nat.reduceLeDiff, Nat.reduceLT, Int.reduceLT, Int.reduceLE, Int.reduceEq]; try rfl) (fun (⟨out, i, k⟩ : List Bead × Nat × Nat) => [(18, own S 1 out), (19, intA i), (20, intA k)]) (fun (⟨out, i, k⟩ : List Bead × Nat × Nat) => [some (.row 36 1 (tcs 0 [] (tRs a b s 0))), rowO 41 out]) (fun (⟨out, i, k⟩ : List Bead × Nat × Nat) => i ≤ a.length ∧ k ≤ b.length ∧ out.length ≤ i + k ∧ pathB a b s 0 0 = out ++ pathB a b s i k) (fun (⟨out, i, k⟩ : List Bead × Nat × Nat) => (a.length - i) + (b.length - k)) (([], 0, 0)) ?_ (by intro s; first | rfl | (rcases s with ⟨_, _⟩; rfl) | (rcases s with ⟨_, _, _⟩; rfl) | (rcases s with ⟨_, _, _, _⟩; rfl) | (rcases s with ⟨_, _, _, _, _⟩; rfl)) ?_)
    · simp (maxSteps := 900000) (disch := omega) only [go_sem, Nat.reduceEqDiff, ↓reduceIte, reduceCtorEq, Nat.reduceAdd, Nat.reduceMul, Int.reduceToNat, List.reduceReplicate, Nat.reduceLeDiff, Nat.reduceLT, Int.reduceLT, Int.reduceLE, Int.reduceEq]
      exact ⟨⟨Nat.zero_le _, Nat.zero_le _⟩, hbel _⟩
    rintro ⟨out, i, k⟩ ⟨hi2, hk2, ho, hp⟩
    replace hi2 : i ≤ a.length := hi2
    replace hk2 : k ≤ b.length := hk2
    replace ho : out.length ≤ i + k := ho
    replace hp : pathB a b s 0 0 = out ++ pathB a b s i k := hp
    by_cases hgo : i < a.length ∨ k < b.length
    · obtain ⟨x, x1, x2, x3, x4⟩ := find_good ha hb hs' hi2 hk2 hgo
      rw [pathB_step hgo x1 hi2 hk2] at hp
      repeat' (first | with_reducible refine inw ?_ | simp (maxSteps := 900000) (disch := omega) only [go_sem, Nat.reduceEqDiff, ↓reduceIte, reduceCtorEq, Nat.reduceAdd, Nat.reduceMul, Int.reduceToNat, List.reduceReplicate, Nat.reduceLeDiff, Nat.reduceLT, Int.reduceLT, Int.reduceLE, Int.reduceEq] | with_reducible refine giv_intro fun _h => ?_ | with_reducible refine alt_intro ?_ fun _h => ?_ | with_reducible refine pickD_nil ?_ | (with_reducible refine brc (fun _h => ?_) fun _h => ?_) <;> first | (exfalso; omega) | simp only [decide_eq_false _h] | simp only [(_h : (_ : Bool) = _)] | simp only [decide_eq_true _h] | skip)
      all_goals
        (refine loopC hS [0, 1, 2, 12] (by simp only [go_sem, Nat.reduceEqDiff, ↓reduceIte, reduceCtorEq, Nat.reduceAdd, Nat.reduceMul, Int.reduceToNat, List.reduceReplicate, Nat.reduceLeDiff, Nat.reduceLT, Int.reduceLT, Int.reduceLE, Int.reduceEq]; try rfl) (fun (m : Nat) => [(18, own S 1 out), (19, intA i), (20, intA k), (21, intA m)]) (fun (m : Nat) => [some (.row 36 1 (tcs 0 [] (tRs a b s 0))), rowO 41 out]) (fun (m : Nat) => m ≤ 6 ∧ ∀ j, j < m → goodB a b s i k (nth beads j) = false) (fun (m : Nat) => 6 - m) (0) ?_ (by intro s; first | rfl | (rcases s with ⟨_, _⟩; rfl) | (rcases s with ⟨_, _, _⟩; rfl) | (rcases s with ⟨_, _, _, _⟩; rfl) | (rcases s with ⟨_, _, _, _, _⟩; rfl)) ?_)
        · simp (maxSteps := 900000) (disch := omega) only [go_sem, Nat.reduceEqDiff, ↓reduceIte, reduceCtorEq, Nat.reduceAdd, Nat.reduceMul, Int.reduceToNat, List.reduceReplicate, Nat.reduceLeDiff, Nat.reduceLT, Int.reduceLT, Int.reduceLE, Int.reduceEq]
          exact ⟨fun j hj => absurd hj (Nat.not_lt_zero _), hbel _⟩
        rintro m ⟨hm, hno⟩
        replace hm : m ≤ 6 := hm
        by_cases hm6 : m < 6
        · obtain ⟨u, v, hx, hu, hv, huv⟩ := beads_at hm6
          have hbx := bdC_at hm6 hx
          have hnot : (fitsB a b i k ((u : Int), (v : Int)) → costB a b s i k ((u : Int), (v : Int)) + tab a b s (i + u) (k + v) ≠ tab a b s i k) → ∀ j, j < m + 1 → goodB a b s i k (nth beads j) = false := fun hc j hj => by
            rcases Nat.lt_or_ge j m with h | h
            · exact hno j h
            · obtain rfl : j = m := by omega
              rw [goodB, hx]
              by_cases hfb : fitsB a b i k ((u : Int), (v : Int))
              · rw [decide_eq_true hfb, Bool.true_and, decide_eq_false_iff_not]
                exact hc hfb
              · rw [decide_eq_false hfb]; rfl
          by_cases hf1 : i + u ≤ a.length
          · by_cases hf2 : k + v ≤ b.length
            · have c1 := rCost_ok ha hb hs' hla hlb (i := i) (k := k) hu hv ⟨hf1, hf2⟩
              have hu2 : ((i : Int) + u).toNat = i + u := by omega
              have hv2 : ((k : Int) + v).toNat = k + v := by omega
              have hTb := tab_le ha hb hs' hla hlb (i + u) (k + v)
              have hCb := costB_le ha hb hs' i k (x := ((u : Int), (v : Int))) (by rw [← hx]; exact nth_mem hm6)
              have hT1 := hT (i + u) hf1
              have hT2 := hT i hi2
              have hTv : nth (tR a b s (i + u)) (k + v) = tab a b s (i + u) (k + v) := tR_nth hf2
              have hTw : nth (tR a b s i) k = tab a b s i k := tR_nth hk2
              have hl1 := tR_len a b s (i + u)
              have hl2 := tR_len a b s i
              repeat' (first | with_reducible refine inw ?_ | simp (maxSteps := 900000) (disch := omega) only [go_sem, Nat.reduceEqDiff, ↓reduceIte, reduceCtorEq, Nat.reduceAdd, Nat.reduceMul, Int.reduceToNat, List.reduceReplicate, Nat.reduceLeDiff, Nat.reduceLT, Int.reduceLT, Int.reduceLE, Int.reduceEq, bdC_len, hbx, hu2, hv2, hT1, hT2, hTv, hTw, hl1, hl2, eT, z2_2] | (with_reducible apply call (rBeads_ok)); (focus simp (maxSteps := 900000) (disch := omega) only [go_sem, Nat.reduceEqDiff, ↓reduceIte, reduceCtorEq, Nat.reduceAdd, Nat.reduceMul, Int.reduceToNat, List.reduceReplicate, Nat.reduceLeDiff, Nat.reduceLT, Int.reduceLT, Int.reduceLE, Int.reduceEq, bdC_len, hbx, hu2, hv2, hT1, hT2, hTv, hTw, hl1, hl2, eT, z2_2] <;> rfl) | (with_reducible apply call_D (c1)); (focus simp (maxSteps := 900000) (disch := omega) only [go_sem, Nat.reduceEqDiff, ↓reduceIte, reduceCtorEq, Nat.reduceAdd, Nat.reduceMul, Int.reduceToNat, List.reduceReplicate, Nat.reduceLeDiff, Nat.reduceLT, Int.reduceLT, Int.reduceLE, Int.reduceEq, bdC_len, hbx, hu2, hv2, hT1, hT2, hTv, hTw, hl1, hl2, eT, z2_2] <;> rfl) | with_reducible refine giv_intro fun _h => ?_ | with_reducible refine alt_intro ?_ fun _h => ?_ | with_reducible refine pickD_nil ?_ | (with_reducible refine brc (fun _h => ?_) fun _h => ?_) <;> first | (exfalso; omega) | simp only [decide_eq_false _h] | simp only [(_h : (_ : Bool) = _)] | simp only [decide_eq_true _h] | skip)
              all_goals
                have hyes : costB a b s i k ((u : Int), (v : Int)) + tab a b s (i + u) (k + v) = tab a b s i k → pathB a b s 0 0 = (out ++ [((u : Int), (v : Int))]) ++ pathB a b s (i + u) (k + v) := fun hc => by
                  have hg : goodB a b s i k (nth beads m) = true := by
                    rw [goodB, hx, Bool.and_eq_true, decide_eq_true_eq, decide_eq_true_eq]
                    exact ⟨⟨hf1, hf2⟩, hc⟩
                  obtain rfl : x = nth beads m := Option.some.inj (x1.symm.trans (find_at (by rw [beads_len]; exact hm6) hno hg))
                  rw [hp, hx, List.append_assoc]; rfl
                have hlen : (out ++ [((u : Int), (v : Int))]).length = out.length + 1 := by rw [List.length_append, List.length_singleton]
                first
                  | exact ⟨m + 1, ⟨by omega, hm6, hnot fun _ => by omega⟩, by omega, hbel _⟩
                  | exact ⟨(out ++ [((u : Int), (v : Int))], i + u, k + v), ⟨by show a.length - (i + u) + (b.length - (k + v)) < _; omega, hf1, hf2, by show (out ++ [((u : Int), (v : Int))]).length ≤ i + u + (k + v); omega, hyes (by omega)⟩, ⟨⟨by rw [hlen], by rw [hlen]⟩, by show _ = ((i + u : Nat) : Int); omega, by show _ = ((k + v : Nat) : Int); omega⟩, hbel _, by show cellsL out ++ cellsL [((u : Int), (v : Int))] = cellsL (out ++ [((u : Int), (v : Int))]); exact cellsL_app _ _⟩
            · repeat' (first | with_reducible refine inw ?_ | simp (maxSteps := 900000) (disch := omega) only [go_sem, Nat.reduceEqDiff, ↓reduceIte, reduceCtorEq, Nat.reduceAdd, Nat.reduceMul, Int.reduceToNat, List.reduceReplicate, Nat.reduceLeDiff, Nat.reduceLT, Int.reduceLT, Int.reduceLE, Int.reduceEq, bdC_len, hbx, eT] | (with_reducible apply call (rBeads_ok)); (focus simp (maxSteps := 900000) (disch := omega) only [go_sem, Nat.reduceEqDiff, ↓reduceIte, reduceCtorEq, Nat.reduceAdd, Nat.reduceMul, Int.reduceToNat, List.reduceReplicate, Nat.reduceLeDiff, Nat.reduceLT, Int.reduceLT, Int.reduceLE, Int.reduceEq, bdC_len, hbx, eT] <;> rfl) | with_reducible refine giv_intro fun _h => ?_ | with_reducible refine alt_intro ?_ fun _h => ?_ | with_reducible refine pickD_nil ?_ | (with_reducible refine brc (fun _h => ?_) fun _h => ?_) <;> first | (exfalso; omega) | simp only [decide_eq_false _h] | simp only [(_h : (_ : Bool) = _)] | simp only [decide_eq_true _h] | skip)
              all_goals exact ⟨m + 1, ⟨by omega, hm6, hnot fun h => absurd h.2 hf2⟩, by omega, hbel _⟩
          · repeat' (first | with_reducible refine inw ?_ | simp (maxSteps := 900000) (disch := omega) only [go_sem, Nat.reduceEqDiff, ↓reduceIte, reduceCtorEq, Nat.reduceAdd, Nat.reduceMul, Int.reduceToNat, List.reduceReplicate, Nat.reduceLeDiff, Nat.reduceLT, Int.reduceLT, Int.reduceLE, Int.reduceEq, bdC_len, hbx, eT] | (with_reducible apply call (rBeads_ok)); (focus simp (maxSteps := 900000) (disch := omega) only [go_sem, Nat.reduceEqDiff, ↓reduceIte, reduceCtorEq, Nat.reduceAdd, Nat.reduceMul, Int.reduceToNat, List.reduceReplicate, Nat.reduceLeDiff, Nat.reduceLT, Int.reduceLT, Int.reduceLE, Int.reduceEq, bdC_len, hbx, eT] <;> rfl) | with_reducible refine giv_intro fun _h => ?_ | with_reducible refine alt_intro ?_ fun _h => ?_ | with_reducible refine pickD_nil ?_ | (with_reducible refine brc (fun _h => ?_) fun _h => ?_) <;> first | (exfalso; omega) | simp only [decide_eq_false _h] | simp only [(_h : (_ : Bool) = _)] | simp only [decide_eq_true _h] | skip)
            all_goals exact ⟨m + 1, ⟨by omega, hm6, hnot fun h => absurd h.1 hf1⟩, by omega, hbel _⟩
        · exfalso
          obtain rfl : m = 6 := by omega
          obtain ⟨j, hj, hje⟩ := List.getElem_of_mem x2
          have := hno j (by rw [beads_len] at hj; exact hj)
          rw [nth_eq hj, hje] at this
          have h2 := List.find?_some x1
          rw [this] at h2; cases h2
    · have hT0 := hT 0 (Nat.zero_le _)
      have hTw : nth (tR a b s 0) 0 = tab a b s 0 0 := tR_nth (Nat.zero_le _)
      have hl0 := tR_len a b s 0
      have hH : (cellsL (tR a b s 0)).head? = some (intA (tab a b s 0 0)) := by rw [tR, List.range_succ_eq_map, List.map_cons]; rfl
      rw [pathB_end hgo, List.append_nil] at hp
      rw [hp]
      repeat' (first | with_reducible refine inw ?_ | simp (maxSteps := 900000) (disch := omega) only [go_sem, Nat.reduceEqDiff, ↓reduceIte, reduceCtorEq, Nat.reduceAdd, Nat.reduceMul, Int.reduceToNat, List.reduceReplicate, Nat.reduceLeDiff, Nat.reduceLT, Int.reduceLT, Int.reduceLE, Int.reduceEq, hT0, hTw, hl0, eT, hH] | with_reducible refine giv_intro fun _h => ?_ | with_reducible refine alt_intro ?_ fun _h => ?_ | with_reducible refine pickD_nil ?_ | (with_reducible refine brc (fun _h => ?_) fun _h => ?_) <;> first | (exfalso; omega) | simp only [decide_eq_false _h] | simp only [(_h : (_ : Bool) = _)] | simp only [decide_eq_true _h] | skip)
  obtain ⟨i, rfl⟩ : ∃ i', i = i' + 1 := ⟨i - 1, by omega⟩
  have ei : (((i + 1 : Nat) : Int) - 1) = (i : Int) := by omega
  have tl1 : (tRs a b s (i + 1)).length = a.length - i := by rw [tRs, List.length_map, List.length_range]; omega
  have tl2 := tcs_len (i + 1) [] (tRs a b s (i + 1))
  have eT : ∀ (L : List (Option Ob)), rowAt (some (.row 36 1 (tcs (i + 1) [] (tRs a b s (i + 1)))) :: L) 0 (a.length + 1) = some (36, 1, tcs (i + 1) [] (tRs a b s (i + 1))) := fun L => by
    rw [rowAt_zero, if_pos (by rw [tl2, tl1, List.length_nil]; omega)]
  repeat' (first | with_reducible refine inw ?_ | simp (maxSteps := 900000) (disch := omega) only [go_sem, Nat.reduceEqDiff, ↓reduceIte, reduceCtorEq, Nat.reduceAdd, Nat.reduceMul, Int.reduceToNat, List.reduceReplicate, Nat.reduceLeDiff, Nat.reduceLT, Int.reduceLT, Int.reduceLE, Int.reduceEq, ei, eT, eBl, tcs_put] | with_reducible refine giv_intro fun _h => ?_ | with_reducible refine alt_intro ?_ fun _h => ?_ | with_reducible refine pickD_nil ?_ | (with_reducible refine brc (fun _h => ?_) fun _h => ?_) <;> first | (exfalso; omega) | simp only [decide_eq_false _h] | simp only [(_h : (_ : Bool) = _)] | simp only [decide_eq_true _h] | skip)
  have tl3 := tcs_len i [.ref (S.nm 1) (b.length + 1) 0 (b.length + 1)] (tRs a b s (i + 1))
  have eT3 : ∀ (L : List (Option Ob)), rowAt (some (.row 36 1 (tcs i [.ref (S.nm 1) (b.length + 1) 0 (b.length + 1)] (tRs a b s (i + 1)))) :: L) 0 (a.length + 1) = some (36, 1, tcs i [.ref (S.nm 1) (b.length + 1) 0 (b.length + 1)] (tRs a b s (i + 1))) := fun L => by
    rw [rowAt_zero, if_pos (by rw [tl3, tl1, List.length_singleton]; omega)]
  have hTi := tcs_at i (.ref (S.nm 1) (b.length + 1) 0 (b.length + 1)) (tRs a b s (i + 1))
  (refine loopC hS [0, 1, 2, 12, 13] (by simp only [go_sem, Nat.reduceEqDiff, ↓reduceIte, reduceCtorEq, Nat.reduceAdd, Nat.reduceMul, Int.reduceToNat, List.reduceReplicate, Nat.reduceLeDiff, Nat.reduceLT, Int.reduceLT, Int.reduceLE, Int.reduceEq]; try rfl) (fun (⟨R, k⟩ : List Int × Nat) => [(14, intA ((k : Int) - 1))]) (fun (⟨R, k⟩ : List Int × Nat) => [some (.row 36 1 (tcs i [.ref (S.nm 1) (b.length + 1) 0 (b.length + 1)] (tRs a b s (i + 1)))), rowO 3 R]) (fun (⟨R, k⟩ : List Int × Nat) => k ≤ b.length + 1 ∧ R.length = b.length + 1 ∧ ∀ q, q ≤ b.length → k ≤ q → nth R q = tab a b s i q) (fun (⟨R, k⟩ : List Int × Nat) => k) ((List.replicate (b.length + 1) 0, b.length + 1)) ?_ (by intro s; first | rfl | (rcases s with ⟨_, _⟩; rfl) | (rcases s with ⟨_, _, _⟩; rfl) | (rcases s with ⟨_, _, _, _⟩; rfl) | (rcases s with ⟨_, _, _, _, _⟩; rfl)) ?_)
  · simp (maxSteps := 900000) (disch := omega) only [go_sem, Nat.reduceEqDiff, ↓reduceIte, reduceCtorEq, Nat.reduceAdd, Nat.reduceMul, Int.reduceToNat, List.reduceReplicate, Nat.reduceLeDiff, Nat.reduceLT, Int.reduceLT, Int.reduceLE, Int.reduceEq]
    refine ⟨fun q h1 h2 => by omega, by omega, ?_⟩
    rw [bels_tcs, bels, bels, AV.bel]; exact ⟨by simp [St.nm], trivial⟩
  rintro ⟨R, k⟩ ⟨hk, hRl, hRv⟩
  replace hk : k ≤ b.length + 1 := hk
  replace hRl : R.length = b.length + 1 := hRl
  replace hRv : ∀ q, q ≤ b.length → k ≤ q → nth R q = tab a b s i q := hRv
  by_cases hk0 : k = 0
  · subst hk0
    refine swp_seq (in_seq ?_)
    repeat' (first | simp (maxSteps := 900000) (disch := omega) only [go_sem, Nat.reduceEqDiff, ↓reduceIte, reduceCtorEq, Nat.reduceAdd, Nat.reduceMul, Int.reduceToNat, List.reduceReplicate, Nat.reduceLeDiff, Nat.reduceLT, Int.reduceLT, Int.reduceLE, Int.reduceEq] | with_reducible refine giv_intro fun _h => ?_ | with_reducible refine alt_intro ?_ fun _h => ?_ | with_reducible refine pickD_nil ?_ | (with_reducible refine brc (fun _h => ?_) fun _h => ?_) <;> first | (exfalso; omega) | simp only [decide_eq_false _h] | simp only [(_h : (_ : Bool) = _)] | simp only [decide_eq_true _h] | skip)
    have ecs : (tcs i [.ref (S.nm 1) (b.length + 1) 0 (b.length + 1)] (tRs a b s (i + 1))).set i (.ro (b.length + 1) ((cellsL R).take ((b.length + 1) * 1))) = tcs i [] (tRs a b s i) := by
      rw [List.take_of_length_le (by rw [cellsL_len, hRl]; exact Nat.le_refl _), tR_is hRl fun q hq => hRv q hq (Nat.zero_le _), tRs_cons (i := i) (by omega), ← tcs_set i (.ref (S.nm 1) (b.length + 1) 0 (b.length + 1)), ← tR_len a b s i]
    refine freezeCell 0 1 i 36 1 3 1 (by rfl) hTi (by rfl) (by rw [cellsL_len, hRl, Nat.mul_one]) (by omega) (by omega) ?_
    simp only [List.set_cons_zero, List.set_cons_succ, ecs]
    repeat' (first | with_reducible refine inw ?_ | simp (maxSteps := 900000) (disch := omega) only [go_sem, Nat.reduceEqDiff, ↓reduceIte, reduceCtorEq, Nat.reduceAdd, Nat.reduceMul, Int.reduceToNat, List.reduceReplicate, Nat.reduceLeDiff, Nat.reduceLT, Int.reduceLT, Int.reduceLE, Int.reduceEq] | with_reducible refine giv_intro fun _h => ?_ | with_reducible refine alt_intro ?_ fun _h => ?_ | with_reducible refine pickD_nil ?_ | (with_reducible refine brc (fun _h => ?_) fun _h => ?_) <;> first | (exfalso; omega) | simp only [decide_eq_false _h] | simp only [(_h : (_ : Bool) = _)] | simp only [decide_eq_true _h] | skip)
    refine ⟨i, ⟨by omega, by omega⟩, by omega, ?_⟩
    rw [bels_tcs]; trivial
  obtain ⟨k, rfl⟩ : ∃ k', k = k' + 1 := ⟨k - 1, by omega⟩
  have ek : (((k + 1 : Nat) : Int) - 1) = (k : Int) := by omega
  have hpl : (putAt R k (-1)).length = b.length + 1 := (putAt_len (by omega) _).trans hRl
  obtain ⟨R3, hR3⟩ : ∃ R3, R3 = putAt R k (begB a b i k) := ⟨_, rfl⟩
  have h3l : R3.length = b.length + 1 := by rw [hR3]; exact (putAt_len (by omega) _).trans hRl
  have h3t : ∀ q, q ≤ b.length → k + 1 ≤ q → nth R3 q = tab a b s i q := fun q h1 h2 => by
    rw [hR3, nth_putC (by omega), if_neg (by omega)]; exact hRv q h1 h2
  have h3v : nth R3 k = begB a b i k := by rw [hR3, nth_putC (by omega), if_pos rfl]
  have eA : i = a.length → k = b.length → putAt (putAt R k (-1)) k 0 = R3 := fun h1 h2 => by
    rw [putAt_put (by omega), hR3, begB, if_pos ⟨h1, h2⟩]
  have eB : ¬(i = a.length ∧ k = b.length) → putAt R k (-1) = R3 := fun h => by rw [hR3, begB, if_neg h]
  clear hR3 hRv
  have hkb : k ≤ b.length := by omega
  have hbel : bels (S.nm 2) (tcs i [.ref (S.nm 1) (b.length + 1) 0 (b.length + 1)] (tRs a b s (i + 1))) := by rw [bels_tcs, bels, bels, AV.bel]; exact ⟨by simp [St.nm], trivial⟩
  have hia' : i ≤ a.length := by omega
  by_cases hend : i = a.length ∧ k = b.length
  case' pos =>
    replace eA := eA hend.1 hend.2
    clear eB
    repeat' (first | with_reducible refine inw ?_ | simp (maxSteps := 900000) (disch := omega) only [go_sem, Nat.reduceEqDiff, ↓reduceIte, reduceCtorEq, Nat.reduceAdd, Nat.reduceMul, Int.reduceToNat, List.reduceReplicate, Nat.reduceLeDiff, Nat.reduceLT, Int.reduceLT, Int.reduceLE, Int.reduceEq, ek, eT3, hTi, hRl, put_fold1, hpl, eA] | with_reducible refine giv_intro fun _h => ?_ | with_reducible refine alt_intro ?_ fun _h => ?_ | with_reducible refine pickD_nil ?_ | (with_reducible refine brc (fun _h => ?_) fun _h => ?_) <;> first | (exfalso; omega) | simp only [decide_eq_false _h] | simp only [(_h : (_ : Bool) = _)] | simp only [decide_eq_true _h] | skip)
  case' neg =>
    replace eB := eB hend
    clear eA
    repeat' (first | with_reducible refine inw ?_ | simp (maxSteps := 900000) (disch := omega) only [go_sem, Nat.reduceEqDiff, ↓reduceIte, reduceCtorEq, Nat.reduceAdd, Nat.reduceMul, Int.reduceToNat, List.reduceReplicate, Nat.reduceLeDiff, Nat.reduceLT, Int.reduceLT, Int.reduceLE, Int.reduceEq, ek, eT3, hTi, hRl, put_fold1, hpl, eB, h3l] | with_reducible refine giv_intro fun _h => ?_ | with_reducible refine alt_intro ?_ fun _h => ?_ | with_reducible refine pickD_nil ?_ | (with_reducible refine brc (fun _h => ?_) fun _h => ?_) <;> first | (exfalso; omega) | simp only [decide_eq_false _h] | simp only [(_h : (_ : Bool) = _)] | simp only [decide_eq_true _h] | skip)
  all_goals
    (refine loopC hS [0, 1, 2, 12, 13, 14] (by simp only [go_sem, Nat.reduceEqDiff, ↓reduceIte, reduceCtorEq, Nat.reduceAdd, Nat.reduceMul, Int.reduceToNat, List.reduceReplicate, Nat.reduceLeDiff, Nat.reduceLT, Int.reduceLT, Int.reduceLE, Int.reduceEq]; try rfl) (fun (⟨R4, m⟩ : List Int × Nat) => [(15, intA m)]) (fun (⟨R4, m⟩ : List Int × Nat) => [some (.row 36 1 (tcs i [.ref (S.nm 1) (b.length + 1) 0 (b.length + 1)] (tRs a b s (i + 1)))), rowO 3 R4]) (fun (⟨R4, m⟩ : List Int × Nat) => m ≤ 6 ∧ R4.length = b.length + 1 ∧ (∀ q, q ≤ b.length → k + 1 ≤ q → nth R4 q = tab a b s i q) ∧ nth R4 k = foldB a b s (tab a b s) i k (beads.take m) (begB a b i k)) (fun (⟨R4, m⟩ : List Int × Nat) => 6 - m) ((R3, 0)) ?_ (by intro s; first | rfl | (rcases s with ⟨_, _⟩; rfl) | (rcases s with ⟨_, _, _⟩; rfl) | (rcases s with ⟨_, _, _, _⟩; rfl) | (rcases s with ⟨_, _, _, _, _⟩; rfl)) ?_)
    · simp (maxSteps := 900000) (disch := omega) only [go_sem, Nat.reduceEqDiff, ↓reduceIte, reduceCtorEq, Nat.reduceAdd, Nat.reduceMul, Int.reduceToNat, List.reduceReplicate, Nat.reduceLeDiff, Nat.reduceLT, Int.reduceLT, Int.reduceLE, Int.reduceEq]
      exact ⟨⟨h3l, h3t, h3v⟩, hbel⟩
    rintro ⟨R4, m⟩ ⟨hm, h4l, h4t, h4v⟩
    replace hm : m ≤ 6 := hm
    replace h4l : R4.length = b.length + 1 := h4l
    replace h4t : ∀ q, q ≤ b.length → k + 1 ≤ q → nth R4 q = tab a b s i q := h4t
    replace h4v : nth R4 k = foldB a b s (tab a b s) i k (beads.take m) (begB a b i k) := h4v
    by_cases hm6 : m < 6
    · obtain ⟨u, v, hx, hu, hv, huv⟩ := beads_at hm6
      have hbx := bdC_at hm6 hx
      by_cases hf1 : i + u ≤ a.length
      · by_cases hf2 : k + v ≤ b.length
        · have c1 := rCost_ok ha hb hs' hla hlb (i := i) (k := k) hu hv ⟨hf1, hf2⟩
          have hu2 : ((i : Int) + u).toNat = i + u := by omega
          have hv2 : ((k : Int) + v).toNat = k + v := by omega
          have hTb := tab_le ha hb hs' hla hlb (i + u) (k + v)
          have hCb := costB_le ha hb hs' i k (x := ((u : Int), (v : Int))) (by rw [← hx]; exact nth_mem hm6)
          have hst := foldB_step (a := a) (b := b) (s := s) (t := tab a b s) (i := i) (k := k) (r := begB a b i k) hm6 hx
          rw [if_pos ⟨hf1, hf2⟩, ← h4v, minB] at hst
          have hN1 : ∀ x q, q ≤ b.length → k + 1 ≤ q → nth (putAt R4 k x) q = tab a b s i q := fun x q h1 h2 => by
            rw [nth_putC (by omega), if_neg (by omega)]; exact h4t q h1 h2
          have hN2 : ∀ x, nth (putAt R4 k x) k = x := fun x => by rw [nth_putC (by omega), if_pos rfl]
          by_cases hu0 : u = 0
          case' pos =>
            have hTu : (tcs i [.ref (S.nm 1) (b.length + 1) 0 (b.length + 1)] (tRs a b s (i + 1)))[i + u]? = some (.ref (S.nm 1) (b.length + 1) 0 (b.length + 1)) := by rw [hu0]; exact hTi
            have hTv : nth R4 (k + v) = tab a b s (i + u) (k + v) := by rw [hu0]; exact h4t _ hf2 (by omega)
            repeat' (first | with_reducible refine inw ?_ | simp (maxSteps := 900000) (disch := omega) only [go_sem, Nat.reduceEqDiff, ↓reduceIte, reduceCtorEq, Nat.reduceAdd, Nat.reduceMul, Int.reduceToNat, List.reduceReplicate, Nat.reduceLeDiff, Nat.reduceLT, Int.reduceLT, Int.reduceLE, Int.reduceEq, bdC_len, hbx, hu2, hv2, hTi, hTu, hTv, eT3, h4l, put_fold1] | (with_reducible apply call (rBeads_ok)); (focus simp (maxSteps := 900000) (disch := omega) only [go_sem, Nat.reduceEqDiff, ↓reduceIte, reduceCtorEq, Nat.reduceAdd, Nat.reduceMul, Int.reduceToNat, List.reduceReplicate, Nat.reduceLeDiff, Nat.reduceLT, Int.reduceLT, Int.reduceLE, Int.reduceEq, bdC_len, hbx, hu2, hv2, hTi, hTu, hTv, eT3, h4l, put_fold1] <;> rfl) | (with_reducible apply call_D (c1)); (focus simp (maxSteps := 900000) (disch := omega) only [go_sem, Nat.reduceEqDiff, ↓reduceIte, reduceCtorEq, Nat.reduceAdd, Nat.reduceMul, Int.reduceToNat, List.reduceReplicate, Nat.reduceLeDiff, Nat.reduceLT, Int.reduceLT, Int.reduceLE, Int.reduceEq, bdC_len, hbx, hu2, hv2, hTi, hTu, hTv, eT3, h4l, put_fold1] <;> rfl) | with_reducible refine giv_intro fun _h => ?_ | with_reducible refine alt_intro ?_ fun _h => ?_ | with_reducible refine pickD_nil ?_ | (with_reducible refine brc (fun _h => ?_) fun _h => ?_) <;> first | (exfalso; omega) | simp only [decide_eq_false _h] | simp only [(_h : (_ : Bool) = _)] | simp only [decide_eq_true _h] | skip)
          case' neg =>
            have hTu : (tcs i [.ref (S.nm 1) (b.length + 1) 0 (b.length + 1)] (tRs a b s (i + 1)))[i + u]? = some (sl (tR a b s (i + u))) := by rw [tcs_in _ _ (by omega) (by omega), tRs_nth (by omega) hf1]
            have hTv : nth (tR a b s (i + u)) (k + v) = tab a b s (i + u) (k + v) := tR_nth hf2
            have hTl := tR_len a b s (i + u)
            repeat' (first | with_reducible refine inw ?_ | simp (maxSteps := 900000) (disch := omega) only [go_sem, Nat.reduceEqDiff, ↓reduceIte, reduceCtorEq, Nat.reduceAdd, Nat.reduceMul, Int.reduceToNat, List.reduceReplicate, Nat.reduceLeDiff, Nat.reduceLT, Int.reduceLT, Int.reduceLE, Int.reduceEq, bdC_len, hbx, hu2, hv2, hTi, hTu, hTv, hTl, eT3, h4l, put_fold1] | (with_reducible apply call (rBeads_ok)); (focus simp (maxSteps := 900000) (disch := omega) only [go_sem, Nat.reduceEqDiff, ↓reduceIte, reduceCtorEq, Nat.reduceAdd, Nat.reduceMul, Int.reduceToNat, List.reduceReplicate, Nat.reduceLeDiff, Nat.reduceLT, Int.reduceLT, Int.reduceLE, Int.reduceEq, bdC_len, hbx, hu2, hv2, hTi, hTu, hTv, hTl, eT3, h4l, put_fold1] <;> rfl) | (with_reducible apply call_D (c1)); (focus simp (maxSteps := 900000) (disch := omega) only [go_sem, Nat.reduceEqDiff, ↓reduceIte, reduceCtorEq, Nat.reduceAdd, Nat.reduceMul, Int.reduceToNat, List.reduceReplicate, Nat.reduceLeDiff, Nat.reduceLT, Int.reduceLT, Int.reduceLE, Int.reduceEq, bdC_len, hbx, hu2, hv2, hTi, hTu, hTv, hTl, eT3, h4l, put_fold1] <;> rfl) | with_reducible refine giv_intro fun _h => ?_ | with_reducible refine alt_intro ?_ fun _h => ?_ | with_reducible refine pickD_nil ?_ | (with_reducible refine brc (fun _h => ?_) fun _h => ?_) <;> first | (exfalso; omega) | simp only [decide_eq_false _h] | simp only [(_h : (_ : Bool) = _)] | simp only [decide_eq_true _h] | skip)
          all_goals first
            | exact ⟨(putAt R4 k _, m + 1), ⟨by show 6 - (m + 1) < _; omega, hm6, (putAt_len (by omega) _).trans h4l, hN1 _, (hN2 _).trans (by rw [hst, if_pos (by omega)])⟩, by show (m : Int) + 1 = ((m + 1 : Nat) : Int); omega, hbel, rfl⟩
            | exact ⟨(R4, m + 1), ⟨by show 6 - (m + 1) < _; omega, hm6, h4l, h4t, (by rw [hst, if_neg (by omega)])⟩, by show (m : Int) + 1 = ((m + 1 : Nat) : Int); omega, hbel, rfl⟩
        · repeat' (first | with_reducible refine inw ?_ | simp (maxSteps := 900000) (disch := omega) only [go_sem, Nat.reduceEqDiff, ↓reduceIte, reduceCtorEq, Nat.reduceAdd, Nat.reduceMul, Int.reduceToNat, List.reduceReplicate, Nat.reduceLeDiff, Nat.reduceLT, Int.reduceLT, Int.reduceLE, Int.reduceEq, bdC_len, hbx, eT3, h4l] | (with_reducible apply call (rBeads_ok)); (focus simp (maxSteps := 900000) (disch := omega) only [go_sem, Nat.reduceEqDiff, ↓reduceIte, reduceCtorEq, Nat.reduceAdd, Nat.reduceMul, Int.reduceToNat, List.reduceReplicate, Nat.reduceLeDiff, Nat.reduceLT, Int.reduceLT, Int.reduceLE, Int.reduceEq, bdC_len, hbx, eT3, h4l] <;> rfl) | with_reducible refine giv_intro fun _h => ?_ | with_reducible refine alt_intro ?_ fun _h => ?_ | with_reducible refine pickD_nil ?_ | (with_reducible refine brc (fun _h => ?_) fun _h => ?_) <;> first | (exfalso; omega) | simp only [decide_eq_false _h] | simp only [(_h : (_ : Bool) = _)] | simp only [decide_eq_true _h] | skip)
          all_goals exact ⟨(R4, m + 1), ⟨by show 6 - (m + 1) < _; omega, hm6, h4l, h4t, h4v.trans (by rw [foldB_step hm6 hx, if_neg (fun h => hf2 h.2)])⟩, by show (m : Int) + 1 = ((m + 1 : Nat) : Int); omega, hbel, rfl⟩
      · repeat' (first | with_reducible refine inw ?_ | simp (maxSteps := 900000) (disch := omega) only [go_sem, Nat.reduceEqDiff, ↓reduceIte, reduceCtorEq, Nat.reduceAdd, Nat.reduceMul, Int.reduceToNat, List.reduceReplicate, Nat.reduceLeDiff, Nat.reduceLT, Int.reduceLT, Int.reduceLE, Int.reduceEq, bdC_len, hbx, eT3, h4l] | (with_reducible apply call (rBeads_ok)); (focus simp (maxSteps := 900000) (disch := omega) only [go_sem, Nat.reduceEqDiff, ↓reduceIte, reduceCtorEq, Nat.reduceAdd, Nat.reduceMul, Int.reduceToNat, List.reduceReplicate, Nat.reduceLeDiff, Nat.reduceLT, Int.reduceLT, Int.reduceLE, Int.reduceEq, bdC_len, hbx, eT3, h4l] <;> rfl) | with_reducible refine giv_intro fun _h => ?_ | with_reducible refine alt_intro ?_ fun _h => ?_ | with_reducible refine pickD_nil ?_ | (with_reducible refine brc (fun _h => ?_) fun _h => ?_) <;> first | (exfalso; omega) | simp only [decide_eq_false _h] | simp only [(_h : (_ : Bool) = _)] | simp only [decide_eq_true _h] | skip)
        all_goals exact ⟨(R4, m + 1), ⟨by show 6 - (m + 1) < _; omega, hm6, h4l, h4t, h4v.trans (by rw [foldB_step hm6 hx, if_neg (fun h => hf1 h.1)])⟩, by show (m : Int) + 1 = ((m + 1 : Nat) : Int); omega, hbel, rfl⟩
    · obtain rfl : m = 6 := by omega
      repeat' (first | with_reducible refine inw ?_ | simp (maxSteps := 900000) (disch := omega) only [go_sem, Nat.reduceEqDiff, ↓reduceIte, reduceCtorEq, Nat.reduceAdd, Nat.reduceMul, Int.reduceToNat, List.reduceReplicate, Nat.reduceLeDiff, Nat.reduceLT, Int.reduceLT, Int.reduceLE, Int.reduceEq] | with_reducible refine giv_intro fun _h => ?_ | with_reducible refine alt_intro ?_ fun _h => ?_ | with_reducible refine pickD_nil ?_ | (with_reducible refine brc (fun _h => ?_) fun _h => ?_) <;> first | (exfalso; omega) | simp only [decide_eq_false _h] | simp only [(_h : (_ : Bool) = _)] | simp only [decide_eq_true _h] | skip)
      refine ⟨(R4, k), ⟨Nat.lt_succ_self _, by show k ≤ b.length + 1; omega, h4l, fun q hq hc => ?_⟩, rfl, hbel, rfl⟩
      rcases Nat.lt_or_ge k q with h' | h'
      · exact h4t q hq h'
      · obtain rfl : q = k := by omega
        rw [h4v, tab_eq hia' hq]; rfl
end Go.Proofs.Ytedbjmonfbpefaa.Ev
