/- TallySums. -/
import Derived.Test.YtedbjmonfbpefaaFnG
set_option linter.unusedVariables false
set_option linter.unusedSimpArgs false
namespace Go.Proofs.Ytedbjmonfbpefaa.Ev
open Go Go.Proofs

theorem wrap_mod (x : Int) : IntKind.i64.wrap x % 18446744073709551616 = x % 18446744073709551616 := by
  simp only [IntKind.wrap, IntKind.bits, IntKind.signed]
  simp
  split <;> omega
theorem wrap_eq {x y : Int} (h : x % 18446744073709551616 = y % 18446744073709551616) : IntKind.i64.wrap x = IntKind.i64.wrap y := by
  simp only [IntKind.wrap, IntKind.bits, IntKind.signed]
  simp
  rw [h]
theorem wrap_mul (x y : Int) : IntKind.i64.wrap (IntKind.i64.wrap x * y) = IntKind.i64.wrap (x * y) := wrap_eq (by rw [Int.mul_emod, wrap_mod, ← Int.mul_emod])
theorem wrap_mul' (x y : Int) : IntKind.i64.wrap (x * IntKind.i64.wrap y) = IntKind.i64.wrap (x * y) := wrap_eq (by rw [Int.mul_emod, wrap_mod, ← Int.mul_emod])
theorem wrap_sub (x y : Int) : IntKind.i64.wrap (IntKind.i64.wrap x - IntKind.i64.wrap y) = IntKind.i64.wrap (x - y) := wrap_eq (by rw [Int.sub_emod, wrap_mod, wrap_mod, ← Int.sub_emod])
theorem frac_sum {T E N A g1 g2 g3 tn td en ed nn nd : Int} (h1 : tn * g1 = T) (h2 : td * g1 = A) (h3 : en * g2 = E) (h4 : ed * g2 = A) (h5 : nn * g3 = N) (h6 : nd * g3 = A) (hs : T = E + N) (p1 : g1 ≠ 0) (p2 : g2 ≠ 0) (p3 : g3 ≠ 0) :
    (tn * ed - en * td) * nd = nn * (td * ed) := by
  have h : (g1 * g2 * g3) * ((tn * ed - en * td) * nd) = (g1 * g2 * g3) * (nn * (td * ed)) := by
    have e1 : (g1 * g2 * g3) * ((tn * ed - en * td) * nd) = ((tn * g1) * (ed * g2) - (en * g2) * (td * g1)) * (nd * g3) := by grind
    have e2 : (g1 * g2 * g3) * (nn * (td * ed)) = (nn * g3) * ((td * g1) * (ed * g2)) := by grind
    rw [e1, e2, h1, h2, h3, h4, h5, h6, hs]
    grind
  exact Int.eq_of_mul_eq_mul_left (by
    intro h0
    rcases Int.mul_eq_zero.1 h0 with h0 | h0
    · rcases Int.mul_eq_zero.1 h0 with h0 | h0
      · exact p1 h0
      · exact p2 h0
    · exact p3 h0) h
theorem share_parts (x y : Nat) (h : 0 < y) : ((x / Nat.gcd x y : Nat) : Int) * (Nat.gcd x y : Int) = x ∧ ((y / Nat.gcd x y : Nat) : Int) * (Nat.gcd x y : Int) = y ∧ (Nat.gcd x y : Int) ≠ 0 := by
  refine ⟨?_, ?_, ?_⟩
  · rw [← Int.natCast_mul, Nat.div_mul_cancel (Nat.gcd_dvd_left x y)]
  · rw [← Int.natCast_mul, Nat.div_mul_cancel (Nat.gcd_dvd_right x y)]
  · have := Nat.gcd_pos_of_pos_right x h
    omega

/-- The parts of the sum, as the law asks for them. -/
theorem sums_step (a b c d : Nat) (hb : 0 < b) (hc : 0 < c) :
    ((((tlW a b c d / Nat.gcd (tlW a b c d) (allW a b c d) : Nat) : Int) * ((allW a b c d / Nat.gcd (exW a b c d) (allW a b c d) : Nat) : Int)
      - ((exW a b c d / Nat.gcd (exW a b c d) (allW a b c d) : Nat) : Int) * ((allW a b c d / Nat.gcd (tlW a b c d) (allW a b c d) : Nat) : Int))
      * ((allW (a + 1) (b - 1) (c - 1) (d + 1) / Nat.gcd (tlW (a + 1) (b - 1) (c - 1) (d + 1)) (allW (a + 1) (b - 1) (c - 1) (d + 1)) : Nat) : Int))
    = ((tlW (a + 1) (b - 1) (c - 1) (d + 1) / Nat.gcd (tlW (a + 1) (b - 1) (c - 1) (d + 1)) (allW (a + 1) (b - 1) (c - 1) (d + 1)) : Nat) : Int)
      * (((allW a b c d / Nat.gcd (tlW a b c d) (allW a b c d) : Nat) : Int) * ((allW a b c d / Nat.gcd (exW a b c d) (allW a b c d) : Nat) : Int)) := by
  have hA : allW (a + 1) (b - 1) (c - 1) (d + 1) = allW a b c d := by unfold allW; congr 1 <;> omega
  obtain ⟨x1, x2, x3⟩ := share_parts (tlW a b c d) (allW a b c d) (allW_pos _ _ _ _)
  obtain ⟨y1, y2, y3⟩ := share_parts (exW a b c d) (allW a b c d) (allW_pos _ _ _ _)
  rw [hA]
  obtain ⟨z1, z2, z3⟩ := share_parts (tlW (a + 1) (b - 1) (c - 1) (d + 1)) (allW a b c d) (allW_pos _ _ _ _)
  exact frac_sum x1 x2 y1 y2 z1 z2 (by rw [tlW_step a b c d hb hc]; exact Int.natCast_add _ _) x3 y3 z3
theorem sums_last (a b c d : Nat) (h : b = 0 ∨ c = 0) :
    ((tlW a b c d / Nat.gcd (tlW a b c d) (allW a b c d) : Nat) : Int) * ((allW a b c d / Nat.gcd (exW a b c d) (allW a b c d) : Nat) : Int)
      - ((exW a b c d / Nat.gcd (exW a b c d) (allW a b c d) : Nat) : Int) * ((allW a b c d / Nat.gcd (tlW a b c d) (allW a b c d) : Nat) : Int) = 0 := by
  rw [tlW_last a b c d h]; grind

theorem ones (a b c d : Nat) : (a ≠ 0 ∧ d ≠ 0) ∨ (tlW a b c d / Nat.gcd (tlW a b c d) (allW a b c d) = 1 ∧ allW a b c d / Nat.gcd (tlW a b c d) (allW a b c d) = 1) := by
  by_cases h : a ≠ 0 ∧ d ≠ 0
  · exact .inl h
  · refine .inr ?_
    have : tlW a b c d = allW a b c d := by
      rcases Nat.eq_zero_or_pos a with rfl | h1
      · exact tlW_all_a b c d
      · rcases Nat.eq_zero_or_pos d with rfl | h2
        · exact tlW_all_d a b c
        · exact absurd ⟨by omega, by omega⟩ h
    rw [this, Nat.gcd_self]
    exact ⟨Nat.div_self (allW_pos _ _ _ _), Nat.div_self (allW_pos _ _ _ _)⟩
/-- ablaut/ablautlaw27.TallySums: 3 parameters, 0 captured -/
def s3 : SC := .seq (.reg [⟨(some 3), .box 22 4 (.t 0), none⟩,
     ⟨(some 6), .mv (.c (.bool false)), none⟩])
  (.seq (.reg [⟨(some 21), .mv (.t 1), none⟩,
      ⟨(some 22), .mv (.t 2), none⟩,
      ⟨(some 23), .call (.f 14) [(.t 21), (.t 22)], none⟩,
      ⟨(some 20), .mv (.t 23), none⟩,
      ⟨(some 24), .ext (.t 20) 0, none⟩,
      ⟨(some 25), .ext (.t 20) 1, none⟩,
      ⟨(some 7), .mv (.t 24), none⟩,
      ⟨(some 8), .mv (.t 25), none⟩])
   (.seq (.seq (.reg [⟨(some 26), .mv (.t 8), none⟩,
        ⟨(some 27), .bin .eql (.t 26) (.c (.int .i64 0)), none⟩,
        ⟨(some 28), .mv (.t 27), none⟩,
        ⟨(some 29), .mv (.t 2), some (28, true)⟩,
        ⟨(some 30), .bin .gtr (.t 29) (.c (.int .i64 0)), some (28, true)⟩,
        ⟨(some 31), .pick (.t 28) (.t 30) (.c (.bool false)), none⟩,
        ⟨(some 32), .mv (.t 31), none⟩,
        ⟨(some 33), .mv (.t 2), some (32, true)⟩,
        ⟨(some 34), .mv (.t 1), some (32, true)⟩,
        ⟨(some 35), .bin .lss (.t 33) (.t 34), some (32, true)⟩,
        ⟨(some 36), .pick (.t 32) (.t 35) (.c (.bool false)), none⟩])
     (.cond (.t 36) (.seq (.reg [⟨(some 38), .mv (.t 1), none⟩,
          ⟨(some 39), .bin .sub (.t 38) (.c (.int .i64 1)), none⟩,
          ⟨(some 40), .mv (.t 2), none⟩,
          ⟨(some 41), .bin .sub (.t 40) (.c (.int .i64 1)), none⟩,
          ⟨(some 42), .call (.f 14) [(.t 39), (.t 41)], none⟩,
          ⟨(some 37), .mv (.t 42), none⟩,
          ⟨(some 43), .ext (.t 37) 0, none⟩,
          ⟨(some 44), .ext (.t 37) 1, none⟩,
          ⟨(some 9), .mv (.t 43), none⟩,
          ⟨(some 10), .mv (.t 44), none⟩])
       (.seq (.reg [⟨(some 46), .mv (.t 1), none⟩,
           ⟨(some 47), .bin .sub (.t 46) (.c (.int .i64 1)), none⟩,
           ⟨(some 48), .mv (.t 2), none⟩,
           ⟨(some 49), .call (.f 14) [(.t 47), (.t 48)], none⟩,
           ⟨(some 45), .mv (.t 49), none⟩,
           ⟨(some 50), .ext (.t 45) 0, none⟩,
           ⟨(some 51), .ext (.t 45) 1, none⟩,
           ⟨(some 11), .mv (.t 50), none⟩,
           ⟨(some 12), .mv (.t 51), none⟩])
        (.seq (.reg [⟨(some 52), .mv (.t 10), none⟩,
            ⟨(some 53), .bin .neq (.t 52) (.c (.int .i64 0)), none⟩,
            ⟨(some 54), .mv (.t 53), none⟩,
            ⟨(some 55), .mv (.t 12), some (54, false)⟩,
            ⟨(some 56), .bin .neq (.t 55) (.c (.int .i64 0)), some (54, false)⟩,
            ⟨(some 57), .pick (.t 54) (.c (.bool true)) (.t 56), none⟩,
            ⟨(some 58), .mv (.t 57), none⟩,
            ⟨(some 59), .mv (.t 7), some (58, false)⟩,
            ⟨(some 60), .mv (.t 9), some (58, false)⟩,
            ⟨(some 61), .mv (.t 11), some (58, false)⟩,
            ⟨(some 62), .bin .add (.t 60) (.t 61), some (58, false)⟩,
            ⟨(some 63), .bin .neq (.t 59) (.t 62), some (58, false)⟩,
            ⟨(some 64), .pick (.t 58) (.c (.bool true)) (.t 63), none⟩])
         (.cond (.t 64) (.seq (.reg [⟨(some 6), .mv (.c (.bool false)), none⟩])
           (.ret)) (.skip))))) (.skip)))
    (.seq (.reg [⟨(some 66), .load (some 4) (.t 3), none⟩,
        ⟨(some 67), .call (.f 15) [(.t 66)], none⟩,
        ⟨(some 65), .mv (.t 67), none⟩,
        ⟨(some 68), .ext (.t 65) 0, none⟩,
        ⟨(some 69), .ext (.t 65) 1, none⟩,
        ⟨(some 13), .alloc 27 2 [(.int .i64 0), (.int .i64 0)], none⟩,
        ⟨none, .store 2 (.t 13) (.t 68), none⟩,
        ⟨(some 14), .mv (.t 69), none⟩])
     (.seq (.reg [⟨(some 71), .load (some 4) (.t 3), none⟩,
         ⟨(some 72), .call (.f 16) [(.t 71)], none⟩,
         ⟨(some 70), .mv (.t 72), none⟩,
         ⟨(some 73), .ext (.t 70) 0, none⟩,
         ⟨(some 74), .ext (.t 70) 1, none⟩,
         ⟨(some 15), .alloc 27 2 [(.int .i64 0), (.int .i64 0)], none⟩,
         ⟨none, .store 2 (.t 15) (.t 73), none⟩,
         ⟨(some 16), .mv (.t 74), none⟩])
      (.seq (.seq (.reg [⟨(some 75), .mv (.t 14), none⟩,
           ⟨(some 76), .mv (.t 16), none⟩,
           ⟨(some 77), .bin .neq (.t 75) (.t 76), none⟩])
        (.cond (.t 77) (.seq (.reg [⟨(some 6), .mv (.c (.bool false)), none⟩])
          (.ret)) (.skip)))
       (.seq (.seq (.reg [⟨(some 78), .mv (.t 14), none⟩,
            ⟨(some 79), .bin .neq (.t 78) (.c (.int .i64 0)), none⟩])
         (.cond (.t 79) (.seq (.reg [⟨(some 80), .call (.f 17) [], none⟩,
              ⟨(some 6), .mv (.t 80), none⟩])
           (.ret)) (.skip)))
        (.seq (.seq (.reg [⟨(some 81), .iaddrA 4 1 (.t 3) (.c (.int .i64 0)), none⟩,
             ⟨(some 82), .load none (.t 81), none⟩,
             ⟨(some 83), .bin .eql (.t 82) (.c (.int .i64 0)), none⟩,
             ⟨(some 84), .mv (.t 83), none⟩,
             ⟨(some 85), .iaddrA 4 1 (.t 3) (.c (.int .i64 3)), some (84, false)⟩,
             ⟨(some 86), .load none (.t 85), some (84, false)⟩,
             ⟨(some 87), .bin .eql (.t 86) (.c (.int .i64 0)), some (84, false)⟩,
             ⟨(some 88), .pick (.t 84) (.c (.bool true)) (.t 87), none⟩,
             ⟨(some 89), .mv (.t 88), none⟩,
             ⟨(some 90), .load (some 2) (.t 13), some (89, true)⟩,
             ⟨(some 91), .build [(.int .i64 0), (.int .i64 0)] [(0, 1, (.c (.int .i64 1))), (1, 1, (.c (.int .i64 1)))], some (89, true)⟩,
             ⟨(some 92), .eqS true [((.int .i64), 0), ((.int .i64), 1)] (.t 90) (.t 91), some (89, true)⟩,
             ⟨(some 93), .pick (.t 89) (.t 92) (.c (.bool false)), none⟩])
          (.cond (.t 93) (.seq (.reg [⟨(some 6), .mv (.c (.bool false)), none⟩])
            (.ret)) (.skip)))
         (.seq (.reg [⟨(some 94), .build [(.int .i64 0), (.int .i64 0)] [(0, 1, (.c (.int .i64 0))), (1, 1, (.c (.int .i64 1)))], none⟩,
             ⟨(some 17), .alloc 27 2 [(.int .i64 0), (.int .i64 0)], none⟩,
             ⟨none, .store 2 (.t 17) (.t 94), none⟩])
          (.seq (.seq (.reg [⟨(some 95), .iaddrA 4 1 (.t 3) (.c (.int .i64 1)), none⟩,
               ⟨(some 96), .load none (.t 95), none⟩,
               ⟨(some 97), .bin .gtr (.t 96) (.c (.int .i64 0)), none⟩,
               ⟨(some 98), .mv (.t 97), none⟩,
               ⟨(some 99), .iaddrA 4 1 (.t 3) (.c (.int .i64 2)), some (98, true)⟩,
               ⟨(some 100), .load none (.t 99), some (98, true)⟩,
               ⟨(some 101), .bin .gtr (.t 100) (.c (.int .i64 0)), some (98, true)⟩,
               ⟨(some 102), .pick (.t 98) (.t 101) (.c (.bool false)), none⟩])
            (.cond (.t 102) (.seq (.reg [⟨(some 104), .iaddrA 4 1 (.t 3) (.c (.int .i64 0)), none⟩,
                 ⟨(some 105), .load none (.t 104), none⟩,
                 ⟨(some 106), .bin .add (.t 105) (.c (.int .i64 1)), none⟩,
                 ⟨(some 107), .iaddrA 4 1 (.t 3) (.c (.int .i64 1)), none⟩,
                 ⟨(some 108), .load none (.t 107), none⟩,
                 ⟨(some 109), .bin .sub (.t 108) (.c (.int .i64 1)), none⟩,
                 ⟨(some 110), .iaddrA 4 1 (.t 3) (.c (.int .i64 2)), none⟩,
                 ⟨(some 111), .load none (.t 110), none⟩,
                 ⟨(some 112), .bin .sub (.t 111) (.c (.int .i64 1)), none⟩,
                 ⟨(some 113), .iaddrA 4 1 (.t 3) (.c (.int .i64 3)), none⟩,
                 ⟨(some 114), .load none (.t 113), none⟩,
                 ⟨(some 115), .bin .add (.t 114) (.c (.int .i64 1)), none⟩,
                 ⟨(some 116), .build [(.int .i64 0), (.int .i64 0), (.int .i64 0), (.int .i64 0)] [(0, 1, (.t 106)), (1, 1, (.t 109)), (2, 1, (.t 112)), (3, 1, (.t 115))], none⟩,
                 ⟨(some 117), .call (.f 15) [(.t 116)], none⟩,
                 ⟨(some 103), .mv (.t 117), none⟩,
                 ⟨(some 118), .ext (.t 103) 0, none⟩,
                 ⟨(some 119), .ext (.t 103) 1, none⟩,
                 ⟨none, .store 2 (.t 17) (.t 118), none⟩,
                 ⟨(some 14), .mv (.t 119), none⟩])
              (.seq (.reg [⟨(some 120), .mv (.t 14), none⟩,
                  ⟨(some 121), .bin .neq (.t 120) (.c (.int .i64 0)), none⟩])
               (.cond (.t 121) (.seq (.reg [⟨(some 6), .mv (.c (.bool false)), none⟩])
                 (.ret)) (.skip)))) (.skip)))
           (.seq (.regD [⟨(some 122), .faddr 0 (.t 13), none⟩,
               ⟨(some 123), .load none (.t 122), none⟩,
               ⟨(some 124), .faddr 1 (.t 15), none⟩,
               ⟨(some 125), .load none (.t 124), none⟩,
               ⟨(some 126), .bin .mul (.t 123) (.t 125), none⟩,
               ⟨(some 127), .faddr 0 (.t 15), none⟩,
               ⟨(some 128), .load none (.t 127), none⟩,
               ⟨(some 129), .faddr 1 (.t 13), none⟩,
               ⟨(some 130), .load none (.t 129), none⟩,
               ⟨(some 131), .bin .mul (.t 128) (.t 130), none⟩,
               ⟨(some 132), .bin .sub (.t 126) (.t 131), none⟩,
               ⟨(some 133), .faddr 1 (.t 13), none⟩,
               ⟨(some 134), .load none (.t 133), none⟩,
               ⟨(some 135), .faddr 1 (.t 15), none⟩,
               ⟨(some 136), .load none (.t 135), none⟩,
               ⟨(some 137), .bin .mul (.t 134) (.t 136), none⟩,
               ⟨(some 18), .mv (.t 132), none⟩,
               ⟨(some 19), .mv (.t 137), none⟩])
            (.seq (.seq (.reg [⟨(some 138), .faddr 1 (.t 13), none⟩,
                 ⟨(some 139), .load none (.t 138), none⟩,
                 ⟨(some 140), .bin .gtr (.t 139) (.c (.int .i64 1073741824)), none⟩,
                 ⟨(some 141), .mv (.t 140), none⟩,
                 ⟨(some 142), .faddr 1 (.t 15), some (141, false)⟩,
                 ⟨(some 143), .load none (.t 142), some (141, false)⟩,
                 ⟨(some 144), .bin .gtr (.t 143) (.c (.int .i64 1073741824)), some (141, false)⟩,
                 ⟨(some 145), .pick (.t 141) (.c (.bool true)) (.t 144), none⟩,
                 ⟨(some 146), .mv (.t 145), none⟩,
                 ⟨(some 147), .faddr 1 (.t 17), some (146, false)⟩,
                 ⟨(some 148), .load none (.t 147), some (146, false)⟩,
                 ⟨(some 149), .bin .gtr (.t 148) (.c (.int .i64 1073741824)), some (146, false)⟩,
                 ⟨(some 150), .pick (.t 146) (.c (.bool true)) (.t 149), none⟩,
                 ⟨(some 151), .mv (.t 150), none⟩,
                 ⟨(some 152), .mv (.t 19), some (151, false)⟩,
                 ⟨(some 153), .bin .gtr (.t 152) (.c (.int .i64 2147483648)), some (151, false)⟩,
                 ⟨(some 154), .pick (.t 151) (.c (.bool true)) (.t 153), none⟩])
              (.cond (.t 154) (.seq (.reg [⟨(some 155), .call (.f 17) [], none⟩,
                   ⟨(some 6), .mv (.t 155), none⟩])
                (.ret)) (.skip)))
             (.seq (.reg [⟨(some 156), .mv (.t 18), none⟩,
                 ⟨(some 157), .faddr 1 (.t 17), none⟩,
                 ⟨(some 158), .load none (.t 157), none⟩,
                 ⟨(some 159), .bin .mul (.t 156) (.t 158), none⟩,
                 ⟨(some 160), .faddr 0 (.t 17), none⟩,
                 ⟨(some 161), .load none (.t 160), none⟩,
                 ⟨(some 162), .mv (.t 19), none⟩,
                 ⟨(some 163), .bin .mul (.t 161) (.t 162), none⟩,
                 ⟨(some 164), .bin .eql (.t 159) (.t 163), none⟩,
                 ⟨(some 165), .mv (.t 164), none⟩,
                 ⟨(some 166), .call (.f 17) [], some (165, true)⟩,
                 ⟨(some 167), .pick (.t 165) (.t 166) (.c (.bool false)), none⟩,
                 ⟨(some 6), .mv (.t 167), none⟩])
              (.ret)))))))))))))
theorem s3_ok : lookF Try.prog 3 = some (s3, 168, [.tmp 6]) := by kernel_rfl
set_option maxHeartbeats 2000000 in
theorem tallySums_A0 (a b c d : Int) (h : ¬ OkT a b c d) (n k : Int) (hp : n < 0 ∨ 60 < n ∨ k < 0 ∨ n < k) : Fn P 3 [tabI a b c d, intA n, intA k] (boolA true) := by
  have k1 := Chosen_no n k hp
  have c2 := Tail_no a b c d h
  have c3 := exact_no a b c d h
  refine fn_look s3_ok (by simp) (by intro k; simp only [go_sem, Nat.reduceEqDiff, ↓reduceIte, reduceCtorEq, Nat.reduceAdd, Nat.reduceMul, Int.reduceToNat, List.reduceReplicate, Nat.reduceLeDiff, Nat.reduceLT, Int.reduceLT, Int.reduceLE, Int.reduceEq]) fun S hS => cwp_sound _ _ _ _ ?_
  simp (disch := omega) only [s3, go_sem, Nat.reduceEqDiff, ↓reduceIte, reduceCtorEq, Nat.reduceAdd, Nat.reduceMul, Int.reduceToNat, List.reduceReplicate, Nat.reduceLeDiff, Nat.reduceLT, Int.reduceLT, Int.reduceLE, Int.reduceEq]
  repeat' (first | (with_reducible refine in_seq ?_) | (with_reducible refine in_reg ?_) | (with_reducible refine in_block ?_) | (with_reducible refine in_cond ?_) | (with_reducible refine in_ret ?_) | (with_reducible refine in_skip ?_) | (simp (disch := omega) only [go_sem, Nat.reduceEqDiff, ↓reduceIte, reduceCtorEq, Nat.reduceAdd, Nat.reduceMul, Int.reduceToNat, List.reduceReplicate, Nat.reduceLeDiff, Nat.reduceLT, Int.reduceLT, Int.reduceLE, Int.reduceEq]) | (with_reducible refine giv_intro fun _h => ?_) | ((first | with_reducible refine br_dec (fun _h => ?_) (fun _h => ?_) | with_reducible refine br_ndec (fun _h => ?_) (fun _h => ?_)) <;> (first | (exfalso; omega) | simp only [decide_eq_false _h] | simp only [decide_eq_true _h] | skip)) | ((first | with_reducible refine br_not (fun _h => ?_) (fun _h => ?_) | with_reducible refine br_var (fun _h => ?_) (fun _h => ?_)) <;> (try simp only [_h])) | ((with_reducible apply call (k1)); (focus (simp (disch := omega) only [go_sem, Nat.reduceEqDiff, ↓reduceIte, reduceCtorEq, Nat.reduceAdd, Nat.reduceMul, Int.reduceToNat, List.reduceReplicate, Nat.reduceLeDiff, Nat.reduceLT, Int.reduceLT, Int.reduceLE, Int.reduceEq]; (try rfl); done))) | ((with_reducible apply call (c2)); (focus (simp (disch := omega) only [go_sem, Nat.reduceEqDiff, ↓reduceIte, reduceCtorEq, Nat.reduceAdd, Nat.reduceMul, Int.reduceToNat, List.reduceReplicate, Nat.reduceLeDiff, Nat.reduceLT, Int.reduceLT, Int.reduceLE, Int.reduceEq]; (try rfl); done))) | ((with_reducible apply call (c3)); (focus (simp (disch := omega) only [go_sem, Nat.reduceEqDiff, ↓reduceIte, reduceCtorEq, Nat.reduceAdd, Nat.reduceMul, Int.reduceToNat, List.reduceReplicate, Nat.reduceLeDiff, Nat.reduceLT, Int.reduceLT, Int.reduceLE, Int.reduceEq]; (try rfl); done))) | ((with_reducible apply call (known_ok)); (focus (simp (disch := omega) only [go_sem, Nat.reduceEqDiff, ↓reduceIte, reduceCtorEq, Nat.reduceAdd, Nat.reduceMul, Int.reduceToNat, List.reduceReplicate, Nat.reduceLeDiff, Nat.reduceLT, Int.reduceLT, Int.reduceLE, Int.reduceEq]; (try rfl); done))) | fail)
set_option maxHeartbeats 2000000 in
theorem tallySums_A1 (a b c d : Nat) (h : a + b + c + d ≤ 40) (hbc : b = 0 ∨ c = 0) (n k : Int) (hp : n < 0 ∨ 60 < n ∨ k < 0 ∨ n < k) : Fn P 3 [tabA a b c d, intA n, intA k] (boolA true) := by
  have k1 := Chosen_no n k hp
  have c2 := Tail_ok a b c d h
  have hA := allW_le a b c d h
  have hE := exW_le a b c d h
  have c3 := exact_ok a b c d h (by omega) (by omega) (allW_pos a b c d)
  have hT := ones a b c d
  have hI := sums_last a b c d hbc
  generalize h1 : tlW a b c d / Nat.gcd (tlW a b c d) (allW a b c d) = tn at *
  generalize h2 : allW a b c d / Nat.gcd (tlW a b c d) (allW a b c d) = td at *
  generalize h3 : exW a b c d / Nat.gcd (exW a b c d) (allW a b c d) = en1 at *
  generalize h4 : allW a b c d / Nat.gcd (exW a b c d) (allW a b c d) = ed at *
  refine fn_look s3_ok (by simp) (by intro k; simp only [go_sem, Nat.reduceEqDiff, ↓reduceIte, reduceCtorEq, Nat.reduceAdd, Nat.reduceMul, Int.reduceToNat, List.reduceReplicate, Nat.reduceLeDiff, Nat.reduceLT, Int.reduceLT, Int.reduceLE, Int.reduceEq]) fun S hS => cwp_sound _ _ _ _ ?_
  simp (disch := omega) only [s3, go_sem, Nat.reduceEqDiff, ↓reduceIte, reduceCtorEq, Nat.reduceAdd, Nat.reduceMul, Int.reduceToNat, List.reduceReplicate, Nat.reduceLeDiff, Nat.reduceLT, Int.reduceLT, Int.reduceLE, Int.reduceEq]
  repeat' (first | (with_reducible refine in_seq ?_) | (with_reducible refine in_reg ?_) | (with_reducible refine in_block ?_) | (with_reducible refine in_cond ?_) | (with_reducible refine in_ret ?_) | (with_reducible refine in_skip ?_) | (simp (disch := omega) only [go_sem, Nat.reduceEqDiff, ↓reduceIte, reduceCtorEq, Nat.reduceAdd, Nat.reduceMul, Int.reduceToNat, List.reduceReplicate, Nat.reduceLeDiff, Nat.reduceLT, Int.reduceLT, Int.reduceLE, Int.reduceEq, wrap_sub, wrap_mul, wrap_mul', hI, Int.zero_mul, Int.mul_one]) | (with_reducible refine giv_intro fun _h => ?_) | ((first | with_reducible refine br_dec (fun _h => ?_) (fun _h => ?_) | with_reducible refine br_ndec (fun _h => ?_) (fun _h => ?_)) <;> (first | (exfalso; omega) | simp only [decide_eq_false _h] | simp only [decide_eq_true _h] | skip)) | ((first | with_reducible refine br_not (fun _h => ?_) (fun _h => ?_) | with_reducible refine br_var (fun _h => ?_) (fun _h => ?_)) <;> (try simp only [_h])) | ((with_reducible apply call (k1)); (focus (simp (disch := omega) only [go_sem, Nat.reduceEqDiff, ↓reduceIte, reduceCtorEq, Nat.reduceAdd, Nat.reduceMul, Int.reduceToNat, List.reduceReplicate, Nat.reduceLeDiff, Nat.reduceLT, Int.reduceLT, Int.reduceLE, Int.reduceEq, wrap_sub, wrap_mul, wrap_mul', hI, Int.zero_mul, Int.mul_one]; (try rfl); done))) | ((with_reducible apply call (c2)); (focus (simp (disch := omega) only [go_sem, Nat.reduceEqDiff, ↓reduceIte, reduceCtorEq, Nat.reduceAdd, Nat.reduceMul, Int.reduceToNat, List.reduceReplicate, Nat.reduceLeDiff, Nat.reduceLT, Int.reduceLT, Int.reduceLE, Int.reduceEq, wrap_sub, wrap_mul, wrap_mul', hI, Int.zero_mul, Int.mul_one]; (try rfl); done))) | ((with_reducible apply call (c3)); (focus (simp (disch := omega) only [go_sem, Nat.reduceEqDiff, ↓reduceIte, reduceCtorEq, Nat.reduceAdd, Nat.reduceMul, Int.reduceToNat, List.reduceReplicate, Nat.reduceLeDiff, Nat.reduceLT, Int.reduceLT, Int.reduceLE, Int.reduceEq, wrap_sub, wrap_mul, wrap_mul', hI, Int.zero_mul, Int.mul_one]; (try rfl); done))) | ((with_reducible apply call (known_ok)); (focus (simp (disch := omega) only [go_sem, Nat.reduceEqDiff, ↓reduceIte, reduceCtorEq, Nat.reduceAdd, Nat.reduceMul, Int.reduceToNat, List.reduceReplicate, Nat.reduceLeDiff, Nat.reduceLT, Int.reduceLT, Int.reduceLE, Int.reduceEq, wrap_sub, wrap_mul, wrap_mul', hI, Int.zero_mul, Int.mul_one]; (try rfl); done))) | fail)
  all_goals (simp only [Bool.and_eq_false_iff, decide_eq_false_iff_not] at _h; omega)
set_option maxHeartbeats 2000000 in
theorem tallySums_A2 (a b c d : Nat) (h : a + b + c + d ≤ 40) (hb0 : 0 < b) (hc0 : 0 < c) (n k : Int) (hp : n < 0 ∨ 60 < n ∨ k < 0 ∨ n < k) : Fn P 3 [tabA a b c d, intA n, intA k] (boolA true) := by
  have k1 := Chosen_no n k hp
  have c2 := Tail_ok a b c d h
  have hA := allW_le a b c d h
  have hE := exW_le a b c d h
  have c3 := exact_ok a b c d h (by omega) (by omega) (allW_pos a b c d)
  have hT := ones a b c d
  have c4 := Tail_ok (a + 1) (b - 1) (c - 1) (d + 1) (by omega)
  have hI := sums_step a b c d hb0 hc0
  have eb : (b : Int) - 1 = ((b - 1 : Nat) : Int) := by omega
  have ec : (c : Int) - 1 = ((c - 1 : Nat) : Int) := by omega
  generalize h1 : tlW a b c d / Nat.gcd (tlW a b c d) (allW a b c d) = tn at *
  generalize h2 : allW a b c d / Nat.gcd (tlW a b c d) (allW a b c d) = td at *
  generalize h3 : exW a b c d / Nat.gcd (exW a b c d) (allW a b c d) = en1 at *
  generalize h4 : allW a b c d / Nat.gcd (exW a b c d) (allW a b c d) = ed at *
  generalize h5 : tlW (a + 1) (b - 1) (c - 1) (d + 1) / Nat.gcd (tlW (a + 1) (b - 1) (c - 1) (d + 1)) (allW (a + 1) (b - 1) (c - 1) (d + 1)) = nn at *
  generalize h6 : allW (a + 1) (b - 1) (c - 1) (d + 1) / Nat.gcd (tlW (a + 1) (b - 1) (c - 1) (d + 1)) (allW (a + 1) (b - 1) (c - 1) (d + 1)) = nd at *
  refine fn_look s3_ok (by simp) (by intro k; simp only [go_sem, Nat.reduceEqDiff, ↓reduceIte, reduceCtorEq, Nat.reduceAdd, Nat.reduceMul, Int.reduceToNat, List.reduceReplicate, Nat.reduceLeDiff, Nat.reduceLT, Int.reduceLT, Int.reduceLE, Int.reduceEq]) fun S hS => cwp_sound _ _ _ _ ?_
  simp (disch := omega) only [s3, go_sem, Nat.reduceEqDiff, ↓reduceIte, reduceCtorEq, Nat.reduceAdd, Nat.reduceMul, Int.reduceToNat, List.reduceReplicate, Nat.reduceLeDiff, Nat.reduceLT, Int.reduceLT, Int.reduceLE, Int.reduceEq]
  repeat' (first | (with_reducible refine in_seq ?_) | (with_reducible refine in_reg ?_) | (with_reducible refine in_block ?_) | (with_reducible refine in_cond ?_) | (with_reducible refine in_ret ?_) | (with_reducible refine in_skip ?_) | (simp (disch := omega) only [go_sem, Nat.reduceEqDiff, ↓reduceIte, reduceCtorEq, Nat.reduceAdd, Nat.reduceMul, Int.reduceToNat, List.reduceReplicate, Nat.reduceLeDiff, Nat.reduceLT, Int.reduceLT, Int.reduceLE, Int.reduceEq, wrap_sub, wrap_mul, wrap_mul', hI, eb, ec]) | (with_reducible refine giv_intro fun _h => ?_) | ((first | with_reducible refine br_dec (fun _h => ?_) (fun _h => ?_) | with_reducible refine br_ndec (fun _h => ?_) (fun _h => ?_)) <;> (first | (exfalso; omega) | simp only [decide_eq_false _h] | simp only [decide_eq_true _h] | skip)) | ((first | with_reducible refine br_not (fun _h => ?_) (fun _h => ?_) | with_reducible refine br_var (fun _h => ?_) (fun _h => ?_)) <;> (try simp only [_h])) | ((with_reducible apply call (k1)); (focus (simp (disch := omega) only [go_sem, Nat.reduceEqDiff, ↓reduceIte, reduceCtorEq, Nat.reduceAdd, Nat.reduceMul, Int.reduceToNat, List.reduceReplicate, Nat.reduceLeDiff, Nat.reduceLT, Int.reduceLT, Int.reduceLE, Int.reduceEq, wrap_sub, wrap_mul, wrap_mul', hI, eb, ec]; (try rfl); done))) | ((with_reducible apply call (c2)); (focus (simp (disch := omega) only [go_sem, Nat.reduceEqDiff, ↓reduceIte, reduceCtorEq, Nat.reduceAdd, Nat.reduceMul, Int.reduceToNat, List.reduceReplicate, Nat.reduceLeDiff, Nat.reduceLT, Int.reduceLT, Int.reduceLE, Int.reduceEq, wrap_sub, wrap_mul, wrap_mul', hI, eb, ec]; (try rfl); done))) | ((with_reducible apply call (c3)); (focus (simp (disch := omega) only [go_sem, Nat.reduceEqDiff, ↓reduceIte, reduceCtorEq, Nat.reduceAdd, Nat.reduceMul, Int.reduceToNat, List.reduceReplicate, Nat.reduceLeDiff, Nat.reduceLT, Int.reduceLT, Int.reduceLE, Int.reduceEq, wrap_sub, wrap_mul, wrap_mul', hI, eb, ec]; (try rfl); done))) | ((with_reducible apply call (c4)); (focus (simp (disch := omega) only [go_sem, Nat.reduceEqDiff, ↓reduceIte, reduceCtorEq, Nat.reduceAdd, Nat.reduceMul, Int.reduceToNat, List.reduceReplicate, Nat.reduceLeDiff, Nat.reduceLT, Int.reduceLT, Int.reduceLE, Int.reduceEq, wrap_sub, wrap_mul, wrap_mul', hI, eb, ec]; (try rfl); done))) | ((with_reducible apply call (known_ok)); (focus (simp (disch := omega) only [go_sem, Nat.reduceEqDiff, ↓reduceIte, reduceCtorEq, Nat.reduceAdd, Nat.reduceMul, Int.reduceToNat, List.reduceReplicate, Nat.reduceLeDiff, Nat.reduceLT, Int.reduceLT, Int.reduceLE, Int.reduceEq, wrap_sub, wrap_mul, wrap_mul', hI, eb, ec]; (try rfl); done))) | fail)
  all_goals (simp only [Bool.and_eq_false_iff, decide_eq_false_iff_not] at _h; omega)
set_option maxHeartbeats 2000000 in
theorem tallySums_B0 (a b c d : Int) (h : ¬ OkT a b c d) (n k : Nat) (hn : n ≤ 60) (hk : k ≤ n) (hp : k = 0 ∨ k = n) : Fn P 3 [tabI a b c d, intA (n : Int), intA (k : Int)] (boolA true) := by
  have k1 := Chosen_ok n k hn hk
  have c2 := Tail_no a b c d h
  have c3 := exact_no a b c d h
  refine fn_look s3_ok (by simp) (by intro k; simp only [go_sem, Nat.reduceEqDiff, ↓reduceIte, reduceCtorEq, Nat.reduceAdd, Nat.reduceMul, Int.reduceToNat, List.reduceReplicate, Nat.reduceLeDiff, Nat.reduceLT, Int.reduceLT, Int.reduceLE, Int.reduceEq]) fun S hS => cwp_sound _ _ _ _ ?_
  simp (disch := omega) only [s3, go_sem, Nat.reduceEqDiff, ↓reduceIte, reduceCtorEq, Nat.reduceAdd, Nat.reduceMul, Int.reduceToNat, List.reduceReplicate, Nat.reduceLeDiff, Nat.reduceLT, Int.reduceLT, Int.reduceLE, Int.reduceEq]
  repeat' (first | (with_reducible refine in_seq ?_) | (with_reducible refine in_reg ?_) | (with_reducible refine in_block ?_) | (with_reducible refine in_cond ?_) | (with_reducible refine in_ret ?_) | (with_reducible refine in_skip ?_) | (simp (disch := omega) only [go_sem, Nat.reduceEqDiff, ↓reduceIte, reduceCtorEq, Nat.reduceAdd, Nat.reduceMul, Int.reduceToNat, List.reduceReplicate, Nat.reduceLeDiff, Nat.reduceLT, Int.reduceLT, Int.reduceLE, Int.reduceEq]) | (with_reducible refine giv_intro fun _h => ?_) | ((first | with_reducible refine br_dec (fun _h => ?_) (fun _h => ?_) | with_reducible refine br_ndec (fun _h => ?_) (fun _h => ?_)) <;> (first | (exfalso; omega) | simp only [decide_eq_false _h] | simp only [decide_eq_true _h] | skip)) | ((first | with_reducible refine br_not (fun _h => ?_) (fun _h => ?_) | with_reducible refine br_var (fun _h => ?_) (fun _h => ?_)) <;> (try simp only [_h])) | ((with_reducible apply call (k1)); (focus (simp (disch := omega) only [go_sem, Nat.reduceEqDiff, ↓reduceIte, reduceCtorEq, Nat.reduceAdd, Nat.reduceMul, Int.reduceToNat, List.reduceReplicate, Nat.reduceLeDiff, Nat.reduceLT, Int.reduceLT, Int.reduceLE, Int.reduceEq]; (try rfl); done))) | ((with_reducible apply call (c2)); (focus (simp (disch := omega) only [go_sem, Nat.reduceEqDiff, ↓reduceIte, reduceCtorEq, Nat.reduceAdd, Nat.reduceMul, Int.reduceToNat, List.reduceReplicate, Nat.reduceLeDiff, Nat.reduceLT, Int.reduceLT, Int.reduceLE, Int.reduceEq]; (try rfl); done))) | ((with_reducible apply call (c3)); (focus (simp (disch := omega) only [go_sem, Nat.reduceEqDiff, ↓reduceIte, reduceCtorEq, Nat.reduceAdd, Nat.reduceMul, Int.reduceToNat, List.reduceReplicate, Nat.reduceLeDiff, Nat.reduceLT, Int.reduceLT, Int.reduceLE, Int.reduceEq]; (try rfl); done))) | ((with_reducible apply call (known_ok)); (focus (simp (disch := omega) only [go_sem, Nat.reduceEqDiff, ↓reduceIte, reduceCtorEq, Nat.reduceAdd, Nat.reduceMul, Int.reduceToNat, List.reduceReplicate, Nat.reduceLeDiff, Nat.reduceLT, Int.reduceLT, Int.reduceLE, Int.reduceEq]; (try rfl); done))) | fail)
set_option maxHeartbeats 2000000 in
theorem tallySums_B1 (a b c d : Nat) (h : a + b + c + d ≤ 40) (hbc : b = 0 ∨ c = 0) (n k : Nat) (hn : n ≤ 60) (hk : k ≤ n) (hp : k = 0 ∨ k = n) : Fn P 3 [tabA a b c d, intA (n : Int), intA (k : Int)] (boolA true) := by
  have k1 := Chosen_ok n k hn hk
  have c2 := Tail_ok a b c d h
  have hA := allW_le a b c d h
  have hE := exW_le a b c d h
  have c3 := exact_ok a b c d h (by omega) (by omega) (allW_pos a b c d)
  have hT := ones a b c d
  have hI := sums_last a b c d hbc
  generalize h1 : tlW a b c d / Nat.gcd (tlW a b c d) (allW a b c d) = tn at *
  generalize h2 : allW a b c d / Nat.gcd (tlW a b c d) (allW a b c d) = td at *
  generalize h3 : exW a b c d / Nat.gcd (exW a b c d) (allW a b c d) = en1 at *
  generalize h4 : allW a b c d / Nat.gcd (exW a b c d) (allW a b c d) = ed at *
  refine fn_look s3_ok (by simp) (by intro k; simp only [go_sem, Nat.reduceEqDiff, ↓reduceIte, reduceCtorEq, Nat.reduceAdd, Nat.reduceMul, Int.reduceToNat, List.reduceReplicate, Nat.reduceLeDiff, Nat.reduceLT, Int.reduceLT, Int.reduceLE, Int.reduceEq]) fun S hS => cwp_sound _ _ _ _ ?_
  simp (disch := omega) only [s3, go_sem, Nat.reduceEqDiff, ↓reduceIte, reduceCtorEq, Nat.reduceAdd, Nat.reduceMul, Int.reduceToNat, List.reduceReplicate, Nat.reduceLeDiff, Nat.reduceLT, Int.reduceLT, Int.reduceLE, Int.reduceEq]
  repeat' (first | (with_reducible refine in_seq ?_) | (with_reducible refine in_reg ?_) | (with_reducible refine in_block ?_) | (with_reducible refine in_cond ?_) | (with_reducible refine in_ret ?_) | (with_reducible refine in_skip ?_) | (simp (disch := omega) only [go_sem, Nat.reduceEqDiff, ↓reduceIte, reduceCtorEq, Nat.reduceAdd, Nat.reduceMul, Int.reduceToNat, List.reduceReplicate, Nat.reduceLeDiff, Nat.reduceLT, Int.reduceLT, Int.reduceLE, Int.reduceEq, wrap_sub, wrap_mul, wrap_mul', hI, Int.zero_mul, Int.mul_one]) | (with_reducible refine giv_intro fun _h => ?_) | ((first | with_reducible refine br_dec (fun _h => ?_) (fun _h => ?_) | with_reducible refine br_ndec (fun _h => ?_) (fun _h => ?_)) <;> (first | (exfalso; omega) | simp only [decide_eq_false _h] | simp only [decide_eq_true _h] | skip)) | ((first | with_reducible refine br_not (fun _h => ?_) (fun _h => ?_) | with_reducible refine br_var (fun _h => ?_) (fun _h => ?_)) <;> (try simp only [_h])) | ((with_reducible apply call (k1)); (focus (simp (disch := omega) only [go_sem, Nat.reduceEqDiff, ↓reduceIte, reduceCtorEq, Nat.reduceAdd, Nat.reduceMul, Int.reduceToNat, List.reduceReplicate, Nat.reduceLeDiff, Nat.reduceLT, Int.reduceLT, Int.reduceLE, Int.reduceEq, wrap_sub, wrap_mul, wrap_mul', hI, Int.zero_mul, Int.mul_one]; (try rfl); done))) | ((with_reducible apply call (c2)); (focus (simp (disch := omega) only [go_sem, Nat.reduceEqDiff, ↓reduceIte, reduceCtorEq, Nat.reduceAdd, Nat.reduceMul, Int.reduceToNat, List.reduceReplicate, Nat.reduceLeDiff, Nat.reduceLT, Int.reduceLT, Int.reduceLE, Int.reduceEq, wrap_sub, wrap_mul, wrap_mul', hI, Int.zero_mul, Int.mul_one]; (try rfl); done))) | ((with_reducible apply call (c3)); (focus (simp (disch := omega) only [go_sem, Nat.reduceEqDiff, ↓reduceIte, reduceCtorEq, Nat.reduceAdd, Nat.reduceMul, Int.reduceToNat, List.reduceReplicate, Nat.reduceLeDiff, Nat.reduceLT, Int.reduceLT, Int.reduceLE, Int.reduceEq, wrap_sub, wrap_mul, wrap_mul', hI, Int.zero_mul, Int.mul_one]; (try rfl); done))) | ((with_reducible apply call (known_ok)); (focus (simp (disch := omega) only [go_sem, Nat.reduceEqDiff, ↓reduceIte, reduceCtorEq, Nat.reduceAdd, Nat.reduceMul, Int.reduceToNat, List.reduceReplicate, Nat.reduceLeDiff, Nat.reduceLT, Int.reduceLT, Int.reduceLE, Int.reduceEq, wrap_sub, wrap_mul, wrap_mul', hI, Int.zero_mul, Int.mul_one]; (try rfl); done))) | fail)
  all_goals (simp only [Bool.and_eq_false_iff, decide_eq_false_iff_not] at _h; omega)
set_option maxHeartbeats 2000000 in
theorem tallySums_B2 (a b c d : Nat) (h : a + b + c + d ≤ 40) (hb0 : 0 < b) (hc0 : 0 < c) (n k : Nat) (hn : n ≤ 60) (hk : k ≤ n) (hp : k = 0 ∨ k = n) : Fn P 3 [tabA a b c d, intA (n : Int), intA (k : Int)] (boolA true) := by
  have k1 := Chosen_ok n k hn hk
  have c2 := Tail_ok a b c d h
  have hA := allW_le a b c d h
  have hE := exW_le a b c d h
  have c3 := exact_ok a b c d h (by omega) (by omega) (allW_pos a b c d)
  have hT := ones a b c d
  have c4 := Tail_ok (a + 1) (b - 1) (c - 1) (d + 1) (by omega)
  have hI := sums_step a b c d hb0 hc0
  have eb : (b : Int) - 1 = ((b - 1 : Nat) : Int) := by omega
  have ec : (c : Int) - 1 = ((c - 1 : Nat) : Int) := by omega
  generalize h1 : tlW a b c d / Nat.gcd (tlW a b c d) (allW a b c d) = tn at *
  generalize h2 : allW a b c d / Nat.gcd (tlW a b c d) (allW a b c d) = td at *
  generalize h3 : exW a b c d / Nat.gcd (exW a b c d) (allW a b c d) = en1 at *
  generalize h4 : allW a b c d / Nat.gcd (exW a b c d) (allW a b c d) = ed at *
  generalize h5 : tlW (a + 1) (b - 1) (c - 1) (d + 1) / Nat.gcd (tlW (a + 1) (b - 1) (c - 1) (d + 1)) (allW (a + 1) (b - 1) (c - 1) (d + 1)) = nn at *
  generalize h6 : allW (a + 1) (b - 1) (c - 1) (d + 1) / Nat.gcd (tlW (a + 1) (b - 1) (c - 1) (d + 1)) (allW (a + 1) (b - 1) (c - 1) (d + 1)) = nd at *
  refine fn_look s3_ok (by simp) (by intro k; simp only [go_sem, Nat.reduceEqDiff, ↓reduceIte, reduceCtorEq, Nat.reduceAdd, Nat.reduceMul, Int.reduceToNat, List.reduceReplicate, Nat.reduceLeDiff, Nat.reduceLT, Int.reduceLT, Int.reduceLE, Int.reduceEq]) fun S hS => cwp_sound _ _ _ _ ?_
  simp (disch := omega) only [s3, go_sem, Nat.reduceEqDiff, ↓reduceIte, reduceCtorEq, Nat.reduceAdd, Nat.reduceMul, Int.reduceToNat, List.reduceReplicate, Nat.reduceLeDiff, Nat.reduceLT, Int.reduceLT, Int.reduceLE, Int.reduceEq]
  repeat' (first | (with_reducible refine in_seq ?_) | (with_reducible refine in_reg ?_) | (with_reducible refine in_block ?_) | (with_reducible refine in_cond ?_) | (with_reducible refine in_ret ?_) | (with_reducible refine in_skip ?_) | (simp (disch := omega) only [go_sem, Nat.reduceEqDiff, ↓reduceIte, reduceCtorEq, Nat.reduceAdd, Nat.reduceMul, Int.reduceToNat, List.reduceReplicate, Nat.reduceLeDiff, Nat.reduceLT, Int.reduceLT, Int.reduceLE, Int.reduceEq, wrap_sub, wrap_mul, wrap_mul', hI, eb, ec]) | (with_reducible refine giv_intro fun _h => ?_) | ((first | with_reducible refine br_dec (fun _h => ?_) (fun _h => ?_) | with_reducible refine br_ndec (fun _h => ?_) (fun _h => ?_)) <;> (first | (exfalso; omega) | simp only [decide_eq_false _h] | simp only [decide_eq_true _h] | skip)) | ((first | with_reducible refine br_not (fun _h => ?_) (fun _h => ?_) | with_reducible refine br_var (fun _h => ?_) (fun _h => ?_)) <;> (try simp only [_h])) | ((with_reducible apply call (k1)); (focus (simp (disch := omega) only [go_sem, Nat.reduceEqDiff, ↓reduceIte, reduceCtorEq, Nat.reduceAdd, Nat.reduceMul, Int.reduceToNat, List.reduceReplicate, Nat.reduceLeDiff, Nat.reduceLT, Int.reduceLT, Int.reduceLE, Int.reduceEq, wrap_sub, wrap_mul, wrap_mul', hI, eb, ec]; (try rfl); done))) | ((with_reducible apply call (c2)); (focus (simp (disch := omega) only [go_sem, Nat.reduceEqDiff, ↓reduceIte, reduceCtorEq, Nat.reduceAdd, Nat.reduceMul, Int.reduceToNat, List.reduceReplicate, Nat.reduceLeDiff, Nat.reduceLT, Int.reduceLT, Int.reduceLE, Int.reduceEq, wrap_sub, wrap_mul, wrap_mul', hI, eb, ec]; (try rfl); done))) | ((with_reducible apply call (c3)); (focus (simp (disch := omega) only [go_sem, Nat.reduceEqDiff, ↓reduceIte, reduceCtorEq, Nat.reduceAdd, Nat.reduceMul, Int.reduceToNat, List.reduceReplicate, Nat.reduceLeDiff, Nat.reduceLT, Int.reduceLT, Int.reduceLE, Int.reduceEq, wrap_sub, wrap_mul, wrap_mul', hI, eb, ec]; (try rfl); done))) | ((with_reducible apply call (c4)); (focus (simp (disch := omega) only [go_sem, Nat.reduceEqDiff, ↓reduceIte, reduceCtorEq, Nat.reduceAdd, Nat.reduceMul, Int.reduceToNat, List.reduceReplicate, Nat.reduceLeDiff, Nat.reduceLT, Int.reduceLT, Int.reduceLE, Int.reduceEq, wrap_sub, wrap_mul, wrap_mul', hI, eb, ec]; (try rfl); done))) | ((with_reducible apply call (known_ok)); (focus (simp (disch := omega) only [go_sem, Nat.reduceEqDiff, ↓reduceIte, reduceCtorEq, Nat.reduceAdd, Nat.reduceMul, Int.reduceToNat, List.reduceReplicate, Nat.reduceLeDiff, Nat.reduceLT, Int.reduceLT, Int.reduceLE, Int.reduceEq, wrap_sub, wrap_mul, wrap_mul', hI, eb, ec]; (try rfl); done))) | fail)
  all_goals (simp only [Bool.and_eq_false_iff, decide_eq_false_iff_not] at _h; omega)
set_option maxHeartbeats 2000000 in
theorem tallySums_C0 (a b c d : Int) (h : ¬ OkT a b c d) (n k : Nat) (hn : n + 1 ≤ 60) (hk : k + 1 ≤ n) : Fn P 3 [tabI a b c d, intA ((n + 1 : Nat) : Int), intA ((k + 1 : Nat) : Int)] (boolA true) := by
  have k1 := Chosen_ok (n + 1) (k + 1) hn (by omega)
  have k2 := Chosen_ok n k (by omega) (by omega)
  have k3 := Chosen_ok n (k + 1) (by omega) (by omega)
  have en : ((n + 1 : Nat) : Int) - 1 = (n : Int) := by omega
  have ek : ((k + 1 : Nat) : Int) - 1 = (k : Int) := by omega
  have es : ((bin n k : Nat) : Int) + ((bin n (k + 1) : Nat) : Int) = ((bin (n + 1) (k + 1) : Nat) : Int) := rfl
  have hb := Nat.le_trans (bin_le (n + 1) (k + 1)) (Nat.pow_le_pow_right (show 0 < 2 by omega) hn)
  have c2 := Tail_no a b c d h
  have c3 := exact_no a b c d h
  refine fn_look s3_ok (by simp) (by intro k; simp only [go_sem, Nat.reduceEqDiff, ↓reduceIte, reduceCtorEq, Nat.reduceAdd, Nat.reduceMul, Int.reduceToNat, List.reduceReplicate, Nat.reduceLeDiff, Nat.reduceLT, Int.reduceLT, Int.reduceLE, Int.reduceEq]) fun S hS => cwp_sound _ _ _ _ ?_
  simp (disch := omega) only [s3, go_sem, Nat.reduceEqDiff, ↓reduceIte, reduceCtorEq, Nat.reduceAdd, Nat.reduceMul, Int.reduceToNat, List.reduceReplicate, Nat.reduceLeDiff, Nat.reduceLT, Int.reduceLT, Int.reduceLE, Int.reduceEq]
  repeat' (first | (with_reducible refine in_seq ?_) | (with_reducible refine in_reg ?_) | (with_reducible refine in_block ?_) | (with_reducible refine in_cond ?_) | (with_reducible refine in_ret ?_) | (with_reducible refine in_skip ?_) | (simp (disch := omega) only [go_sem, Nat.reduceEqDiff, ↓reduceIte, reduceCtorEq, Nat.reduceAdd, Nat.reduceMul, Int.reduceToNat, List.reduceReplicate, Nat.reduceLeDiff, Nat.reduceLT, Int.reduceLT, Int.reduceLE, Int.reduceEq, en, ek, es]) | (with_reducible refine giv_intro fun _h => ?_) | ((first | with_reducible refine br_dec (fun _h => ?_) (fun _h => ?_) | with_reducible refine br_ndec (fun _h => ?_) (fun _h => ?_)) <;> (first | (exfalso; omega) | simp only [decide_eq_false _h] | simp only [decide_eq_true _h] | skip)) | ((first | with_reducible refine br_not (fun _h => ?_) (fun _h => ?_) | with_reducible refine br_var (fun _h => ?_) (fun _h => ?_)) <;> (try simp only [_h])) | ((with_reducible apply call (k1)); (focus (simp (disch := omega) only [go_sem, Nat.reduceEqDiff, ↓reduceIte, reduceCtorEq, Nat.reduceAdd, Nat.reduceMul, Int.reduceToNat, List.reduceReplicate, Nat.reduceLeDiff, Nat.reduceLT, Int.reduceLT, Int.reduceLE, Int.reduceEq, en, ek, es]; (try rfl); done))) | ((with_reducible apply call (k2)); (focus (simp (disch := omega) only [go_sem, Nat.reduceEqDiff, ↓reduceIte, reduceCtorEq, Nat.reduceAdd, Nat.reduceMul, Int.reduceToNat, List.reduceReplicate, Nat.reduceLeDiff, Nat.reduceLT, Int.reduceLT, Int.reduceLE, Int.reduceEq, en, ek, es]; (try rfl); done))) | ((with_reducible apply call (k3)); (focus (simp (disch := omega) only [go_sem, Nat.reduceEqDiff, ↓reduceIte, reduceCtorEq, Nat.reduceAdd, Nat.reduceMul, Int.reduceToNat, List.reduceReplicate, Nat.reduceLeDiff, Nat.reduceLT, Int.reduceLT, Int.reduceLE, Int.reduceEq, en, ek, es]; (try rfl); done))) | ((with_reducible apply call (c2)); (focus (simp (disch := omega) only [go_sem, Nat.reduceEqDiff, ↓reduceIte, reduceCtorEq, Nat.reduceAdd, Nat.reduceMul, Int.reduceToNat, List.reduceReplicate, Nat.reduceLeDiff, Nat.reduceLT, Int.reduceLT, Int.reduceLE, Int.reduceEq, en, ek, es]; (try rfl); done))) | ((with_reducible apply call (c3)); (focus (simp (disch := omega) only [go_sem, Nat.reduceEqDiff, ↓reduceIte, reduceCtorEq, Nat.reduceAdd, Nat.reduceMul, Int.reduceToNat, List.reduceReplicate, Nat.reduceLeDiff, Nat.reduceLT, Int.reduceLT, Int.reduceLE, Int.reduceEq, en, ek, es]; (try rfl); done))) | ((with_reducible apply call (known_ok)); (focus (simp (disch := omega) only [go_sem, Nat.reduceEqDiff, ↓reduceIte, reduceCtorEq, Nat.reduceAdd, Nat.reduceMul, Int.reduceToNat, List.reduceReplicate, Nat.reduceLeDiff, Nat.reduceLT, Int.reduceLT, Int.reduceLE, Int.reduceEq, en, ek, es]; (try rfl); done))) | fail)
set_option maxHeartbeats 2000000 in
theorem tallySums_C1 (a b c d : Nat) (h : a + b + c + d ≤ 40) (hbc : b = 0 ∨ c = 0) (n k : Nat) (hn : n + 1 ≤ 60) (hk : k + 1 ≤ n) : Fn P 3 [tabA a b c d, intA ((n + 1 : Nat) : Int), intA ((k + 1 : Nat) : Int)] (boolA true) := by
  have k1 := Chosen_ok (n + 1) (k + 1) hn (by omega)
  have k2 := Chosen_ok n k (by omega) (by omega)
  have k3 := Chosen_ok n (k + 1) (by omega) (by omega)
  have en : ((n + 1 : Nat) : Int) - 1 = (n : Int) := by omega
  have ek : ((k + 1 : Nat) : Int) - 1 = (k : Int) := by omega
  have es : ((bin n k : Nat) : Int) + ((bin n (k + 1) : Nat) : Int) = ((bin (n + 1) (k + 1) : Nat) : Int) := rfl
  have hb := Nat.le_trans (bin_le (n + 1) (k + 1)) (Nat.pow_le_pow_right (show 0 < 2 by omega) hn)
  have c2 := Tail_ok a b c d h
  have hA := allW_le a b c d h
  have hE := exW_le a b c d h
  have c3 := exact_ok a b c d h (by omega) (by omega) (allW_pos a b c d)
  have hT := ones a b c d
  have hI := sums_last a b c d hbc
  generalize h1 : tlW a b c d / Nat.gcd (tlW a b c d) (allW a b c d) = tn at *
  generalize h2 : allW a b c d / Nat.gcd (tlW a b c d) (allW a b c d) = td at *
  generalize h3 : exW a b c d / Nat.gcd (exW a b c d) (allW a b c d) = en1 at *
  generalize h4 : allW a b c d / Nat.gcd (exW a b c d) (allW a b c d) = ed at *
  refine fn_look s3_ok (by simp) (by intro k; simp only [go_sem, Nat.reduceEqDiff, ↓reduceIte, reduceCtorEq, Nat.reduceAdd, Nat.reduceMul, Int.reduceToNat, List.reduceReplicate, Nat.reduceLeDiff, Nat.reduceLT, Int.reduceLT, Int.reduceLE, Int.reduceEq]) fun S hS => cwp_sound _ _ _ _ ?_
  simp (disch := omega) only [s3, go_sem, Nat.reduceEqDiff, ↓reduceIte, reduceCtorEq, Nat.reduceAdd, Nat.reduceMul, Int.reduceToNat, List.reduceReplicate, Nat.reduceLeDiff, Nat.reduceLT, Int.reduceLT, Int.reduceLE, Int.reduceEq]
  repeat' (first | (with_reducible refine in_seq ?_) | (with_reducible refine in_reg ?_) | (with_reducible refine in_block ?_) | (with_reducible refine in_cond ?_) | (with_reducible refine in_ret ?_) | (with_reducible refine in_skip ?_) | (simp (disch := omega) only [go_sem, Nat.reduceEqDiff, ↓reduceIte, reduceCtorEq, Nat.reduceAdd, Nat.reduceMul, Int.reduceToNat, List.reduceReplicate, Nat.reduceLeDiff, Nat.reduceLT, Int.reduceLT, Int.reduceLE, Int.reduceEq, en, ek, es, wrap_sub, wrap_mul, wrap_mul', hI, Int.zero_mul, Int.mul_one]) | (with_reducible refine giv_intro fun _h => ?_) | ((first | with_reducible refine br_dec (fun _h => ?_) (fun _h => ?_) | with_reducible refine br_ndec (fun _h => ?_) (fun _h => ?_)) <;> (first | (exfalso; omega) | simp only [decide_eq_false _h] | simp only [decide_eq_true _h] | skip)) | ((first | with_reducible refine br_not (fun _h => ?_) (fun _h => ?_) | with_reducible refine br_var (fun _h => ?_) (fun _h => ?_)) <;> (try simp only [_h])) | ((with_reducible apply call (k1)); (focus (simp (disch := omega) only [go_sem, Nat.reduceEqDiff, ↓reduceIte, reduceCtorEq, Nat.reduceAdd, Nat.reduceMul, Int.reduceToNat, List.reduceReplicate, Nat.reduceLeDiff, Nat.reduceLT, Int.reduceLT, Int.reduceLE, Int.reduceEq, en, ek, es, wrap_sub, wrap_mul, wrap_mul', hI, Int.zero_mul, Int.mul_one]; (try rfl); done))) | ((with_reducible apply call (k2)); (focus (simp (disch := omega) only [go_sem, Nat.reduceEqDiff, ↓reduceIte, reduceCtorEq, Nat.reduceAdd, Nat.reduceMul, Int.reduceToNat, List.reduceReplicate, Nat.reduceLeDiff, Nat.reduceLT, Int.reduceLT, Int.reduceLE, Int.reduceEq, en, ek, es, wrap_sub, wrap_mul, wrap_mul', hI, Int.zero_mul, Int.mul_one]; (try rfl); done))) | ((with_reducible apply call (k3)); (focus (simp (disch := omega) only [go_sem, Nat.reduceEqDiff, ↓reduceIte, reduceCtorEq, Nat.reduceAdd, Nat.reduceMul, Int.reduceToNat, List.reduceReplicate, Nat.reduceLeDiff, Nat.reduceLT, Int.reduceLT, Int.reduceLE, Int.reduceEq, en, ek, es, wrap_sub, wrap_mul, wrap_mul', hI, Int.zero_mul, Int.mul_one]; (try rfl); done))) | ((with_reducible apply call (c2)); (focus (simp (disch := omega) only [go_sem, Nat.reduceEqDiff, ↓reduceIte, reduceCtorEq, Nat.reduceAdd, Nat.reduceMul, Int.reduceToNat, List.reduceReplicate, Nat.reduceLeDiff, Nat.reduceLT, Int.reduceLT, Int.reduceLE, Int.reduceEq, en, ek, es, wrap_sub, wrap_mul, wrap_mul', hI, Int.zero_mul, Int.mul_one]; (try rfl); done))) | ((with_reducible apply call (c3)); (focus (simp (disch := omega) only [go_sem, Nat.reduceEqDiff, ↓reduceIte, reduceCtorEq, Nat.reduceAdd, Nat.reduceMul, Int.reduceToNat, List.reduceReplicate, Nat.reduceLeDiff, Nat.reduceLT, Int.reduceLT, Int.reduceLE, Int.reduceEq, en, ek, es, wrap_sub, wrap_mul, wrap_mul', hI, Int.zero_mul, Int.mul_one]; (try rfl); done))) | ((with_reducible apply call (known_ok)); (focus (simp (disch := omega) only [go_sem, Nat.reduceEqDiff, ↓reduceIte, reduceCtorEq, Nat.reduceAdd, Nat.reduceMul, Int.reduceToNat, List.reduceReplicate, Nat.reduceLeDiff, Nat.reduceLT, Int.reduceLT, Int.reduceLE, Int.reduceEq, en, ek, es, wrap_sub, wrap_mul, wrap_mul', hI, Int.zero_mul, Int.mul_one]; (try rfl); done))) | fail)
  all_goals (simp only [Bool.and_eq_false_iff, decide_eq_false_iff_not] at _h; omega)
set_option maxHeartbeats 2000000 in
theorem tallySums_C2 (a b c d : Nat) (h : a + b + c + d ≤ 40) (hb0 : 0 < b) (hc0 : 0 < c) (n k : Nat) (hn : n + 1 ≤ 60) (hk : k + 1 ≤ n) : Fn P 3 [tabA a b c d, intA ((n + 1 : Nat) : Int), intA ((k + 1 : Nat) : Int)] (boolA true) := by
  have k1 := Chosen_ok (n + 1) (k + 1) hn (by omega)
  have k2 := Chosen_ok n k (by omega) (by omega)
  have k3 := Chosen_ok n (k + 1) (by omega) (by omega)
  have en : ((n + 1 : Nat) : Int) - 1 = (n : Int) := by omega
  have ek : ((k + 1 : Nat) : Int) - 1 = (k : Int) := by omega
  have es : ((bin n k : Nat) : Int) + ((bin n (k + 1) : Nat) : Int) = ((bin (n + 1) (k + 1) : Nat) : Int) := rfl
  have hb := Nat.le_trans (bin_le (n + 1) (k + 1)) (Nat.pow_le_pow_right (show 0 < 2 by omega) hn)
  have c2 := Tail_ok a b c d h
  have hA := allW_le a b c d h
  have hE := exW_le a b c d h
  have c3 := exact_ok a b c d h (by omega) (by omega) (allW_pos a b c d)
  have hT := ones a b c d
  have c4 := Tail_ok (a + 1) (b - 1) (c - 1) (d + 1) (by omega)
  have hI := sums_step a b c d hb0 hc0
  have eb : (b : Int) - 1 = ((b - 1 : Nat) : Int) := by omega
  have ec : (c : Int) - 1 = ((c - 1 : Nat) : Int) := by omega
  generalize h1 : tlW a b c d / Nat.gcd (tlW a b c d) (allW a b c d) = tn at *
  generalize h2 : allW a b c d / Nat.gcd (tlW a b c d) (allW a b c d) = td at *
  generalize h3 : exW a b c d / Nat.gcd (exW a b c d) (allW a b c d) = en1 at *
  generalize h4 : allW a b c d / Nat.gcd (exW a b c d) (allW a b c d) = ed at *
  generalize h5 : tlW (a + 1) (b - 1) (c - 1) (d + 1) / Nat.gcd (tlW (a + 1) (b - 1) (c - 1) (d + 1)) (allW (a + 1) (b - 1) (c - 1) (d + 1)) = nn at *
  generalize h6 : allW (a + 1) (b - 1) (c - 1) (d + 1) / Nat.gcd (tlW (a + 1) (b - 1) (c - 1) (d + 1)) (allW (a + 1) (b - 1) (c - 1) (d + 1)) = nd at *
  refine fn_look s3_ok (by simp) (by intro k; simp only [go_sem, Nat.reduceEqDiff, ↓reduceIte, reduceCtorEq, Nat.reduceAdd, Nat.reduceMul, Int.reduceToNat, List.reduceReplicate, Nat.reduceLeDiff, Nat.reduceLT, Int.reduceLT, Int.reduceLE, Int.reduceEq]) fun S hS => cwp_sound _ _ _ _ ?_
  simp (disch := omega) only [s3, go_sem, Nat.reduceEqDiff, ↓reduceIte, reduceCtorEq, Nat.reduceAdd, Nat.reduceMul, Int.reduceToNat, List.reduceReplicate, Nat.reduceLeDiff, Nat.reduceLT, Int.reduceLT, Int.reduceLE, Int.reduceEq]
  repeat' (first | (with_reducible refine in_seq ?_) | (with_reducible refine in_reg ?_) | (with_reducible refine in_block ?_) | (with_reducible refine in_cond ?_) | (with_reducible refine in_ret ?_) | (with_reducible refine in_skip ?_) | (simp (disch := omega) only [go_sem, Nat.reduceEqDiff, ↓reduceIte, reduceCtorEq, Nat.reduceAdd, Nat.reduceMul, Int.reduceToNat, List.reduceReplicate, Nat.reduceLeDiff, Nat.reduceLT, Int.reduceLT, Int.reduceLE, Int.reduceEq, en, ek, es, wrap_sub, wrap_mul, wrap_mul', hI, eb, ec]) | (with_reducible refine giv_intro fun _h => ?_) | ((first | with_reducible refine br_dec (fun _h => ?_) (fun _h => ?_) | with_reducible refine br_ndec (fun _h => ?_) (fun _h => ?_)) <;> (first | (exfalso; omega) | simp only [decide_eq_false _h] | simp only [decide_eq_true _h] | skip)) | ((first | with_reducible refine br_not (fun _h => ?_) (fun _h => ?_) | with_reducible refine br_var (fun _h => ?_) (fun _h => ?_)) <;> (try simp only [_h])) | ((with_reducible apply call (k1)); (focus (simp (disch := omega) only [go_sem, Nat.reduceEqDiff, ↓reduceIte, reduceCtorEq, Nat.reduceAdd, Nat.reduceMul, Int.reduceToNat, List.reduceReplicate, Nat.reduceLeDiff, Nat.reduceLT, Int.reduceLT, Int.reduceLE, Int.reduceEq, en, ek, es, wrap_sub, wrap_mul, wrap_mul', hI, eb, ec]; (try rfl); done))) | ((with_reducible apply call (k2)); (focus (simp (disch := omega) only [go_sem, Nat.reduceEqDiff, ↓reduceIte, reduceCtorEq, Nat.reduceAdd, Nat.reduceMul, Int.reduceToNat, List.reduceReplicate, Nat.reduceLeDiff, Nat.reduceLT, Int.reduceLT, Int.reduceLE, Int.reduceEq, en, ek, es, wrap_sub, wrap_mul, wrap_mul', hI, eb, ec]; (try rfl); done))) | ((with_reducible apply call (k3)); (focus (simp (disch := omega) only [go_sem, Nat.reduceEqDiff, ↓reduceIte, reduceCtorEq, Nat.reduceAdd, Nat.reduceMul, Int.reduceToNat, List.reduceReplicate, Nat.reduceLeDiff, Nat.reduceLT, Int.reduceLT, Int.reduceLE, Int.reduceEq, en, ek, es, wrap_sub, wrap_mul, wrap_mul', hI, eb, ec]; (try rfl); done))) | ((with_reducible apply call (c2)); (focus (simp (disch := omega) only [go_sem, Nat.reduceEqDiff, ↓reduceIte, reduceCtorEq, Nat.reduceAdd, Nat.reduceMul, Int.reduceToNat, List.reduceReplicate, Nat.reduceLeDiff, Nat.reduceLT, Int.reduceLT, Int.reduceLE, Int.reduceEq, en, ek, es, wrap_sub, wrap_mul, wrap_mul', hI, eb, ec]; (try rfl); done))) | ((with_reducible apply call (c3)); (focus (simp (disch := omega) only [go_sem, Nat.reduceEqDiff, ↓reduceIte, reduceCtorEq, Nat.reduceAdd, Nat.reduceMul, Int.reduceToNat, List.reduceReplicate, Nat.reduceLeDiff, Nat.reduceLT, Int.reduceLT, Int.reduceLE, Int.reduceEq, en, ek, es, wrap_sub, wrap_mul, wrap_mul', hI, eb, ec]; (try rfl); done))) | ((with_reducible apply call (c4)); (focus (simp (disch := omega) only [go_sem, Nat.reduceEqDiff, ↓reduceIte, reduceCtorEq, Nat.reduceAdd, Nat.reduceMul, Int.reduceToNat, List.reduceReplicate, Nat.reduceLeDiff, Nat.reduceLT, Int.reduceLT, Int.reduceLE, Int.reduceEq, en, ek, es, wrap_sub, wrap_mul, wrap_mul', hI, eb, ec]; (try rfl); done))) | ((with_reducible apply call (known_ok)); (focus (simp (disch := omega) only [go_sem, Nat.reduceEqDiff, ↓reduceIte, reduceCtorEq, Nat.reduceAdd, Nat.reduceMul, Int.reduceToNat, List.reduceReplicate, Nat.reduceLeDiff, Nat.reduceLT, Int.reduceLT, Int.reduceLE, Int.reduceEq, en, ek, es, wrap_sub, wrap_mul, wrap_mul', hI, eb, ec]; (try rfl); done))) | fail)
  all_goals (simp only [Bool.and_eq_false_iff, decide_eq_false_iff_not] at _h; omega)

theorem tallySums_ok (t : Int × Int × Int × Int) (n k : Int) : Fn P 3 [tabI t.1 t.2.1 t.2.2.1 t.2.2.2, intA n, intA k] (boolA true) := by
  obtain ⟨a, b, c, d⟩ := t
  have toN : ∀ {x : Int}, 0 ≤ x → ∃ y : Nat, x = y := fun h => ⟨_, (Int.toNat_of_nonneg h).symm⟩
  by_cases hp : n < 0 ∨ 60 < n ∨ k < 0 ∨ n < k
  · by_cases ht : OkT a b c d
    · obtain ⟨h1, h2, h3, h4, h5⟩ := ht
      obtain ⟨a, rfl⟩ := toN h1; obtain ⟨b, rfl⟩ := toN h2; obtain ⟨c, rfl⟩ := toN h3; obtain ⟨d, rfl⟩ := toN h4
      by_cases hb : b = 0 ∨ c = 0
      · exact tallySums_A1 a b c d (by omega) hb n k hp
      · exact tallySums_A2 a b c d (by omega) (by omega) (by omega) n k hp
    · exact tallySums_A0 a b c d ht n k hp
  · obtain ⟨n, rfl⟩ := toN (x := n) (by omega); obtain ⟨k, rfl⟩ := toN (x := k) (by omega)
    by_cases hk : k = 0 ∨ k = n
    · by_cases ht : OkT a b c d
      · obtain ⟨h1, h2, h3, h4, h5⟩ := ht
        obtain ⟨a, rfl⟩ := toN h1; obtain ⟨b, rfl⟩ := toN h2; obtain ⟨c, rfl⟩ := toN h3; obtain ⟨d, rfl⟩ := toN h4
        by_cases hb : b = 0 ∨ c = 0
        · exact tallySums_B1 a b c d (by omega) hb n k (by omega) (by omega) hk
        · exact tallySums_B2 a b c d (by omega) (by omega) (by omega) n k (by omega) (by omega) hk
      · exact tallySums_B0 a b c d ht n k (by omega) (by omega) hk
    · obtain ⟨n, rfl⟩ : ∃ m, n = m + 1 := ⟨n - 1, by omega⟩
      obtain ⟨k, rfl⟩ : ∃ m, k = m + 1 := ⟨k - 1, by omega⟩
      by_cases ht : OkT a b c d
      · obtain ⟨h1, h2, h3, h4, h5⟩ := ht
        obtain ⟨a, rfl⟩ := toN h1; obtain ⟨b, rfl⟩ := toN h2; obtain ⟨c, rfl⟩ := toN h3; obtain ⟨d, rfl⟩ := toN h4
        by_cases hb : b = 0 ∨ c = 0
        · exact tallySums_C1 a b c d (by omega) hb n k (by omega) (by omega)
        · exact tallySums_C2 a b c d (by omega) (by omega) (by omega) n k (by omega) (by omega)
      · exact tallySums_C0 a b c d ht n k (by omega) (by omega)
end Go.Proofs.Ytedbjmonfbpefaa.Ev
