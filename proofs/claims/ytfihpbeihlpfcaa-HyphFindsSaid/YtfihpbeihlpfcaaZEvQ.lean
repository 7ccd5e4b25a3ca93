/- Equations for going through code step by step: what asks for a proof is held, what branches waits. -/
import Derived.Test.YtfihpbeihlpfcaaZEvM
import Derived.Laws.Strings
set_option linter.unusedVariables false
set_option linter.unusedSimpArgs false
namespace Go.Proofs.Ytfihpbeihlpfcaa.Ev
open Go Go.RowKit

abbrev strA (s : ByteArray) : AV := .sc (.string s)
abbrev intA (i : Int) : AV := .sc (.int .i64 i)
abbrev boolA (b : Bool) : AV := .sc (.bool b)
abbrev nilA : AV := .sc (.slice none 0 0)

/-- Something asked for, then what comes later. -/
def req (p : Prop) (K : Unit → Prop) (b : Dep K) : Prop := p ∧ K ()
theorem req_ok {p : Prop} {K : Unit → Prop} (h : p) : req p K () = K () := by simp [req, h]
/-- Something given, then what comes later. -/
def giv (p : Prop) (K : Unit → Prop) (b : Dep K) : Prop := p → K ()
theorem giv_ok {p : Prop} {K : Unit → Prop} (h : p) : giv p K () = K () := by simp [giv, h]
theorem giv_intro {p : Prop} {K : Unit → Prop} (k : p → K ()) : giv p K () := k
/-- A branch. -/
def brH (t : Bool) (K : Bool → Prop) (b : Dep K) : Prop := K t
theorem brH_t (K : Bool → Prop) : brH true K () = K true := _root_.id rfl
theorem brH_f (K : Bool → Prop) : brH false K () = K false := _root_.id rfl
/-- A branch by what it asks. -/
class Br (t : Bool) (p q : outParam Prop) : Prop where
  or : (t = true ∧ p) ∨ (t = false ∧ q)
instance (priority := 10) brV (t : Bool) : Br t (t = true) (t = false) := ⟨by cases t <;> simp⟩
instance (priority := 20) brN (t : Bool) : Br (!t) (t = false) (t = true) := ⟨by cases t <;> simp⟩
instance (priority := 30) brD (p : Prop) [Decidable p] : Br (decide p) p (¬p) := ⟨by by_cases h : p <;> simp [h]⟩
instance (priority := 40) brND (p : Prop) [Decidable p] : Br (!decide p) (¬p) p := ⟨by by_cases h : p <;> simp [h]⟩
theorem brc {t : Bool} {p q : Prop} [B : Br t p q] {K : Bool → Prop} (h1 : p → K true) (h2 : q → K false) : brH t K () := by
  unfold brH
  rcases B.or with ⟨rfl, h⟩ | ⟨rfl, h⟩
  · exact h1 h
  · exact h2 h
theorem guardH_br (t want : Bool) (F : Bool → Option Bool → Prop) : guardH (.sc (.bool t)) want F () = brH t (fun t => if t = want then F true (some want) else F false (some !want)) () := guardH_bool t want F

theorem wrap_nat {x : Int} (h : -9223372036854775808 ≤ x ∧ x ≤ 9223372036854775807) : IntKind.i64.wrap x = x := wrap_id h.1 h.2
/-! ### numbers and texts -/
def binH (op : BinOp) (x y : Value) (K : Value → Prop) (b : Dep K) : Prop := binV op x y K
section
variable {K : Value → Prop} (k : IntKind) (a b : Int)
theorem b_add : binH .add (.int k a) (.int k b) K () = letK (.int k (k.wrap (a + b))) K () := by simp [binH, binV, letK]
theorem b_sub : binH .sub (.int k a) (.int k b) K () = letK (.int k (k.wrap (a - b))) K () := by simp [binH, binV, letK]
theorem b_mul : binH .mul (.int k a) (.int k b) K () = letK (.int k (k.wrap (a * b))) K () := by simp [binH, binV, letK]
theorem b_rem : binH .rem (.int k a) (.int k b) K () = req (b ≠ 0) (fun _ => letK (.int k (a.tmod b)) K ()) () := by simp [binH, binV, letK, req]
theorem b_eql : binH .eql (.int k a) (.int k b) K () = letK (.bool (decide (a = b))) K () := by
  simp only [binH, binV, letK, true_and]
  congr 1
theorem b_neq : binH .neq (.int k a) (.int k b) K () = letK (.bool (!decide (a = b))) K () := by
  simp only [binH, binV, letK, true_and, bne]
  congr 1
theorem b_lss : binH .lss (.int k a) (.int k b) K () = letK (.bool (decide (a < b))) K () := by simp [binH, binV, letK]
theorem b_leq : binH .leq (.int k a) (.int k b) K () = letK (.bool (decide (a ≤ b))) K () := by simp [binH, binV, letK]
theorem b_gtr : binH .gtr (.int k a) (.int k b) K () = letK (.bool (decide (b < a))) K () := by simp [binH, binV, letK]
theorem b_geq : binH .geq (.int k a) (.int k b) K () = letK (.bool (decide (b ≤ a))) K () := by simp [binH, binV, letK]
end

theorem bytes_inj {a b : ByteArray} (h : a.toList = b.toList) : a = b := by
  rw [ByteArray.toList_eq, ByteArray.toList_eq] at h
  cases a; cases b
  simp only at h
  congr
  exact Array.toList_inj.1 h
theorem str_eq (a b : ByteArray) : (a.toList == b.toList) = decide (a = b) := by
  by_cases h : a = b
  · subst h; simp
  · simp only [h, decide_false, beq_eq_false_iff_ne, ne_eq]
    exact fun e => h (bytes_inj e)

theorem bl_irrefl : ∀ a : List UInt8, Op.bytesLess a a = false
  | [] => rfl
  | a :: x => by simp [Op.bytesLess, bl_irrefl x]
theorem bl_tri : ∀ a b : List UInt8, Op.bytesLess a b = false → Op.bytesLess b a = false → a = b
  | [], [], _, _ => rfl
  | [], b :: y, h, _ => by simp [Op.bytesLess] at h
  | a :: x, [], _, h => by simp [Op.bytesLess] at h
  | a :: x, b :: y, h1, h2 => by
    simp only [Op.bytesLess, Bool.or_eq_false_iff, decide_eq_false_iff_not, Bool.and_eq_false_iff, beq_eq_false_iff_ne] at h1 h2
    have e : a = b := by
      apply UInt8.toNat_inj.1
      have := mt UInt8.lt_iff_toNat_lt.2 h1.1
      have := mt UInt8.lt_iff_toNat_lt.2 h2.1
      omega
    subst e
    rw [bl_tri x y (by simpa using h1.2) (by simpa using h2.2)]
theorem bl_asymm : ∀ a b : List UInt8, Op.bytesLess a b = true → Op.bytesLess b a = false
  | [], [], h => by simp [Op.bytesLess] at h
  | [], b :: y, _ => rfl
  | a :: x, [], h => by simp [Op.bytesLess] at h
  | a :: x, b :: y, h => by
    simp only [Op.bytesLess, Bool.or_eq_true, decide_eq_true_eq, Bool.and_eq_true, beq_iff_eq] at h
    simp only [Op.bytesLess, Bool.or_eq_false_iff, decide_eq_false_iff_not, Bool.and_eq_false_iff, beq_eq_false_iff_ne]
    rcases h with h | ⟨rfl, h⟩
    · have h' := UInt8.lt_iff_toNat_lt.1 h
      refine ⟨fun h2 => ?_, .inl fun e => ?_⟩
      · have := UInt8.lt_iff_toNat_lt.1 h2; omega
      · subst e; omega
    · exact ⟨fun h2 => by have := UInt8.lt_iff_toNat_lt.1 h2; omega, .inr (bl_asymm x y h)⟩
theorem bl_trans : ∀ a b c : List UInt8, Op.bytesLess a b = true → Op.bytesLess b c = true → Op.bytesLess a c = true
  | a, b, [], _, h => by cases b <;> simp [Op.bytesLess] at h
  | [], b, c :: z, _, _ => rfl
  | a :: x, [], c :: z, h, _ => by simp [Op.bytesLess] at h
  | a :: x, b :: y, c :: z, h1, h2 => by
    simp only [Op.bytesLess, Bool.or_eq_true, decide_eq_true_eq, Bool.and_eq_true, beq_iff_eq] at h1 h2 ⊢
    rcases h1 with h1 | ⟨rfl, h1⟩ <;> rcases h2 with h2 | ⟨rfl, h2⟩
    · have := UInt8.lt_iff_toNat_lt.1 h1; have := UInt8.lt_iff_toNat_lt.1 h2
      exact .inl (UInt8.lt_iff_toNat_lt.2 (by omega))
    · exact .inl h1
    · exact .inl h2
    · exact .inr ⟨rfl, bl_trans x y z h1 h2⟩
/-- The order of texts. -/
def ltB (a b : ByteArray) : Bool := Op.bytesLess a.toList b.toList
theorem ltB_irrefl (a : ByteArray) : ltB a a = false := bl_irrefl _
theorem ltB_tri {a b : ByteArray} (h1 : ltB a b = false) (h2 : ltB b a = false) : a = b := bytes_inj (bl_tri _ _ h1 h2)
theorem ltB_asymm {a b : ByteArray} (h : ltB a b = true) : ltB b a = false := bl_asymm _ _ h
theorem ltB_trans {a b c : ByteArray} (h : ltB a b = true) (h2 : ltB b c = true) : ltB a c = true := bl_trans _ _ _ h h2
theorem ltB_gt (a b : ByteArray) : (!(ltB a b || decide (a = b))) = ltB b a := by
  cases h : ltB a b
  · by_cases e : a = b
    · subst e; simp [ltB_irrefl]
    · simp only [e, decide_false, Bool.or_self, Bool.not_false]
      cases h2 : ltB b a
      · exact absurd (ltB_tri h h2) e
      · rfl
  · simp [ltB_asymm h]
theorem ltB_le (a b : ByteArray) : (ltB a b || decide (a = b)) = !ltB b a := by rw [← ltB_gt a b, Bool.not_not]
section
variable {K : Value → Prop} (a b : ByteArray)
theorem b_eqlS : binH .eql (.string a) (.string b) K () = letK (.bool (decide (a = b))) K () := by simp only [binH, binV, letK, str_eq]
theorem b_neqS : binH .neq (.string a) (.string b) K () = letK (.bool (!decide (a = b))) K () := by simp only [binH, binV, letK, str_eq]
theorem b_lssS : binH .lss (.string a) (.string b) K () = letK (.bool (ltB a b)) K () := _root_.id rfl
theorem b_leqS : binH .leq (.string a) (.string b) K () = letK (.bool (!ltB b a)) K () := by
  rw [← ltB_le, ← str_eq]; rfl
theorem b_gtrS : binH .gtr (.string a) (.string b) K () = letK (.bool (ltB b a)) K () := by
  rw [← ltB_gt, ← str_eq]; rfl
end

/-! ### operations that ask -/
theorem intH_congr {x : AV} {K K' : IntKind → Int → Prop} (h : ∀ k u, K k u = K' k u) : intH x K () = intH x K' () := by
  unfold intH; split
  · exact h _ _
  · rfl
theorem strH_congr {x : AV} {K K' : ByteArray → Prop} (h : ∀ u, K u = K' u) : strH x K () = strH x K' () := by
  unfold strH; split
  · exact h _
  · rfl
theorem orH_congr {α : Type} {x : Option α} {K K' : α → Prop} (h : ∀ u, K u = K' u) : orH x K () = orH x K' () := by
  unfold orH orK; split
  · exact h _
  · rfl
section
variable {P : Program} {fr : Fr} {S : St} {K : AV → St → Prop}
theorem x_pick (c a b : SA) : swp P (.pick c a b) fr S K = boolH (evS fr c) (fun t => brH t (fun t => if t = true then letK (evS fr a) (fun r => K r S) () else letK (evS fr b) (fun r => K r S) ()) ()) () := s_pick c a b
theorem x_bin (op : BinOp) (x y : SA) : swp P (.bin op x y) fr S K = scH (evS fr x) (fun u => scH (evS fr y) (fun v => binH op u v (fun r => letK (.sc r) (fun r => K r S) ()) ()) ()) () := s_bin op x y
theorem x_mksl (e k bytes : Nat) (zs : List Value) (len cap : SA) : swp P (.mksl e k bytes zs len cap) fr S K = intH (evS fr len) (fun _ (n : Int) => intH (evS fr cap) (fun _ (c : Int) =>
      req (0 ≤ n ∧ n ≤ c ∧ c * bytes ≤ 281474976710656 ∧ c ≤ 281474976710656 ∧ n.toNat * k ≤ 281474976710656) (fun _ => letK (S.add (.row e k (zcells zs (n.toNat * k)))) (fun S' => letK (.ref S.n (n.toNat * k) 0 n.toNat) (fun r => K r S') ()) ()) ()) ()) () := by
  rw [s_mksl]; exact intH_congr fun _ _ => intH_congr fun _ _ => by simp only [req, and_assoc]
theorem x_ixs (x i : SA) : swp P (.ixs x i) fr S K = intH (evS fr i) (fun _ j => strH (evS fr x) (fun s => req (0 ≤ j ∧ j < s.size) (fun _ => letK (.sc (.int .u8 (byteAt s j.toNat))) (fun r => K r S) ()) ()) ()) () := by
  rw [s_ixs]; exact intH_congr fun _ _ => strH_congr fun _ => by simp only [req, and_assoc]
end
section
variable {K : AV → Prop}
theorem len_ro (S : St) (n : Nat) (cs : List AV) : lenH S false (.ro n cs) K () = giv (n ≤ 9223372036854775807) (fun _ => letK (.sc (.int .i64 n)) K ()) () := lenH_ro S n cs
theorem ia_ref (S : St) (k : Nat) (j : Int) (l tot off n : Nat) : iaddrH S k j (.ref l tot off n) K () = orH (S.row? l tot) (fun _ => req (0 ≤ j ∧ j < n) (fun _ => letK (.ptr l tot (off + j.toNat * k)) K ()) ()) () := by
  rw [iaddrH_ref]; exact orH_congr fun _ => by simp only [req, and_assoc]
theorem ia_ro (S : St) (k : Nat) (j : Int) (n : Nat) (cs : List AV) : iaddrH S k j (.ro n cs) K () = req (0 ≤ j ∧ j < n ∧ j.toNat * k < cs.length) (fun _ => letK (.rop (cs.drop (j.toNat * k))) K ()) () := by
  rw [iaddrH_ro]; simp only [req, and_assoc]
theorem ia_Aptr (S : St) (n k : Nat) (j : Int) (l tot off : Nat) : iaddrAH S n k j (.ptr l tot off) K () = orH (S.row? l tot) (fun _ => req (0 ≤ j ∧ j < n) (fun _ => letK (.ptr l tot (off + j.toNat * k)) K ()) ()) () := by
  rw [iaddrAH_ptr]; exact orH_congr fun _ => by simp only [req, and_assoc]
theorem ld_ptrk (S : St) (k l tot off : Nat) : loadH S (some k) (.ptr l tot off) K () = orH (S.row? l tot) (fun r => req (off + k ≤ r.2.2.length) (fun _ => letK (.agg ((r.2.2.drop off).take k)) K ()) ()) () := loadH_ptrk S k l tot off
theorem ld_ropk (S : St) (k : Nat) (cs : List AV) : loadH S (some k) (.rop cs) K () = req (k ≤ cs.length) (fun _ => letK (.agg (cs.take k)) K ()) () := loadH_ropk S k cs
end
theorem st_ptr {K : St → Prop} (S : St) (k l tot off : Nat) (x : AV) : storeH S k (.ptr l tot off) x K () = orH (S.row? l tot) (fun r => orH (cellsOf x) (fun xs =>
        req (xs.length = k ∧ off + k ≤ r.2.2.length) (fun _ => letK (S.set l (.row r.1 r.2.1 (r.2.2.take off ++ xs ++ r.2.2.drop (off + k)))) K ()) ()) ()) () := by
  rw [storeH_ptr]; exact orH_congr fun _ => orH_congr fun _ => by simp only [req, and_assoc]
/-- An append to a whole own row. -/
theorem ap_ref {K : AV → St → Prop} (S : St) (e k bytes l n : Nat) (src : Nat × List AV) (hs : src.2.length = src.1 * k) : appH S e k bytes (.ref l (n * k) 0 n) src K () = orH (S.row? l (n * k)) (fun r =>
        req (r.1 = e ∧ r.2.1 = k) (fun _ => req (src.2.all AV.one = true) (fun _ => req (0 < k ∧ 0 < bytes ∧ (n + src.1) * bytes ≤ 140737488355328 ∧ (n + src.1) * k ≤ 281474976710656) (fun _ =>
        letK (S.set l (.row e k (r.2.2 ++ src.2))) (fun S' => letK (.ref l ((n + src.1) * k) 0 (n + src.1)) (fun r => K r S') ()) ()) ()) ()) ()) () := by
  rw [appH_ref]
  simp only [req, orH, orK_iff, letK]
  apply propext
  have hz : ∀ r : TypeId × Nat × List AV, S.row? l (n * k) = some r → 0 < k → ((n + src.1) * k ≤ n * k ↔ src.1 = 0) := fun r hr hk => by
    rw [Nat.add_mul]
    constructor
    · intro h
      rcases Nat.eq_zero_or_pos src.1 with h0 | h0
      · exact h0
      · have := Nat.mul_pos h0 hk; omega
    · intro h; rw [h]; omega
  constructor
  · rintro ⟨r, hr, a1, a2, a3, a4, a5, a6, a7, a8, a9, h1⟩
    refine ⟨r, hr, ⟨a2, a3⟩, a6, ⟨a4, a5, a8, a9⟩, ?_⟩
    have hl := (row?_some hr).2
    split at h1
    · rename_i hle
      have h0 := (hz r hr a4).1 hle
      have hnil : src.2 = [] := List.eq_nil_of_length_eq_zero (by rw [hs, h0]; omega)
      rw [h0, hnil] at h1 ⊢
      simp only [Nat.add_zero, List.append_nil] at h1 ⊢
      rw [List.take_of_length_le (by omega), List.drop_eq_nil_of_le (by omega), List.append_nil] at h1
      exact h1
    · rw [List.take_of_length_le (by omega)] at h1
      exact h1
  · rintro ⟨r, hr, ⟨a2, a3⟩, a6, ⟨a4, a5, a8, a9⟩, h1⟩
    refine ⟨r, hr, by trivial, a2, a3, a4, a5, a6, by first | trivial | exact Nat.le_refl _, a8, a9, ?_⟩
    have hl := (row?_some hr).2
    split
    · rename_i hle
      have h0 := (hz r hr a4).1 hle
      have hnil : src.2 = [] := List.eq_nil_of_length_eq_zero (by rw [hs, h0]; omega)
      rw [h0, hnil] at h1 ⊢
      simp only [Nat.add_zero, List.append_nil] at h1 ⊢
      rw [List.take_of_length_le (by omega), List.drop_eq_nil_of_le (by omega), List.append_nil]
      exact h1
    · rw [List.take_of_length_le (by omega)]
      exact h1
section
variable {P : Program} {n : Nat} {Q : Exit → Fr → St → Prop} {fr : Fr} {S : St}
def condB (P : Program) (n : Nat) (a b : SC) (Q : Exit → Fr → St → Prop) (fr : Fr) (S : St) (t : Bool) : Prop := if t = true then cwp P n a Q fr S else cwp P n b Q fr S
theorem condB_t (a b : SC) : condB P n a b Q fr S true = cwp P n a Q fr S := _root_.id rfl
theorem condB_f (a b : SC) : condB P n a b Q fr S false = cwp P n b Q fr S := _root_.id rfl
theorem x_cond (c : SA) (a b : SC) : cwp P n (.cond c a b) Q fr S = boolH (evS fr c) (fun t => brH t (condB P n a b Q fr S) ()) () := c_cond c a b
end

def maxH (x y : Value) (K : Value → Prop) (b : Dep K) : Prop := maxV x y K
theorem b_max (k k' : IntKind) (a b : Int) (K : Value → Prop) : maxH (.int k a) (.int k' b) K () = letK (.int k (max a b)) K () := by
  simp only [maxH, maxV, letK]
  congr 2
  split <;> omega
section
variable {P : Program} {fr : Fr} {S : St} {K : AV → St → Prop}
theorem x_max (x y : SA) : swp P (.max x y) fr S K = scH (evS fr x) (fun u => scH (evS fr y) (fun v => maxH u v (fun r => letK (.sc r) (fun r => K r S) ()) ()) ()) () := s_max x y
end
section
variable {P : Program} {fr : Fr} {S S0 : St} {B : Nat} {fl : Bool} {d : Option Nat} {op : SOp} {os : List (Bool × Option Nat × SOper)} {K : Fr → St → Prop}
theorem hq_none : hops P S0 B ((fl, none, ⟨d, op, none⟩) :: os) K fr S = req (op.fit fr) (fun _ => nwp P S0 fl op fr S fun r S' => hops P S0 B os K (fr.put d r) S') () := hg_none
theorem hq_mksl {q e k bytes : Nat} {zs : List Value} {len cap : SA} : hops P S0 B ((fl, some q, ⟨d, .mksl e k bytes zs len cap, none⟩) :: os) K fr S = intH (evS fr len) (fun _ (n : Int) => intH (evS fr cap) (fun _ (c : Int) =>
      req (0 < n.toNat * k ∧ n ≤ c ∧ c * bytes ≤ 281474976710656 ∧ c ≤ 281474976710656 ∧ n.toNat * k ≤ 281474976710656) (fun _ => S.row? (B + q) 0 = some (e, k, []) ∧
        letK (S.set (B + q) (.row e k (zcells zs (n.toNat * k)))) (fun S' => letK (.ref (B + q) (n.toNat * k) 0 n.toNat) (fun r => hops P S0 B os K (fr.put d r) S') ()) ()) ()) ()) () := by
  simp only [hops, intH, letK, intOfAV, req]; (repeat' split) <;> simp_all [orK, and_assoc]
theorem hq_lit {q e k len : Nat} {zs : List Value} {ps : List (Nat × Nat × SA)} : hops P S0 B ((fl, some q, ⟨d, .buildSl e k len zs ps, none⟩) :: os) K fr S = orH (fillA (zcells zs (len * k)) (ps.map fun p => (p.1, p.2.1, evS fr p.2.2))) (fun cs =>
      cs.length = len * k ∧ plainB cs = true ∧ S.row? (B + q) 0 = some (e, k, []) ∧
        letK (S.set (B + q) (.row e k cs)) (fun S' => letK (.ref (B + q) (len * k) 0 len) (fun r => hops P S0 B os K (fr.put d r) S') ()) ()) () := by
  simp only [hops, letK, orH, true_and]
end
end Go.Proofs.Ytfihpbeihlpfcaa.Ev
