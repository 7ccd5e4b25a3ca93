/- Tables with changes as keys. -/
import Derived.Test.YtapgimibdamjoaaZFnNm
import Derived.Test.YtapgimibdamjoaaZEvZ
set_option linter.unusedVariables false
set_option linter.unusedSimpArgs false
namespace Go.Proofs.Ytapgimibdamjoaa.Ev
open Go Go.Proofs Go.RowKit

abbrev Fnd := Str × Int × Str
instance keyCh : Key Change (.flds [.str, .str, .int .i64, .str]) := ⟨fun c => .agg [Value.string c.1, Value.string c.2.1, Value.int .i64 c.2.2.1, Value.string c.2.2.2].toArray, fun x => by simp [KeyKd.is, is1s, K1.is], fun x y => by
  obtain ⟨x1, x2, x3, x4⟩ := x
  obtain ⟨y1, y2, y3, y4⟩ := y
  simp only [keyEq, keyEqs, keyEq1, ba_beq, Bool.and_true]
  rw [Bool.eq_iff_iff]
  simp⟩
instance keyFnd : Key Fnd (.flds [.str, .int .i64, .str]) := ⟨fun c => .agg [Value.string c.1, Value.int .i64 c.2.1, Value.string c.2.2].toArray, fun x => by simp [KeyKd.is, is1s, K1.is], fun x y => by
  obtain ⟨x1, x2, x3⟩ := x
  obtain ⟨y1, y2, y3⟩ := y
  simp only [keyEq, keyEqs, keyEq1, ba_beq, Bool.and_true]
  rw [Bool.eq_iff_iff]
  simp⟩
section
variable {α : Type} {k : Nat} [Enc α k]
theorem findE_ch (m : List (Change × α)) (a b d : Str) (i : Int) : findE (mapC m) (.agg [Value.string a, Value.string b, Value.int .i64 i, Value.string d].toArray) = (getM m (a, b, i, d)).map valA := findE_map m (a, b, i, d)
theorem findE_fn (m : List (Fnd × α)) (a d : Str) (i : Int) : findE (mapC m) (.agg [Value.string a, Value.int .i64 i, Value.string d].toArray) = (getM m (a, i, d)).map valA := findE_map m (a, i, d)
end
theorem upd_chi (m : List (Change × Int)) (a b d : Str) (i y : Int) : updE (mapC m) (.agg [Value.string a, Value.string b, Value.int .i64 i, Value.string d].toArray) (intA y) = mapC (putM m (a, b, i, d) y) := updE_map m (a, b, i, d) y
theorem upd_chb (m : List (Change × Bool)) (a b d : Str) (i : Int) (y : Bool) : updE (mapC m) (.agg [Value.string a, Value.string b, Value.int .i64 i, Value.string d].toArray) (boolA y) = mapC (putM m (a, b, i, d) y) := updE_map m (a, b, i, d) y
theorem upd_chb0 (a b d : Str) (i : Int) (y : Bool) : updE [] (.agg [Value.string a, Value.string b, Value.int .i64 i, Value.string d].toArray) (boolA y) = mapC [(((a, b, i, d) : Change), y)] := rfl
theorem upd_fni (m : List (Fnd × Int)) (a d : Str) (i y : Int) : updE (mapC m) (.agg [Value.string a, Value.int .i64 i, Value.string d].toArray) (intA y) = mapC (putM m (a, i, d) y) := updE_map m (a, i, d) y
theorem is_ch (a b d : Str) (i : Int) : KeyKd.is (.flds [.str, .str, .int .i64, .str]) (.agg [Value.string a, Value.string b, Value.int .i64 i, Value.string d].toArray) = true := keyCh.is (a, b, i, d)
theorem is_fn (a d : Str) (i : Int) : KeyKd.is (.flds [.str, .int .i64, .str]) (.agg [Value.string a, Value.int .i64 i, Value.string d].toArray) = true := keyFnd.is (a, i, d)
theorem eq_ch (a b d : Str) (i : Int) : keyEq (.agg [Value.string a, Value.string b, Value.int .i64 i, Value.string d].toArray) (.agg [Value.string a, Value.string b, Value.int .i64 i, Value.string d].toArray) = true := by
  have := keyCh.eq (a, b, i, d) (a, b, i, d)
  rw [decide_eq_true rfl] at this; exact this
theorem eq_fn (a d : Str) (i : Int) : keyEq (.agg [Value.string a, Value.int .i64 i, Value.string d].toArray) (.agg [Value.string a, Value.int .i64 i, Value.string d].toArray) = true := by
  have := keyFnd.eq (a, i, d) (a, i, d)
  rw [decide_eq_true rfl] at this; exact this
theorem kv_ch (c : Change) : (Key.val c : Value) = .agg [Value.string c.1, Value.string c.2.1, Value.int .i64 c.2.2.1, Value.string c.2.2.2].toArray := rfl
theorem kv_fn (c : Fnd) : (Key.val c : Value) = .agg [Value.string c.1, Value.int .i64 c.2.1, Value.string c.2.2].toArray := rfl
theorem av_ch (c : Change) : avOf (Key.val c) = chA c := rfl
theorem av_fn (c : Fnd) : avOf (Key.val c) = .agg [strA c.1, intA c.2.1, strA c.2.2] := rfl
theorem z3_fn : zcells [Value.string ⟨#[]⟩, Value.int .i64 0, Value.string ⟨#[]⟩] 3 = [strA ⟨#[]⟩, intA 0, strA ⟨#[]⟩] := rfl
attribute [go_sem]
  findE_ch findE_fn upd_chi upd_chb upd_chb0 upd_fni is_ch is_fn eq_ch eq_fn z3_fn z4_ch z3_sl
attribute [go_sem ↓]
  av_ch av_fn kv_ch kv_fn
/-! ### what the reference counts -/
def gAt (x : Lesson) (k : Nat) (kind : Nat) : List Change := (argsL kind x.1 x.2.1 k).map fun a => (nth x.2.1 k, nth x.2.2 k, (kind : Int), a)
def bAt (x : Lesson) (k : Nat) (kind : Nat) : List Fnd := (argsL kind x.1 x.2.1 k).map fun a => (nth x.2.1 k, (kind : Int), a)
def gP (x : Lesson) (k n : Nat) : List Change := if nth x.2.1 k = nth x.2.2 k then [] else (List.range n).flatMap (gAt x k)
def bP (x : Lesson) (k n : Nat) : List Fnd := if nth x.2.1 k = nth x.2.2 k then (List.range n).flatMap (bAt x k) else []
def gX (x : Lesson) (k : Nat) : List Change := (List.range k).flatMap fun j => gP x j 10
def bX (x : Lesson) (k : Nat) : List Fnd := (List.range k).flatMap fun j => bP x j 10
def gLs (ls : List Lesson) (i : Nat) : List Change := (List.range i).flatMap fun j => gX (nth ls j) (nth ls j).2.1.length
def bLs (ls : List Lesson) (i : Nat) : List Fnd := (List.range i).flatMap fun j => bX (nth ls j) (nth ls j).2.1.length
theorem range_flat {α : Type} (f : Nat → List α) (n : Nat) : (List.range (n + 1)).flatMap f = (List.range n).flatMap f ++ f n := by rw [List.range_succ]; simp
theorem flat_len {α : Type} {f : Nat → List α} {b : Nat} : ∀ {n : Nat}, (∀ j, j < n → (f j).length ≤ b) → ((List.range n).flatMap f).length ≤ n * b
  | 0, _ => by simp
  | n + 1, h => by
    have h1 := flat_len (f := f) (n := n) fun j hj => h j (by omega)
    have h2 := h n (by omega)
    rw [range_flat, List.length_append, Nat.add_mul]; omega
theorem argF_len (l : List Str) : ∀ (xs : List Int) (out : List Str), (argF l xs out).length ≤ out.length + xs.length
  | [], out => by simp [argF]
  | x :: xs, out => by
    have h := argF_len l xs (argT l x out)
    have h2 : (argT l x out).length ≤ out.length + 1 := by rw [argT]; split <;> simp
    rw [argF, List.length_cons]; omega
theorem args_len (k : Int) (w t : List Str) (i : Int) : (argsL k w t i).length ≤ 2 := by
  rw [argsL]
  split
  · simp
  · have h1 := argF_len (if 5 < k then w else t) ((farD k).map (i + ·)) []
    have h2 := far_len k
    simp only [List.length_map, List.length_nil] at h1; omega
theorem gP_len (x : Lesson) (k n : Nat) : (gP x k n).length ≤ n * 2 := by
  rw [gP]; split
  · simp
  · exact flat_len fun j _ => by rw [gAt, List.length_map]; exact args_len _ _ _ _
theorem bP_len (x : Lesson) (k n : Nat) : (bP x k n).length ≤ n * 2 := by
  rw [bP]; split
  · exact flat_len fun j _ => by rw [bAt, List.length_map]; exact args_len _ _ _ _
  · simp
theorem gX_len (x : Lesson) (k : Nat) : (gX x k).length ≤ k * 20 := flat_len fun j _ => gP_len x j 10
theorem bX_len (x : Lesson) (k : Nat) : (bX x k).length ≤ k * 20 := flat_len fun j _ => bP_len x j 10
theorem gL_len {ls : List Lesson} (h : OkLs ls) {i : Nat} (hi : i ≤ ls.length) : (gLs ls i).length ≤ i * 4000 := flat_len fun j hj => by
  have h1 := gX_len (nth ls j) (nth ls j).2.1.length
  have h2 := h.2 _ (nth_mem (l := ls) (i := j) (by omega))
  omega
theorem bL_len {ls : List Lesson} (h : OkLs ls) {i : Nat} (hi : i ≤ ls.length) : (bLs ls i).length ≤ i * 4000 := flat_len fun j hj => by
  have h1 := bX_len (nth ls j) (nth ls j).2.1.length
  have h2 := h.2 _ (nth_mem (l := ls) (i := j) (by omega))
  omega
theorem incs_le {κ : Type} [DecidableEq κ] (ks : List κ) (c : κ) : 0 ≤ (getM (incs [] ks) c).getD 0 ∧ (getM (incs [] ks) c).getD 0 ≤ ks.length := by
  rw [getM_incs]
  split
  · simp [getM]
  · have := cntK_le ks c
    simp [getM]; omega
theorem nth_gAt {x : Lesson} {k kind j : Nat} (h : j < (argsL kind x.1 x.2.1 k).length) : (gAt x k kind).take (j + 1) = (gAt x k kind).take j ++ [(nth x.2.1 k, nth x.2.2 k, (kind : Int), nth (argsL kind x.1 x.2.1 k) j)] := by
  rw [List.take_add_one, gAt, List.getElem?_map, nth_get? h]; rfl
theorem nth_bAt {x : Lesson} {k kind j : Nat} (h : j < (argsL kind x.1 x.2.1 k).length) : (bAt x k kind).take (j + 1) = (bAt x k kind).take j ++ [(nth x.2.1 k, (kind : Int), nth (argsL kind x.1 x.2.1 k) j)] := by
  rw [List.take_add_one, bAt, List.getElem?_map, nth_get? h]; rfl
end Go.Proofs.Ytapgimibdamjoaa.Ev
