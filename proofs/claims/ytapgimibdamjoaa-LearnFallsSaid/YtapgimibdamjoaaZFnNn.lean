/- Tables with changes as keys. -/
import Derived.Test.YtapgimibdamjoaaZFnNm
import Derived.Test.YtapgimibdamjoaaZEvZ
set_option linter.unusedVariables false
set_option linter.unusedSimpArgs false
namespace Go.Proofs.Ytapgimibdamjoaa.Ev
open Go Go.Proofs Go.RowKit

abbrev Fnd := Str × Int × Str
instance keyCh : Key Change (.flds [.str, .str, .int .i64, .str]) := ⟨fun c => .agg [Value.string c.1, Value.string c.2.1, Value.int .i64 c.2.2.1, Value.string c.2.2.2].toArray, fun x => by simp [KeyKd.is, is1s, K1.is], fun x y => by
  obtain ⟨x1, x2, x3, x4⟩ := x
  obtain ⟨y1, y2, y3, y4⟩ := y
  simp only [keyEq, keyEqs, keyEq1, ba_beq, Bool.and_true]
  rw [Bool.eq_iff_iff]
  simp⟩
instance keyFnd : Key Fnd (.flds [.str, .int .i64, .str]) := ⟨fun c => .agg [Value.string c.1, Value.int .i64 c.2.1, Value.string c.2.2].toArray, fun x => by simp [KeyKd.is, is1s, K1.is], fun x y => by
  obtain ⟨x1, x2, x3⟩ := x
  obtain ⟨y1, y2, y3⟩ := y
  simp only [keyEq, keyEqs, keyEq1, ba_beq, Bool.and_true]
  rw [Bool.eq_iff_iff]
  simp⟩
section
variable {α : Type} {k : Nat} [Enc α k]
theorem findE_ch (m : List (Change × α)) (a b d : Str) (i : Int) : findE (mapC m) (.agg [Value.string a, Value.string b, Value.int .i64 i, Value.string d].toArray) = (getM m (a, b, i, d)).map valA := findE_map m (a, b, i, d)
end
theorem upd_chi (m : List (Change × Int)) (a b d : Str) (i y : Int) : updE (mapC m) (.agg [Value.string a, Value.string b, Value.int .i64 i, Value.string d].toArray) (intA y) = mapC (putM m (a, b, i, d) y) := updE_map m (a, b, i, d) y
theorem upd_chb (m : List (Change × Bool)) (a b d : Str) (i : Int) (y : Bool) : updE (mapC m) (.agg [Value.string a, Value.string b, Value.int .i64 i, Value.string d].toArray) (boolA y) = mapC (putM m (a, b, i, d) y) := updE_map m (a, b, i, d) y
theorem upd_chb0 (a b d : Str) (i : Int) (y : Bool) : updE [] (.agg [Value.string a, Value.string b, Value.int .i64 i, Value.string d].toArray) (boolA y) = mapC [(((a, b, i, d) : Change), y)] := rfl
theorem is_ch (a b d : Str) (i : Int) : KeyKd.is (.flds [.str, .str, .int .i64, .str]) (.agg [Value.string a, Value.string b, Value.int .i64 i, Value.string d].toArray) = true := keyCh.is (a, b, i, d)
theorem eq_ch (a b d : Str) (i : Int) : keyEq (.agg [Value.string a, Value.string b, Value.int .i64 i, Value.string d].toArray) (.agg [Value.string a, Value.string b, Value.int .i64 i, Value.string d].toArray) = true := by
  have := keyCh.eq (a, b, i, d) (a, b, i, d)
  rw [decide_eq_true rfl] at this; exact this
theorem kv_ch (c : Change) : (Key.val c : Value) = .agg [Value.string c.1, Value.string c.2.1, Value.int .i64 c.2.2.1, Value.string c.2.2.2].toArray := rfl
theorem kv_fn (c : Fnd) : (Key.val c : Value) = .agg [Value.string c.1, Value.int .i64 c.2.1, Value.string c.2.2].toArray := rfl
theorem av_ch (c : Change) : avOf (Key.val c) = chA c := rfl
theorem av_fn (c : Fnd) : avOf (Key.val c) = .agg [strA c.1, intA c.2.1, strA c.2.2] := rfl
theorem z3_fn : zcells [Value.string ⟨#[]⟩, Value.int .i64 0, Value.string ⟨#[]⟩] 3 = [strA ⟨#[]⟩, intA 0, strA ⟨#[]⟩] := rfl
attribute [go_sem]
  findE_ch upd_chi upd_chb upd_chb0 is_ch eq_ch z3_fn z4_ch z3_sl
attribute [go_sem ↓]
  av_ch av_fn kv_ch kv_fn
/-! ### what the reference counts -/
def gAt (x : Lesson) (k : Nat) (kind : Nat) : List Change := (argsL kind x.1 x.2.1 k).map fun a => (nth x.2.1 k, nth x.2.2 k, (kind : Int), a)
def gP (x : Lesson) (k n : Nat) : List Change := if nth x.2.1 k = nth x.2.2 k then [] else (List.range n).flatMap (gAt x k)
def gX (x : Lesson) (k : Nat) : List Change := (List.range k).flatMap fun j => gP x j 10
def gLs (ls : List Lesson) (i : Nat) : List Change := (List.range i).flatMap fun j => gX (nth ls j) (nth ls j).2.1.length
theorem range_flat {α : Type} (f : Nat → List α) (n : Nat) : (List.range (n + 1)).flatMap f = (List.range n).flatMap f ++ f n := by rw [List.range_succ]; simp
end Go.Proofs.Ytapgimibdamjoaa.Ev
