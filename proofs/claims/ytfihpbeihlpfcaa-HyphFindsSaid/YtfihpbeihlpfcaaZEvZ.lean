/- More ways to tell a store anew: an own map that stands in a cell. -/
import Derived.Test.YtfihpbeihlpfcaaZEvX
set_option linter.unusedVariables false
set_option linter.unusedSimpArgs false
namespace Go.Proofs.Ytfihpbeihlpfcaa.Ev
open Go Go.RowKit

/-! ### what is cut off, and made empty -/
section
variable {P : Program} {fr : Fr} {S : St} {K : AV → St → Prop}
def lngH (S : St) (x : AV) (K : Nat → Prop) (b : Dep K) : Prop := match x with
  | .ref q tot off n => orH (S.row? q tot) (fun _ => K n) ()
  | .ro n cs => K n
  | _ => False
theorem lngH_ref (S : St) (q tot off n : Nat) (K : Nat → Prop) : lngH S (.ref q tot off n) K () = orH (S.row? q tot) (fun _ => K n) () := rfl
theorem lngH_ro (S : St) (n : Nat) (cs : List AV) (K : Nat → Prop) : lngH S (.ro n cs) K () = K n := rfl
def sl3H (S : St) (k : Nat) (l h m : Int) (x : AV) (K : AV → St → Prop) (b : Dep2 K) : Prop := match x with
  | .ref q tot off n => orH (S.row? q tot) (fun _ => req (0 ≤ l ∧ l ≤ h ∧ h ≤ m ∧ m ≤ n) (fun _ => letK AV.junk (fun r => K r S) ()) ()) ()
  | .ro n cs => req (0 ≤ l ∧ l ≤ h ∧ h ≤ m ∧ m ≤ n) (fun _ => letK (AV.ro (h.toNat - l.toNat) ((cs.drop (l.toNat * k)).take ((h.toNat - l.toNat) * k))) (fun r => K r S) ()) ()
  | _ => False
theorem sl3_ref (S : St) (k : Nat) (l h m : Int) (q tot off n : Nat) (K : AV → St → Prop) : sl3H S k l h m (.ref q tot off n) K () = orH (S.row? q tot) (fun _ => req (0 ≤ l ∧ l ≤ h ∧ h ≤ m ∧ m ≤ n) (fun _ => letK AV.junk (fun r => K r S) ()) ()) () := rfl
theorem sl3_ro (S : St) (k : Nat) (l h m : Int) (n : Nat) (cs : List AV) (K : AV → St → Prop) : sl3H S k l h m (.ro n cs) K () = req (0 ≤ l ∧ l ≤ h ∧ h ≤ m ∧ m ≤ n) (fun _ => letK (AV.ro (h.toNat - l.toNat) ((cs.drop (l.toNat * k)).take ((h.toNat - l.toNat) * k))) (fun r => K r S) ()) () := rfl
def clrH (S : St) (k : Nat) (zs : List Value) (x : AV) (K : AV → St → Prop) (b : Dep2 K) : Prop := match x with
  | .ref l tot off n => orH (S.row? l tot) (fun r => letK (zcells zs (n * k)) (fun zc => req (zc.all AV.one = true ∧ off + n * k ≤ tot) (fun _ => letK (S.set l (.row r.1 r.2.1 (r.2.2.take off ++ zc ++ r.2.2.drop (off + n * k)))) (fun S' => letK (.tup []) (fun r => K r S') ()) ()) ()) ()) ()
  | .sc (.slice none 0 0) => letK (.tup []) (fun r => K r S) ()
  | _ => False
theorem clr_ref (S : St) (k : Nat) (zs : List Value) (l tot off n : Nat) : clrH S k zs (.ref l tot off n) K () = orH (S.row? l tot) (fun r => letK (zcells zs (n * k)) (fun zc => req (zc.all AV.one = true ∧ off + n * k ≤ tot) (fun _ => letK (S.set l (.row r.1 r.2.1 (r.2.2.take off ++ zc ++ r.2.2.drop (off + n * k)))) (fun S' => letK (.tup []) (fun r => K r S') ()) ()) ()) ()) () := rfl
theorem clr_nil (S : St) (k : Nat) (zs : List Value) : clrH S k zs (.sc (.slice none 0 0)) K () = letK (.tup []) (fun r => K r S) () := rfl
end
/-! ### results that lead nowhere, structs too -/
theorem arr_l {α : Type} (l : List α) : l.toArray.toList = l := rfl
theorem r_zero (fr : Fr) : resAV fr [] = .tup [] := rfl
theorem rvsOk_nil (fr : Fr) : rvsOk fr [] = True := rfl
theorem cl_mp (l : Nat) : cellsOf (.mp l) = some [.mp l] := rfl
theorem o_mp (l : Nat) : AV.one (.mp l) = true := rfl
theorem cl_ptr (l t o : Nat) : cellsOf (.ptr l t o) = some [.ptr l t o] := rfl
theorem o_ptr (l t o : Nat) : AV.one (.ptr l t o) = true := rfl
attribute [go_sem ↓]
  arr_l
attribute [go_sem]
  sl3_ref sl3_ro lngH_ref lngH_ro clr_ref clr_nil r_zero rvsOk_nil cl_mp o_mp cl_ptr o_ptr
end Go.Proofs.Ytfihpbeihlpfcaa.Ev
