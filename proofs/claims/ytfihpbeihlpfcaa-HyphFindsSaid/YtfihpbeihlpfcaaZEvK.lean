/- Small words for going through code. -/
import Derived.Test.YtfihpbeihlpfcaaZEvP
set_option linter.unusedVariables false
set_option linter.unusedSimpArgs false
namespace Go.Proofs.Ytfihpbeihlpfcaa.Ev
open Go Go.RowKit

theorem put_eq (fr : Fr) (d : Nat) (x : AV) (i : Nat) : fr.put (some d) x i = if d = i then x else fr i := by simp [Fr.put]
theorem put_none (fr : Fr) (x : AV) : fr.put none x = fr := by funext i; simp [Fr.put]
theorem fr0_cons_zero (x : AV) (xs : List AV) : fr0 (x :: xs) 0 = x := id rfl
theorem fr0_cons_succ (x : AV) (xs : List AV) (i : Nat) : fr0 (x :: xs) (i + 1) = fr0 xs i := id rfl
theorem ACall.mono {P : Program} {f : FuncId} {args : List AV} {S : St} {Q Q' : AV → St → Prop} (h : ACall P f args S Q) (hq : ∀ r S, Q r S → Q' r S) : ACall P f args S Q' :=
  ⟨h.1, fun G vs a b c => (h.2 G vs a b c).mono fun e w' ⟨G', r, v, g1, g2, g3, g4, g5, g6⟩ => ⟨G', r, v, g1, g2, g3, g4, g5, hq _ _ g6⟩⟩

theorem wrap_id {x : Int} (h1 : -9223372036854775808 ≤ x) (h2 : x ≤ 9223372036854775807) : IntKind.i64.wrap x = x := by
  simp only [IntKind.wrap, IntKind.bits, IntKind.signed]
  simp
  omega

theorem orK_iff {α : Type} (o : Option α) (K : α → Prop) : orK o K ↔ ∃ a, o = some a ∧ K a := by cases o <;> simp [orK]
end Go.Proofs.Ytfihpbeihlpfcaa.Ev
