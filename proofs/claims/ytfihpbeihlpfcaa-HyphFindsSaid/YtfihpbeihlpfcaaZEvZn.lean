/- A pointer that must not be nil. -/
import Derived.Test.YtfihpbeihlpfcaaZEvZ
set_option linter.unusedVariables false
set_option linter.unusedSimpArgs false
namespace Go.Proofs.Ytfihpbeihlpfcaa.Ev
open Go Go.RowKit

def nilckH (S : St) (a : AV) (K : AV → Prop) (b : Dep K) : Prop := match a with
  | .ptr l tot off => orH (S.row? l tot) (fun _ => K (.ptr l tot off)) ()
  | .rop cs => K (.rop cs)
  | .clo f cs => K (.clo f cs)
  | _ => False
section
variable {P : Program} {fr : Fr} {S : St}
theorem x_nilck {K : AV → St → Prop} (x : SA) : swp P (.nilck x) fr S K = nilckH S (evS fr x) (fun r => K r S) () := by
  simp only [swp, nilckH, orH]
  generalize evS fr x = a
  cases a <;> rfl
theorem y_nilck {K : AV → Prop} (x : SA) : dwp P (.nilck x) fr S K = nilckH S (evS fr x) K () := by
  simp only [dwp, swp, nilckH, orH]
  generalize evS fr x = a
  cases a <;> rfl
theorem nk_ptr {K : AV → Prop} (l tot off : Nat) : nilckH S (.ptr l tot off) K () = orH (S.row? l tot) (fun _ => K (.ptr l tot off)) () := rfl
theorem nk_rop {K : AV → Prop} (cs : List AV) : nilckH S (.rop cs) K () = K (.rop cs) := rfl
theorem nk_clo {K : AV → Prop} (f : FuncId) (cs : List AV) : nilckH S (.clo f cs) K () = K (.clo f cs) := rfl
end
theorem cl_rom (ks : List Value) (vs : List AV) : cellsOf (.rom ks vs) = some [.rom ks vs] := rfl
theorem o_rom (ks : List Value) (vs : List AV) : AV.one (.rom ks vs) = true := rfl
theorem cl_rop (cs : List AV) : cellsOf (.rop cs) = some [.rop cs] := rfl
theorem o_rop (cs : List AV) : AV.one (.rop cs) = true := rfl
/-- A name more, of a row with nothing in it. -/
theorem View.virt {fr : Fr} {S : St} (e k : Nat) : View fr S fr (S.add (.row e k [])) := fun n G a h1 h2 h3 => by
  subst h1
  exact ⟨G.virt e k, rfl, rfl, virt_rel h2 e k, virt_step G e k, h3.1, h3.2.1, fun j hj => (h3.2.2 j hj).step (virt_step G e k)⟩
attribute [go_sem ↓]
  x_nilck y_nilck
attribute [go_sem]
  nk_ptr nk_rop nk_clo cl_rom o_rom cl_rop o_rop
end Go.Proofs.Ytfihpbeihlpfcaa.Ev
