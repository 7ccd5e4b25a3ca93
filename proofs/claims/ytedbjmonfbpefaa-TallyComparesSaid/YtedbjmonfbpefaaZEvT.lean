/- What comes in: arguments read as typed values. -/
import Derived.Test.YtedbjmonfbpefaaZEvS
import Derived.ChangeArms
import Derived.ChangeOld
import Derived.ChangeSlices
import Derived.ChangeSame
import Derived.DataReads
import Derived.SizedLaws
import Derived.Carry
import Derived.WalkKit
import Derived.ProofKit
import Derived.OpenShut
import Derived.ShutString
set_option linter.unusedVariables false
set_option linter.unusedSimpArgs false
namespace Go.Proofs.Ytedbjmonfbpefaa.Ev
open Go Go.RowKit

/-- Type t reads as α, and what is read is small. -/
structure Reads (P : Program) (t : TypeId) (α : Type) {k : Nat} [Enc α k] (small : α → Prop) : Prop where
  cells : P.cellsOf t = k
  read : ∀ {H : Type} (enc : TypeId × Value → H) (G : Ctx) (fuel : Nat) (cs : List Value) (x : DataW H × List MemPlace), (∀ b, b < G.w.heap.size → G.old b) →
    DataW.trod enc P G.w 0 (fun _ => true) true fuel t cs = some x → (∀ n ∈ x.1.weights P t, n ≤ reachBytes) → ∃ a : α, Rvs G (Enc.cells a) cs ∧ small a

section
variable {P : Program} {t : TypeId}
theorem reads_int (ht : P.underlying t = some (.int .i64)) (hk : P.cellsOf t = 1) : Reads P t Int (fun s => -9223372036854775808 ≤ s ∧ s ≤ 9223372036854775807) := ⟨hk, fun enc G fuel cs x ho h hw => by
  obtain ⟨s, rfl, rfl, hs⟩ := DataW.trod_int ht h
  refine ⟨s, rvs_sc [_], ?_⟩
  simp only [Lit.wf, Bool.and_eq_true, decide_eq_true_eq] at hs
  exact ⟨hs.1, hs.2⟩⟩
end

/-! ### small arrays -/
/-! ### structs -/
theorem rvs_app {G : Ctx} : ∀ {xs ys : List AV} {us vs : List Value}, Rvs G xs us → Rvs G ys vs → Rvs G (xs ++ ys) (us ++ vs)
  | [], ys, us, vs, h, h2 => by simp only [Rvs] at h; subst h; exact h2
  | x :: xs, ys, us, vs, h, h2 => by
    simp only [Rvs] at h
    obtain ⟨u, us', rfl, h3, h4⟩ := h
    simp only [List.cons_append, Rvs]
    exact ⟨u, _, rfl, h3, rvs_app h4 h2⟩
/-- Fields that lie one behind another read as α. -/
structure ReadsF (P : Program) (fs : List Field) (off : Nat) (α : Type) {k : Nat} [Enc α k] (small : α → Prop) : Prop where
  read : ∀ {H : Type} (enc : TypeId × Value → H) (G : Ctx) (m : Nat) (cs : List Value) (xs : List (DataW H × List MemPlace)), (∀ b, b < G.w.heap.size → G.old b) → xs.length = fs.length → off + k ≤ cs.length →
    (∀ (i : Nat) (f : Field), fs[i]? = some f → DataW.trod enc P G.w 0 (fun _ => true) true m f.type ((cs.drop f.offset).take (P.cellsOf f.type)) = xs[i]?) →
    (∀ n ∈ DataW.weightsEach P (fs.map (·.type)) (xs.map (·.1)), n ≤ reachBytes) → ∃ a : α, Rvs G (Enc.cells a) ((cs.drop off).take k) ∧ small a
theorem ReadsF.one {P : Program} {f : Field} {off : Nat} {α : Type} {k : Nat} [Enc α k] {small : α → Prop} (hf : f.offset = off) (R : Reads P f.type α small) : ReadsF P [f] off α small := ⟨fun {H} enc G m cs xs ho hl hk hr hw => by
  have h1 := hr 0 f rfl
  match xs, hl with
  | [x], _ =>
    obtain ⟨a, h2, h3⟩ := R.read enc G m _ x ho h1 (fun n hn => hw n (by simp [DataW.weightsEach, hn]))
    rw [hf, R.cells] at h2
    exact ⟨a, h2, h3⟩⟩
theorem ReadsF.cons {P : Program} {f : Field} {fs : List Field} {off : Nat} {α β : Type} {k1 k2 : Nat} [Enc α k1] [Enc β k2] {s1 : α → Prop} {s2 : β → Prop} (hf : f.offset = off) (R : Reads P f.type α s1) (F : ReadsF P fs (off + k1) β s2) :
    ReadsF P (f :: fs) off (α × β) (fun x => s1 x.1 ∧ s2 x.2) := ⟨fun {H} enc G m cs xs ho hl hk hr hw => by
  have h1 := hr 0 f rfl
  match xs, hl with
  | x :: xs, hl =>
    obtain ⟨a, h2, h3⟩ := R.read enc G m _ x ho h1 (fun n hn => hw n (by simp [DataW.weightsEach, hn]))
    obtain ⟨b, h4, h5⟩ := F.read enc G m cs xs ho (by simpa using hl) (by omega) (fun i g hg => hr (i + 1) g hg) (fun n hn => hw n (by simp [DataW.weightsEach]; exact .inr (by simpa using hn)))
    rw [hf, R.cells] at h2
    refine ⟨(a, b), ?_, h3, h5⟩
    have e : (cs.drop off).take (k1 + k2) = (cs.drop off).take k1 ++ (cs.drop (off + k1)).take k2 := by
      rw [List.take_add, List.drop_drop]
    rw [e]
    exact rvs_app h2 h4⟩
theorem ReadsF.struct {P : Program} {t : TypeId} {fs : Array Field} {α : Type} {k : Nat} [Enc α k] {small : α → Prop} (ht : P.underlying t = some (.struct fs)) (hk : P.cellsOf t = k) (F : ReadsF P fs.toList 0 α small) : Reads P t α small := ⟨hk, fun {H} enc G fuel cs x ho h hw => by
  obtain ⟨xs, m, rfl, rfl, hl, hn, hel⟩ := DataW.trod_struct ht h
  rw [hk] at hl
  obtain ⟨a, h1, h2⟩ := F.read enc G m cs xs ho (by simpa using hn) (by omega) (fun i f hf => hel i f (by simpa using hf)) (fun n hn => hw n (by simp only [DataW.weights, ht]; exact hn))
  rw [List.drop_zero, List.take_of_length_le (by omega)] at h1
  exact ⟨a, h1, h2⟩⟩

/-- The world at the begin, nothing told of it. -/
def Ctx.start (w : World) : Ctx := ⟨w, fun _ => none, ⟨fun _ => none, 0⟩⟩
theorem start_rel (w : World) : Rel (Ctx.start w) := ⟨fun _ _ => rfl, fun l o h => (by cases h), fun l l' b h _ => (by obtain ⟨⟨o, h⟩, _⟩ := h; cases h)⟩
theorem start_old (w : World) : ∀ b, b < w.heap.size → (Ctx.start w).old b := fun b hb => ⟨hb, fun ⟨l, ⟨o, h⟩, _⟩ => by cases h⟩
theorem below_of {G G' : Ctx} (h : Step G G') (ho : ∀ b, b < G.w.heap.size → G.old b) : Below G.w.heap.size G.w G'.w := ⟨h.os, h.tape, h.output, h.size, fun b hb => h.keep b (ho b hb)⟩
/-- A law that is true of all that is read: at the begin. -/
theorem law_calls {P : Program} {f : FuncId} {args : List AV} {vs : List Value} {w : World} (h : Fn P f args (boolA true)) (hv : Rvs (Ctx.start w) args vs) :
    Calls P f vs.toArray w fun e w' => e = .returned (.bool true) ∧ Below w.heap.size w w' := by
  refine ((h.2 (Ctx.start w).S).2 (Ctx.start w) vs rfl (start_rel w) hv).mono ?_
  rintro e w' ⟨G', r, v, rfl, rfl, h1, h2, h3, rfl, _⟩
  have := scR h3
  subst this
  exact ⟨rfl, below_of h2 (start_old w)⟩
theorem arg_agg {G : Ctx} {xs : List AV} {cs : Array Value} (hx : Rvs G xs (Value.agg cs).cells.toList) : Rv G (.agg xs) (.agg cs) := by
  simp only [Rv]
  exact ⟨cs.toList, by simp, hx⟩
theorem rvs_cons {G : Ctx} {x : AV} {xs : List AV} {v : Value} {vs : List Value} (h : Rv G x v) (hs : Rvs G xs vs) : Rvs G (x :: xs) (v :: vs) := by
  simp only [Rvs]; exact ⟨v, vs, rfl, h, hs⟩
theorem rvs_nil {G : Ctx} : Rvs G [] [] := by simp only [Rvs]
end Go.Proofs.Ytedbjmonfbpefaa.Ev
