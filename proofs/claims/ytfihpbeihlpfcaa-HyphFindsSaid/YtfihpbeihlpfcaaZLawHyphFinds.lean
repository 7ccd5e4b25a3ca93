/- The law HyphFinds: for every input it returns true, and each argument reads as it did. -/
import Derived.Test.YtfihpbeihlpfcaaRows
import Derived.Test.YtfihpbeihlpfcaaZFnOs
import Derived.Test.YtfihpbeihlpfcaaZEvT
set_option linter.unusedVariables false
namespace Go.Proofs.Ytfihpbeihlpfcaa.hyphFinds
open Go Go.ChangeShapes Go.WideShapes Go.ChangeAt Go.RowKit Go.Proofs.Ytfihpbeihlpfcaa.Ev
theorem own : ownKnob Try.prog.godebug = none := by kernel_rfl
theorem laidOut : laidOutB Try.prog = true := by kernel_rfl
set_option maxRecDepth 100000 in
theorem lifted (os : Os) (started : os.Started) (H : Type) (enc : TypeId × Value → H) :
    ReturnsInHanded {} Try.checked os 3 .any (Rows.hyphFindsSpec.pre6 enc Try.prog Try.f3 Rows.hyphFindsRow.domain false) (Rows.hyphFindsSpec.post enc Try.prog Try.f3 false true false false) := by
  refine returnsInHanded_of_change_sized (C := Try.checked) own started (by kernel_rfl) Try.func3
    (ChangeSpec.witness6 (enc := enc) (C := Try.checked) false ⟨#[], #[.agg #[.slice none 0 0, .slice none 0 0]], []⟩ 8 (by kernel_rfl) (by kernel_rfl) (by kernel_rfl) (by kernel_rfl)) ?_
  intro W base args ds gs before hval0 hW hcnd hsz0 _
  have hsz : (DataW.weightsEach Try.prog (Try.f3.params.toList ++ Rows.hyphFindsSpec.plain.varTypes Try.prog) (ds ++ gs)).all (· ≤ reachBytes) = true := hsz0
  have hval : ∀ (j : Nat) t v, Try.f3.params[j]? = some t → args[j]? = some v → Value.okWide Try.prog W .any base t v := hval0
  have hW' := hW
  obtain ⟨p, q, hA0, hV, rfl, hfz, hnd⟩ := hW
  have hA : DataW.TrodAll enc Try.prog W 0 (fun _ => true) true Try.f3.params.toList args.toList ds p := hA0
  rw [Try.params3] at hA hval hsz
  obtain ⟨v0, vs0, d0, ds0, p0, q0, hargs, rfl, rfl, h0, r0⟩ := trodAll_cons hA
  obtain ⟨rfl, rfl, rfl⟩ := trodAll_nil r0
  obtain rfl : args = #[v0] := by cases args; simp_all
  obtain ⟨rfl, rfl⟩ := trodVars_none hV
  have k0 := h0
  have lt0 : ∀ x ∈ p0, x.block < W.heap.size := by obtain ⟨m, hm⟩ := k0; exact DataW.trod_lt m _ _ _ hm
  have w0 : ∀ n ∈ d0.weights Try.prog 25, n ≤ reachBytes := fun n hn => of_decide_eq_true (List.all_eq_true.1 hsz _ (DataW.weights_mem_each (j := 0) rfl rfl n hn))
  obtain ⟨g0, e0⟩ := h0
  obtain ⟨x0, c0, s0⟩ := ((ReadsF.struct Try.underlying25 (by kernel_rfl) (ReadsF.cons rfl (reads_slice Try.underlying22 (by kernel_rfl) (reads_str Try.underlying9 (by kernel_rfl))) (ReadsF.one rfl (reads_slice Try.underlying23 (by kernel_rfl) (reads_int Try.underlying3 (by kernel_rfl)))))) : Reads Try.prog 25 ((List Str) × (List Int)) _).read enc (Ctx.start W) g0 _ _ (start_old W) e0 w0
  obtain ⟨a0, rfl⟩ : ∃ cs, v0 = .agg cs := by have := (hval 0 25 v0 rfl rfl); simp only [Value.okWide, Try.underlying25] at this; obtain ⟨cs, h, _⟩ := this; exact ⟨cs, h⟩
  have c0 := arg_agg c0
  clear hA0 hval0 hsz0 hsz
  refine (law_calls (HyphFinds_ok x0) (rvs_cons c0 rvs_nil)).mono fun e W' ⟨he, bel⟩ => ?_
  subst he
  exact ⟨_, rfl, _, _, _, [], _, [], hW', trodAll_mk1 (shut_bool Try.underlying4 _), (trodAll_cons_mk (Below.trod laidOut (by kernel_rfl) (of_decide_eq_true (by kernel_rfl)) k0 bel lt0) trodAll_mk0), rfl, bel.frame _, fun h => by cases h⟩
theorem over : Rows.hyphFindsRow.holds Try.pinned (OpenSpec.ofChange Rows.hyphFindsSpec) :=
  OpenClaim.holds_of_wide 3 Try.f3 rfl rfl rfl rfl rfl rfl rfl ⟨rfl, rfl, rfl, rfl, rfl⟩ rfl rfl rfl rfl rfl (by kernel_rfl) Try.func3 (by kernel_rfl)
    (of_decide_eq_true (by kernel_rfl)) (by unfold Func.isWrapper; first | (rw [if_pos (by decide +kernel)]; kernel_rfl) | (rw [if_neg (by decide +kernel)]; exact ⟨rfl, rfl⟩))
    (fun os started H enc _ => lifted os started H enc)
theorem proved : Rows.HyphFindsSaid := over
#print axioms proved
end Go.Proofs.Ytfihpbeihlpfcaa.hyphFinds
namespace Go.Proofs.Ytfihpbeihlpfcaa
/-- The row, under a short name, for the claim. -/
theorem hyphFinds_holds : Rows.HyphFindsSaid := hyphFinds.proved
end Go.Proofs.Ytfihpbeihlpfcaa

