/- The law HyphTurns: for every input it returns true, and each argument reads as it did. -/
import Derived.Test.YtfihpbeihlpfcaaRows
import Derived.Test.YtfihpbeihlpfcaaZFnOq
import Derived.Test.YtfihpbeihlpfcaaZEvT
set_option linter.unusedVariables false
namespace Go.Proofs.Ytfihpbeihlpfcaa.hyphTurns
open Go Go.ChangeShapes Go.WideShapes Go.ChangeAt Go.RowKit Go.Proofs.Ytfihpbeihlpfcaa.Ev
theorem own : ownKnob Try.prog.godebug = none := by kernel_rfl
theorem laidOut : laidOutB Try.prog = true := by kernel_rfl
set_option maxRecDepth 100000 in
theorem lifted (os : Os) (started : os.Started) (H : Type) (enc : TypeId × Value → H) :
    ReturnsInHanded {} Try.checked os 5 .any (Rows.hyphTurnsSpec.pre6 enc Try.prog Try.f5 Rows.hyphTurnsRow.domain false) (Rows.hyphTurnsSpec.post enc Try.prog Try.f5 false true false false) := by
  refine returnsInHanded_of_change_sized (C := Try.checked) own started (by kernel_rfl) Try.func5
    (ChangeSpec.witness6 (enc := enc) (C := Try.checked) false ⟨#[], #[.agg #[.int .i64 0, .int .i64 0, .slice none 0 0, .slice none 0 0, .slice none 0 0], .slice none 0 0, .int .i64 0], []⟩ 8 (by kernel_rfl) (by kernel_rfl) (by kernel_rfl) (by kernel_rfl)) ?_
  intro W base args ds gs before hval0 hW hcnd hsz0 _
  have hsz : (DataW.weightsEach Try.prog (Try.f5.params.toList ++ Rows.hyphTurnsSpec.plain.varTypes Try.prog) (ds ++ gs)).all (· ≤ reachBytes) = true := hsz0
  have hval : ∀ (j : Nat) t v, Try.f5.params[j]? = some t → args[j]? = some v → Value.okWide Try.prog W .any base t v := hval0
  have hW' := hW
  obtain ⟨p, q, hA0, hV, rfl, hfz, hnd⟩ := hW
  have hA : DataW.TrodAll enc Try.prog W 0 (fun _ => true) true Try.f5.params.toList args.toList ds p := hA0
  rw [Try.params5] at hA hval hsz
  obtain ⟨v0, vs0, d0, ds0, p0, q0, hargs, rfl, rfl, h0, r0⟩ := trodAll_cons hA
  obtain ⟨v1, vs1, d1, ds1, p1, q1, rfl, rfl, rfl, h1, r1⟩ := trodAll_cons r0
  obtain ⟨v2, vs2, d2, ds2, p2, q2, rfl, rfl, rfl, h2, r2⟩ := trodAll_cons r1
  obtain ⟨rfl, rfl, rfl⟩ := trodAll_nil r2
  obtain rfl : args = #[v0, v1, v2] := by cases args; simp_all
  obtain ⟨rfl, rfl⟩ := trodVars_none hV
  have k0 := h0
  have lt0 : ∀ x ∈ p0, x.block < W.heap.size := by obtain ⟨m, hm⟩ := k0; exact DataW.trod_lt m _ _ _ hm
  have w0 : ∀ n ∈ d0.weights Try.prog 37, n ≤ reachBytes := fun n hn => of_decide_eq_true (List.all_eq_true.1 hsz _ (DataW.weights_mem_each (j := 0) rfl rfl n hn))
  obtain ⟨g0, e0⟩ := h0
  obtain ⟨x0, c0, s0⟩ := ((ReadsF.struct Try.underlying37 (by kernel_rfl) (ReadsF.cons rfl (reads_int Try.underlying3 (by kernel_rfl)) (ReadsF.cons rfl (reads_int Try.underlying3 (by kernel_rfl)) (ReadsF.cons rfl (reads_slice Try.underlying34 (by kernel_rfl) (ReadsF.struct Try.underlying33 (by kernel_rfl) (ReadsF.cons rfl (reads_slice Try.underlying22 (by kernel_rfl) (reads_str Try.underlying9 (by kernel_rfl))) (ReadsF.one rfl (reads_slice Try.underlying23 (by kernel_rfl) (reads_int Try.underlying3 (by kernel_rfl))))))) (ReadsF.cons rfl (reads_slice Try.underlying27 (by kernel_rfl) (ReadsF.struct Try.underlying25 (by kernel_rfl) (ReadsF.cons rfl (reads_slice Try.underlying22 (by kernel_rfl) (reads_str Try.underlying9 (by kernel_rfl))) (ReadsF.one rfl (reads_slice Try.underlying23 (by kernel_rfl) (reads_int Try.underlying3 (by kernel_rfl))))))) (ReadsF.one rfl (reads_slice Try.underlying35 (by kernel_rfl) (ReadsF.struct Try.underlying66 (by kernel_rfl) (ReadsF.cons rfl (reads_slice Try.underlying22 (by kernel_rfl) (reads_str Try.underlying9 (by kernel_rfl))) (ReadsF.cons rfl (reads_slice Try.underlying22 (by kernel_rfl) (reads_str Try.underlying9 (by kernel_rfl))) (ReadsF.cons rfl (reads_slice Try.underlying22 (by kernel_rfl) (reads_str Try.underlying9 (by kernel_rfl))) (ReadsF.one rfl (reads_int Try.underlying3 (by kernel_rfl)))))))))))))) : Reads Try.prog 37 (Int × Int × (List ((List Str) × (List Int))) × (List ((List Str) × (List Int))) × (List ((List Str) × (List Str) × (List Str) × Int))) _).read enc (Ctx.start W) g0 _ _ (start_old W) e0 w0
  obtain ⟨a0, rfl⟩ : ∃ cs, v0 = .agg cs := by have := (hval 0 37 v0 rfl rfl); simp only [Value.okWide, Try.underlying37] at this; obtain ⟨cs, h, _⟩ := this; exact ⟨cs, h⟩
  have c0 := arg_agg c0
  have k1 := h1
  have lt1 : ∀ x ∈ p1, x.block < W.heap.size := by obtain ⟨m, hm⟩ := k1; exact DataW.trod_lt m _ _ _ hm
  have w1 : ∀ n ∈ d1.weights Try.prog 22, n ≤ reachBytes := fun n hn => of_decide_eq_true (List.all_eq_true.1 hsz _ (DataW.weights_mem_each (j := 1) rfl rfl n hn))
  obtain ⟨g1, e1⟩ := h1
  obtain ⟨x1, c1, s1⟩ := ((reads_slice Try.underlying22 (by kernel_rfl) (reads_str Try.underlying9 (by kernel_rfl))) : Reads Try.prog 22 (List Str) _).read enc (Ctx.start W) g1 _ _ (start_old W) e1 w1
  have c1 := arg_one c1 (by intro cs e; have := okWide_slice Try.underlying22 (hval 1 22 v1 rfl rfl); rw [e] at this; simp at this)
  have k2 := h2
  have lt2 : ∀ x ∈ p2, x.block < W.heap.size := by obtain ⟨m, hm⟩ := k2; exact DataW.trod_lt m _ _ _ hm
  have w2 : ∀ n ∈ d2.weights Try.prog 3, n ≤ reachBytes := fun n hn => of_decide_eq_true (List.all_eq_true.1 hsz _ (DataW.weights_mem_each (j := 2) rfl rfl n hn))
  obtain ⟨g2, e2⟩ := h2
  obtain ⟨x2, c2, s2⟩ := ((reads_int Try.underlying3 (by kernel_rfl)) : Reads Try.prog 3 Int _).read enc (Ctx.start W) g2 _ _ (start_old W) e2 w2
  have c2 := arg_one c2 (by intro cs e; have := okWide_int Try.underlying3 (hval 2 3 v2 rfl rfl); rw [e] at this; simp at this)
  clear hA0 hval0 hsz0 hsz
  refine (law_calls (HyphTurns_ok x0 x1 x2) (rvs_cons c0 (rvs_cons c1 (rvs_cons c2 rvs_nil)))).mono fun e W' ⟨he, bel⟩ => ?_
  subst he
  exact ⟨_, rfl, _, _, _, [], _, [], hW', trodAll_mk1 (shut_bool Try.underlying4 _), (trodAll_cons_mk (Below.trod laidOut (by kernel_rfl) (of_decide_eq_true (by kernel_rfl)) k0 bel lt0) (trodAll_cons_mk (Below.trod laidOut (by kernel_rfl) (of_decide_eq_true (by kernel_rfl)) k1 bel lt1) (trodAll_cons_mk (Below.trod laidOut (by kernel_rfl) (of_decide_eq_true (by kernel_rfl)) k2 bel lt2) trodAll_mk0))), rfl, bel.frame _, fun h => by cases h⟩
theorem over : Rows.hyphTurnsRow.holds Try.pinned (OpenSpec.ofChange Rows.hyphTurnsSpec) :=
  OpenClaim.holds_of_wide 5 Try.f5 rfl rfl rfl rfl rfl rfl rfl ⟨rfl, rfl, rfl, rfl, rfl⟩ rfl rfl rfl rfl rfl (by kernel_rfl) Try.func5 (by kernel_rfl)
    (of_decide_eq_true (by kernel_rfl)) (by unfold Func.isWrapper; first | (rw [if_pos (by decide +kernel)]; kernel_rfl) | (rw [if_neg (by decide +kernel)]; exact ⟨rfl, rfl⟩))
    (fun os started H enc _ => lifted os started H enc)
theorem proved : Rows.HyphTurnsSaid := over
#print axioms proved
end Go.Proofs.Ytfihpbeihlpfcaa.hyphTurns
namespace Go.Proofs.Ytfihpbeihlpfcaa
/-- The row, under a short name, for the claim. -/
theorem hyphTurns_holds : Rows.HyphTurnsSaid := hyphTurns.proved
end Go.Proofs.Ytfihpbeihlpfcaa

