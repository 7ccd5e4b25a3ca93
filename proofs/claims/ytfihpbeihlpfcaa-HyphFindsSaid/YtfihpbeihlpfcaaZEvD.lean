/- Each operation does what 'swp' says (first half: what makes no memory). -/
import Derived.Test.YtfihpbeihlpfcaaZEvC
import Derived.Laws.AppendOwn
import Derived.Laws.CopyRow
set_option linter.unusedVariables false
set_option linter.unusedSimpArgs false
namespace Go.Proofs.Ytfihpbeihlpfcaa.Ev
open Go Go.RowKit

def Left (G : Ctx) (K : AV → St → Prop) (v : Value) (w' : World) : Prop := ∃ (G' : Ctx) (r : AV), G'.w = w' ∧ Rel G' ∧ Step G G' ∧ Rv G' r v ∧ K r G'.S
def OpRun (P : Program) (x : Sem Next) (G : Ctx) (K : AV → St → Prop) : Prop :=
  (∃ v w', (x.run P G.w = .ok (.value v) w' ∨ (x.run P G.w = .ok .skip w' ∧ v = undef)) ∧ Left G K v w') ∨
  (∃ f args, x.run P G.w = .ok (.enter f args) G.w ∧ Calls P f args G.w fun e w' => ∃ v, e = .returned v ∧ Left G K v w')

theorem left_same {G : Ctx} (hR : Rel G) {K : AV → St → Prop} {r : AV} {v : Value} (h : Rv G r v) (hK : K r G.S) : Left G K v G.w :=
  ⟨G, r, rfl, hR, Step.refl G, h, hK⟩
theorem opRun_same {P : Program} {x : Sem Next} {G : Ctx} (hR : Rel G) {K : AV → St → Prop} {r : AV} {v : Value} (hx : x.run P G.w = .ok (.value v) G.w) (h : Rv G r v) (hK : K r G.S) : OpRun P x G K :=
  .inl ⟨v, G.w, .inl hx, left_same hR h hK⟩

theorem orK_elim {α : Type} {o : Option α} {K : α → Prop} (h : orK o K) : ∃ a, o = some a ∧ K a := by
  cases o with
  | none => exact h.elim
  | some a => exact ⟨a, rfl, h⟩

theorem row?_some {S : St} {l tot : Nat} {r : TypeId × Nat × List AV} (h : S.row? l tot = some r) : S.m l = some (.row r.1 r.2.1 r.2.2) ∧ r.2.2.length = tot := by
  unfold St.row? at h
  cases hm : S.m l with
  | none => simp [hm] at h
  | some o =>
    cases o with
    | row e k cs =>
      simp only [hm] at h
      split at h
      · rename_i hl
        cases h
        exact ⟨rfl, hl⟩
      · cases h
    | map es => simp [hm] at h
    | iter i => simp [hm] at h

theorem ptr_real {G : Ctx} {l tot off : Nat} {u : Value} (h : PtrFact G l tot off u) {r : TypeId × Nat × List AV} (hr : G.S.row? l tot = some r) : ∃ b, G.μ l = some b ∧ u = .pointer (some ⟨b, off, none⟩) := by
  obtain ⟨h1, h2⟩ := row?_some hr
  exact (h.2.2 _ _ _ h1).2 h2.symm

/-- The block of a row that has one. -/
theorem row_block {G : Ctx} (hR : Rel G) {l b : Nat} {e k : Nat} {cs : List AV} (h : G.S.m l = some (.row e k cs)) (hb : G.μ l = some b) :
    ∃ c, G.w.heap[b]? = some (.cells c e (0, 0)) ∧ cs.length ≤ c.size ∧ Rat G cs b 0 := by
  rcases (hR.ok l _ h).2 with ⟨a1, _⟩ | ⟨b', c, a1, a2, a3, a4⟩
  · rw [hb] at a1; cases a1
  · rw [hb] at a1; cases a1; exact ⟨c, a2, a3, a4⟩

theorem rvs_of_rat {G : Ctx} {cs : List AV} {b off : Nat} (h : Rat G cs b off) : ∀ (i n : Nat), i + n ≤ cs.length →
    ∃ vs : List Value, vs.length = n ∧ Rvs G ((cs.drop i).take n) vs ∧ ∀ j v, vs[j]? = some v → G.w.cell? ⟨b, off + i + j, none⟩ = some v
  | i, 0, hl => ⟨[], rfl, by simp [Rvs], fun j v hv => by simp at hv⟩
  | i, n + 1, hl => by
    obtain ⟨vs, e1, e2, e3⟩ := rvs_of_rat h (i + 1) n (by omega)
    have hi : i < cs.length := by omega
    obtain ⟨v, hv, hr⟩ := rat_iff.1 h i cs[i] (by simp [hi])
    refine ⟨v :: vs, by simp [e1], ?_, ?_⟩
    · rw [List.drop_eq_getElem_cons hi, List.take_succ_cons]
      simp only [Rvs]
      exact ⟨v, vs, rfl, hr, e2⟩
    · intro j u hu
      cases j with
      | zero => simp at hu; subst hu; exact hv
      | succ j =>
        have := e3 j u (by simpa using hu)
        rw [show off + i + (j + 1) = off + (i + 1) + j by omega]
        exact this

theorem run_isAggT {P : Program} {t : TypeId} {g : Bool} (h : isAggT P t = some g) (w : World) : (isAgg t).run P w = .ok g w := by
  unfold isAggT at h
  cases hu : P.underlying t with
  | none => simp [hu] at h
  | some d =>
    simp only [hu] at h
    simp only [isAgg, Sem.run_bind, run_underlying hu, Result.andThen_ok]
    cases d <;> simp_all

theorem run_sizeOf' {P : Program} {t : TypeId} (h : has P t = true) (w : World) : (sizeOf t).run P w = .ok (P.cellsOf t) w := by
  unfold has at h
  obtain ⟨i, hi⟩ := Option.isSome_iff_exists.1 h
  simp [sizeOf, typeInfo, hi, Program.cellsOf]

theorem add_lit' (b o n : Nat) : Addr.add ⟨b, o, none⟩ n = ⟨b, o + n, none⟩ := Addr.add_lit b o n

/-! ### moves, picks -/
section
variable {P : Program} {G : Ctx} {K : AV → St → Prop}

theorem ok_load (hR : Rel G) {t : TypeId} {u : Value} {x : AV} {g : Bool} (hg : isAggT P t = some g) (hh : has P t = true) (hx : Rv G x u)
    (h : (match (generalizing := false) x with
      | .ptr l tot off => orK (G.S.row? l tot) fun r => match (if g then some (P.cellsOf t) else none) with
        | none => orK r.2.2[off]? fun c => K c G.S
        | some k => off + k ≤ r.2.2.length ∧ K (.agg ((r.2.2.drop off).take k)) G.S
      | .rop cs => match (if g then some (P.cellsOf t) else none) with
        | none => orK cs.head? fun c => K c G.S
        | some k => k ≤ cs.length ∧ K (.agg (cs.take k)) G.S
      | _ => False)) : ∃ v, (Instr.loadAt t u).run P G.w = .ok v G.w ∧ ∃ r, Rv G r v ∧ K r G.S := by
  have key : ∀ (cs : List AV) (b off : Nat), Rat G cs b off → (match (if g then some (P.cellsOf t) else none) with
        | none => orK cs.head? fun c => K c G.S
        | some k => k ≤ cs.length ∧ K (.agg (cs.take k)) G.S) → ∃ v, (Instr.loadAt t (.pointer (some ⟨b, off, none⟩))).run P G.w = .ok v G.w ∧ ∃ r, Rv G r v ∧ K r G.S := by
    intro cs b off hat hk
    cases g with
    | false =>
      simp only [Bool.false_eq_true, if_false] at hk
      obtain ⟨c, hc, hK⟩ := orK_elim hk
      obtain ⟨v, hv, hr⟩ := rat_iff.1 hat 0 c (by cases cs <;> simp_all)
      refine ⟨v, ?_, c, hr, hK⟩
      simp only [Instr.loadAt, Instr.sureAddr, loadVar, Sem.run_bind, Sem.run_pure, Result.andThen_ok, run_isAggT hg, Bool.false_eq_true, if_false, run_load]
      simp only [Nat.add_zero] at hv
      simp [hv]
    | true =>
      simp only [if_true] at hk
      obtain ⟨hl, hK⟩ := hk
      obtain ⟨vs, e1, e2, e3⟩ := rvs_of_rat hat 0 (P.cellsOf t) (by omega)
      refine ⟨.agg vs.toArray, ?_, .agg (cs.take (P.cellsOf t)), ?_, hK⟩
      · have hrun := run_loadCells_list (P := P) G.w ⟨b, off, none⟩ vs (fun j v hv => by rw [add_lit']; have := e3 j v hv; simpa using this)
        rw [e1] at hrun
        simp [Instr.loadAt, Instr.sureAddr, loadVar, run_isAggT hg, run_sizeOf' hh, hrun]
      · simp only [Rv]
        exact ⟨vs, rfl, by simpa using e2⟩
  cases x with
  | ptr l tot off =>
    simp only at h
    obtain ⟨r, hr, h⟩ := orK_elim h
    simp only [Rv] at hx
    obtain ⟨b, hb, rfl⟩ := ptr_real hx hr
    obtain ⟨h1, h2⟩ := row?_some hr
    obtain ⟨c, hc, hsz, hat⟩ := row_block hR h1 hb
    refine key (r.2.2.drop off) b off ?_ ?_
    · exact rat_iff.2 fun j x hj => by
        obtain ⟨v, hv, hr⟩ := rat_iff.1 hat (off + j) x (by simpa using hj)
        exact ⟨v, by simpa using hv, hr⟩
    · cases g with
      | false =>
        simp only [Bool.false_eq_true, if_false] at h ⊢
        rwa [List.head?_drop]
      | true =>
        simp only [if_true] at h ⊢
        exact ⟨by simp; omega, h.2⟩
  | rop cs =>
    simp only [Rv] at hx
    obtain ⟨b, off, rfl, _, hat⟩ := hx
    exact key cs b off hat h
  | _ => exact h.elim

theorem one_of {x : AV} {v : Value} (h : Rv G x v) (h1 : x.one = true) : v.oneCell' = true ∧ v.cells = #[v] := by
  have : v.oneCell' = true := by
    cases x with
    | sc u => simp only [Rv] at h; subst h; exact h1
    | ro n cs => simp only [Rv] at h; obtain ⟨a, c, rfl, _⟩ := h; rfl
    | ref l t o n => simp only [Rv] at h; obtain ⟨_, ⟨a, m, c, rfl⟩, _⟩ := h; rfl
    | ptr l t o => simp only [Rv] at h; obtain ⟨_, ⟨a, rfl⟩, _⟩ := h; rfl
    | rop cs => simp only [Rv] at h; obtain ⟨b, o, rfl, _⟩ := h; rfl
    | clo f cs => simp only [Rv] at h; obtain ⟨vs, rfl, _⟩ := h; rfl
    | bnd f cs => simp only [Rv] at h; obtain ⟨vs, rfl, _⟩ := h; rfl
    | mp l => simp only [Rv] at h; obtain ⟨_, ⟨a, rfl⟩, _⟩ := h; rfl
    | rom ks vs => simp only [Rv] at h; rcases h with ⟨rfl, _⟩ | ⟨b, en, cl, rfl, _⟩ <;> rfl
    | it l => simp only [Rv] at h; obtain ⟨_, ⟨a, rfl⟩, _⟩ := h; rfl
    | stamp l k => simp only [Rv] at h; obtain ⟨_, n, rfl, _⟩ := h; rfl
    | ifc t x => simp only [Rv] at h; obtain ⟨a, rfl, _⟩ := h; rfl
    | agg cs => simp [AV.one] at h1
    | tup cs => simp [AV.one] at h1
    | junk => simp [AV.one] at h1
  exact ⟨this, by cases v <;> simp_all [Value.oneCell', Value.cells]⟩

theorem cellsOf_some {x : AV} {xs : List AV} {v : Value} (hc : cellsOf x = some xs) (h : Rv G x v) :
    ∃ vs : List Value, v.cells = vs.toArray ∧ Rvs G xs vs ∧ (∀ u ∈ vs, u.oneCell' = true) ∧ xs.all AV.one = true := by
  have single : x.one = true → cellsOf x = some [x] → ∃ vs : List Value, v.cells = vs.toArray ∧ Rvs G xs vs ∧ (∀ u ∈ vs, u.oneCell' = true) ∧ xs.all AV.one = true := fun h1 h2 => by
    rw [h2] at hc
    cases hc
    obtain ⟨o1, o2⟩ := one_of h h1
    exact ⟨[v], by simpa using o2, by simp [Rvs, h], by simpa using o1, by simpa using h1⟩
  have many : ∀ cs vs, Rvs G cs vs → cs.all AV.one = true → ∀ u ∈ vs, u.oneCell' = true := fun cs vs hs ha u hu => by
    obtain ⟨hl, hj⟩ := rvs_iff.1 hs
    obtain ⟨j, hjl, rfl⟩ := List.getElem_of_mem hu
    obtain ⟨v', e, hr⟩ := hj j (cs[j]'(by omega)) (by simp [show j < cs.length by omega])
    simp [hjl] at e
    subst e
    exact (one_of hr (List.all_eq_true.1 ha _ (List.getElem_mem _))).1
  cases x with
  | agg cs =>
    simp only [cellsOf] at hc
    split at hc
    · rename_i ha
      cases hc
      simp only [Rv] at h
      obtain ⟨vs, rfl, hs⟩ := h
      exact ⟨vs, rfl, hs, many _ _ hs ha, ha⟩
    · cases hc
  | _ =>
    simp only [cellsOf] at hc
    split at hc
    · rename_i h1
      exact single h1 (by simp [cellsOf, h1])
    · cases hc

theorem write_row (hR : Rel G) {l b e k : Nat} {cs cs' : List AV} {c c' : Array Value} (h0 : G.S.m l = some (.row e k cs)) (hb : G.μ l = some b) (hc : G.w.heap[b]? = some (.cells c e (0, 0)))
    (hsz : c'.size = c.size) (hlen : cs.length ≤ cs'.length) (hl : cs'.length ≤ 281474976710656) (hfit : cs'.length ≤ c'.size) (hp : Pre G cs' c' 0) :
    Rel (G.put (G.w.setRow b c') l (.row e k cs')) ∧ Step G (G.put (G.w.setRow b c') l (.row e k cs')) := by
  have hlive : G.live l b := ⟨⟨_, h0⟩, hb⟩
  have hoth : ∀ b', b' ≠ b → (G.w.setRow b c').heap[b']? = G.w.heap[b']? := fun b' h => setRow_other G.w b b' c' h
  have hnew : (G.w.setRow b c').heap[b]? = some (.cells c' e (0, 0)) := setRow_heap G.w b c c' e (0, 0) hc
  have hs : Step G (G.put (G.w.setRow b c') l (.row e k cs')) :=
    put_step hR hlive rfl rfl (Nat.le_refl _) rfl (by simp [World.setRow]) hoth ⟨cs, h0, hlen, fun _ c2 hc2 => ⟨c', hnew, by rw [hc] at hc2; cases hc2; exact hsz⟩⟩ (fun en cl h => by rw [hc] at h; cases h)
  exact ⟨put_rel hR hlive hs hoth ⟨hl, .inr ⟨b, c', hb, hnew, hfit, (hp.step hs).rat hnew⟩⟩, hs⟩

theorem pre_splice {cs xs : List AV} {c : Array Value} {vs : List Value} {off : Nat} (hp : Pre G cs c 0) (hs : Rvs G xs vs) (hoff : off ≤ cs.length) (hsz : cs.length ≤ c.size) :
    Pre G (cs.take off ++ xs ++ cs.drop (off + xs.length)) (c.toList.take off ++ vs ++ c.toList.drop (off + vs.length)).toArray 0 := by
  obtain ⟨hl, hj⟩ := rvs_iff.1 hs
  intro j x hx
  simp only [List.append_assoc] at hx ⊢
  simp only [Nat.zero_add, List.getElem?_toArray]
  rw [List.getElem?_append] at hx ⊢
  simp only [List.length_take, Array.length_toList] at hx ⊢
  have e1 : min off cs.length = off := by omega
  have e2 : min off c.size = off := by omega
  rw [e1] at hx
  rw [e2]
  split at hx
  · rename_i h1
    simp only [h1, if_true]
    rw [List.getElem?_take] at hx ⊢
    simp only [h1, if_true] at hx ⊢
    obtain ⟨v, hv, hr⟩ := hp j x hx
    exact ⟨v, by simpa using hv, hr⟩
  · rename_i h1
    simp only [h1, if_false]
    rw [List.getElem?_append] at hx ⊢
    rw [← hl]
    split at hx
    · rename_i h2
      simp only [h2, if_true]
      exact hj _ x hx
    · rename_i h2
      simp only [h2, if_false]
      rw [List.getElem?_drop] at hx ⊢
      obtain ⟨v, hv, hr⟩ := hp _ x hx
      exact ⟨v, by simpa using hv, hr⟩

theorem ok_store (hR : Rel G) {t : TypeId} {u v : Value} {x y : AV} (hh : has P t = true) (hx : Rv G x u) (hy : Rv G y v)
    (h : (match (generalizing := false) x with
      | .ptr l tot off => orK (G.S.row? l tot) fun r => orK (cellsOf y) fun xs =>
        xs.length = P.cellsOf t ∧ off + P.cellsOf t ≤ r.2.2.length ∧ K (.sc undef) (G.S.set l (.row r.1 r.2.1 (r.2.2.take off ++ xs ++ r.2.2.drop (off + P.cellsOf t))))
      | _ => False)) : ∃ w', (Instr.storeAt t u v).run P G.w = .ok () w' ∧ Left G K undef w' := by
  cases x with
  | ptr l tot off =>
    simp only at h
    obtain ⟨r, hr, h⟩ := orK_elim h
    obtain ⟨xs, hxs, h1, h2, hK⟩ := orK_elim h
    simp only [Rv] at hx
    obtain ⟨b, hb, rfl⟩ := ptr_real hx hr
    obtain ⟨hm, ht⟩ := row?_some hr
    obtain ⟨c, hc, hsz, hat⟩ := row_block hR hm hb
    obtain ⟨vs, hv1, hv2, hv3, _⟩ := cellsOf_some hxs hy
    have hvl := (rvs_iff.1 hv2).1
    have hrun := run_storeCells_at P b off r.1 vs 0 c G.w hc (by omega) hv3
    simp only [Nat.add_zero] at hrun
    have hpre := pre_splice (hat.pre hc) hv2 (off := off) (by omega) hsz
    have hlen : (r.2.2.take off ++ xs ++ r.2.2.drop (off + xs.length)).length = r.2.2.length := by simp; omega
    have hw := write_row hR (cs' := r.2.2.take off ++ xs ++ r.2.2.drop (off + xs.length)) (c' := (c.toList.take off ++ vs ++ c.toList.drop (off + vs.length)).toArray) hm hb hc (by simp; omega) (by omega) (by have := (hR.ok l _ hm).1; omega) (by rw [hlen]; simp; omega) hpre
    refine ⟨_, ?_, _, .sc undef, rfl, hw.1, hw.2, by simp [Rv], ?_⟩
    · have : v.cells.size = P.cellsOf t := by rw [hv1]; simp; omega
      simp [Instr.storeAt, Instr.sureAddr, storeVar, run_sizeOf' hh, this, hv1, hrun, Ctx.put]
      omega
    · rw [← h1] at hK
      exact hK
  | _ => exact h.elim

/-! ### addresses -/
theorem ok_faddr (hR : Rel G) {s : TypeId} {fs : Array Field} {n : Nat} {f : Field} {u : Value} {x : AV} (hs : P.underlying s = some (.struct fs)) (hf : fs[n]? = some f) (hh : has P f.type = true) (hz : (P.cellsOf f.type != 0) = true) (hx : Rv G x u)
    (h : (match (generalizing := false) x with
      | .ptr l tot o => orK (G.S.row? l tot) fun _ => K (.ptr l tot (o + f.offset)) G.S
      | .rop cs => K (.rop (cs.drop f.offset)) G.S
      | _ => False)) : ∃ v, (Instr.fieldAt s u n).run P G.w = .ok v G.w ∧ ∃ r, Rv G r v ∧ K r G.S := by
  have hne : P.cellsOf f.type ≠ 0 := by simpa using hz
  have run : ∀ b off, (Instr.fieldAt s (.pointer (some ⟨b, off, none⟩)) n).run P G.w = .ok (.pointer (some ⟨b, off + f.offset, none⟩)) G.w := fun b off => by
    simp [Instr.fieldAt, run_underlying hs, hf, Instr.sureAddr, fieldPlace, run_sizeOf' hh, hne, add_lit']
  cases x with
  | ptr l tot off =>
    simp only at h
    obtain ⟨r, hr, hK⟩ := orK_elim h
    have hx0 := hx
    simp only [Rv] at hx
    obtain ⟨b, hb, rfl⟩ := ptr_real hx hr
    refine ⟨_, run b off, _, ?_, hK⟩
    simp only [Rv]
    exact ⟨hx.1, ⟨_, rfl⟩, fun e k cs hm => ⟨(hx.2.2 e k cs hm).1, fun _ => ⟨b, hb, rfl⟩⟩⟩
  | rop cs =>
    simp only [Rv] at hx
    obtain ⟨b, off, rfl, ho, hat⟩ := hx
    refine ⟨_, run b off, _, ?_, h⟩
    simp only [Rv]
    exact ⟨b, off + f.offset, rfl, ho, rat_iff.2 fun j x hj => by
      obtain ⟨v, hv, hr⟩ := rat_iff.1 hat (f.offset + j) x (by simpa using hj)
      exact ⟨v, by rw [Nat.add_assoc]; exact hv, hr⟩⟩
  | _ => exact h.elim

theorem rat_drop {cs : List AV} {b off n : Nat} (hat : Rat G cs b off) : Rat G (cs.drop n) b (off + n) :=
  rat_iff.2 fun j x hj => by
    obtain ⟨v, hv, hr⟩ := rat_iff.1 hat (n + j) x (by simpa using hj)
    exact ⟨v, by rw [Nat.add_assoc]; exact hv, hr⟩

theorem intOf_some {x : AV} {i : Int} {v : Value} (h : intOfAV x = some i) (hx : Rv G x v) : ∃ k, v = .int k i := by
  cases x with
  | sc u =>
    simp only [Rv] at hx
    subst hx
    cases v <;> simp [intOfAV] at h
    subst h
    exact ⟨_, rfl⟩
  | _ => simp [intOfAV] at h

theorem ref_real {l tot off n : Nat} {u : Value} (h : RefFact G l tot off n u) {r : TypeId × Nat × List AV} (hr : G.S.row? l tot = some r) :
    (G.μ l = none ∧ r.2.2 = [] ∧ off = 0 ∧ n = 0 ∧ u = .slice none 0 0) ∨
    ∃ b c cap, G.μ l = some b ∧ G.w.heap[b]? = some (.cells c r.1 (0, 0)) ∧
      (u = .slice (some ⟨b, off, none⟩) n cap ∨ (cap = 0 ∧ n = 0 ∧ 0 < off ∧ ∃ o', u = .slice (some ⟨b, o', none⟩) 0 0)) ∧
      (n ≤ cap ∧ n ≤ 9223372036854775807) ∧ off + cap * r.2.1 ≤ c.size ∧ tot ≤ off + cap * r.2.1 := by
  obtain ⟨h1, h2⟩ := row?_some hr
  exact (h.2.2 _ _ _ h1).2 h2.symm

theorem ok_iaddr (hR : Rel G) {t e : TypeId} {u w : Value} {x y : AV} {j : Int} (ht : P.underlying t = some (.slice e)) (hh : has P e = true) (hx : Rv G x u) (hy : Rv G y w) (hj : intOfAV y = some j)
    (h : (match (generalizing := false) x with
      | .ro n cs => 0 ≤ j ∧ j < n ∧ j.toNat * P.cellsOf e < cs.length ∧ K (.rop (cs.drop (j.toNat * P.cellsOf e))) G.S
      | .ref l tot off n => orK (G.S.row? l tot) fun r => 0 ≤ j ∧ j < n ∧ K (.ptr l tot (off + j.toNat * P.cellsOf e)) G.S
      | _ => False)) : ∃ v, (Instr.indexAt t u w).run P G.w = .ok v G.w ∧ ∃ r, Rv G r v ∧ K r G.S := by
  obtain ⟨k, rfl⟩ := intOf_some hj hy
  cases x with
  | ro n cs =>
    obtain ⟨h0, h1, h2, hK⟩ := h
    simp only [Rv] at hx
    obtain ⟨a, c, rfl, hc, hn, hc0, hcs⟩ := hx
    rcases hcs with rfl | ⟨b, off, rfl, ho, hat⟩
    · simp at h2
    · refine ⟨.pointer (some ⟨b, off + j.toNat * P.cellsOf e, none⟩), ?_, _, ?_, hK⟩
      · simp [Instr.indexAt, asIntOf, run_underlying ht, h0, h1, run_sizeOf' hh, add_lit']
      · simp only [Rv]
        exact ⟨b, _, rfl, ho, rat_drop hat⟩
  | ref l tot off n =>
    simp only at h
    obtain ⟨r, hr, h0, h1, hK⟩ := orK_elim h
    simp only [Rv] at hx
    rcases ref_real hx hr with ⟨_, _, _, hn, _⟩ | ⟨b, c, cap, hb, hc, hu, hn, _⟩
    · subst hn; simp at h1; omega
    · rcases hu with rfl | ⟨_, hn0, _⟩
      · refine ⟨.pointer (some ⟨b, off + j.toNat * P.cellsOf e, none⟩), ?_, _, ?_, hK⟩
        · simp [Instr.indexAt, asIntOf, run_underlying ht, h0, h1, run_sizeOf' hh, add_lit']
        · simp only [Rv]
          exact ⟨hx.1, ⟨_, rfl⟩, fun e' k' cs' hm => ⟨(hx.2.2 e' k' cs' hm).1, fun _ => ⟨b, hb, rfl⟩⟩⟩
      · subst hn0; simp at h1; omega
  | _ => exact h.elim

theorem ok_iaddrA (hR : Rel G) {t e : TypeId} {n : Nat} {u w : Value} {x y : AV} {j : Int} (ht : P.underlying t = some (.array n e)) (hh : has P e = true) (hx : Rv G x u) (hy : Rv G y w) (hj : intOfAV y = some j)
    (h : (match (generalizing := false) x with
      | .ptr l tot off => orK (G.S.row? l tot) fun r => 0 ≤ j ∧ j < n ∧ K (.ptr l tot (off + j.toNat * P.cellsOf e)) G.S
      | .rop cs => 0 ≤ j ∧ j < n ∧ K (.rop (cs.drop (j.toNat * P.cellsOf e))) G.S
      | _ => False)) : ∃ v, (Instr.indexAt t u w).run P G.w = .ok v G.w ∧ ∃ r, Rv G r v ∧ K r G.S := by
  obtain ⟨k, rfl⟩ := intOf_some hj hy
  cases x with
  | ptr l tot off =>
    simp only at h
    obtain ⟨r, hr, h0, h1, hK⟩ := orK_elim h
    simp only [Rv] at hx
    obtain ⟨b, hb, rfl⟩ := ptr_real hx hr
    refine ⟨.pointer (some ⟨b, off + j.toNat * P.cellsOf e, none⟩), ?_, _, ?_, hK⟩
    · simp [Instr.indexAt, asIntOf, run_underlying ht, Instr.sureAddr, h0, h1, run_sizeOf' hh, add_lit']
    · simp only [Rv]
      exact ⟨hx.1, ⟨_, rfl⟩, fun e' k' cs' hm => ⟨(hx.2.2 e' k' cs' hm).1, fun _ => ⟨b, hb, rfl⟩⟩⟩
  | rop cs =>
    obtain ⟨h0, h1, hK⟩ := h
    simp only [Rv] at hx
    obtain ⟨b, off, rfl, ho, hat⟩ := hx
    refine ⟨.pointer (some ⟨b, off + j.toNat * P.cellsOf e, none⟩), ?_, _, ?_, hK⟩
    · simp [Instr.indexAt, asIntOf, run_underlying ht, Instr.sureAddr, h0, h1, run_sizeOf' hh, add_lit']
    · simp only [Rv]
      exact ⟨b, _, rfl, ho, rat_drop hat⟩
  | _ => exact h.elim

/-! ### parts -/
theorem ok_part (hR : Rel G) {t : TypeId} {g : Bool} {cs : List AV} {vs : List Value} {off : Nat} (hg : isAggT P t = some g) (hh : has P t = true) (hs : Rvs G cs vs)
    (h : (match (if g then some (P.cellsOf t) else none) with
      | none => orK cs[off]? fun c => K c G.S
      | some k => off + k ≤ cs.length ∧ K (.agg ((cs.drop off).take k)) G.S)) : ∃ v, (part t vs.toArray off).run P G.w = .ok v G.w ∧ ∃ r, Rv G r v ∧ K r G.S := by
  obtain ⟨hl, hj⟩ := rvs_iff.1 hs
  cases g with
  | false =>
    simp only [Bool.false_eq_true, if_false] at h
    obtain ⟨c, hc, hK⟩ := orK_elim h
    obtain ⟨v, hv, hr⟩ := hj off c hc
    exact ⟨v, by simp [part, run_isAggT hg, hv], c, hr, hK⟩
  | true =>
    simp only [if_true] at h
    obtain ⟨h1, hK⟩ := h
    refine ⟨.agg ((vs.drop off).take (P.cellsOf t)).toArray, ?_, _, ?_, hK⟩
    · simp only [part, Sem.run_bind, run_isAggT hg, Result.andThen_ok, if_true, run_sizeOf' hh, Sem.run_pure]
      congr 2
      simp [List.extract_toArray, List.extract_eq_take_drop]
    · simp only [Rv]
      refine ⟨_, rfl, rvs_iff.2 ⟨by simp [hl], fun j x hx => ?_⟩⟩
      rw [List.getElem?_take] at hx ⊢
      split at hx
      · rename_i hlt
        simp only [hlt, if_true]
        rw [List.getElem?_drop] at hx ⊢
        exact hj _ x hx
      · cases hx

theorem ok_fld (hR : Rel G) {s : TypeId} {fs : Array Field} {n : Nat} {f : Field} {g : Bool} {u : Value} {x : AV} (hs : P.underlying s = some (.struct fs)) (hf : fs[n]? = some f) (hg : isAggT P f.type = some g) (hh : has P f.type = true) (hx : Rv G x u)
    (h : (match (generalizing := false) x with
      | .agg cs => match (if g then some (P.cellsOf f.type) else none) with
        | none => orK cs[f.offset]? fun c => K c G.S
        | some k => f.offset + k ≤ cs.length ∧ K (.agg ((cs.drop f.offset).take k)) G.S
      | _ => False)) : ∃ v, (Instr.field s u n).run P G.w = .ok v G.w ∧ ∃ r, Rv G r v ∧ K r G.S := by
  cases x with
  | agg cs =>
    simp only [Rv] at hx
    obtain ⟨vs, rfl, hvs⟩ := hx
    obtain ⟨v, hv, hr⟩ := ok_part (P := P) (K := K) hR hg hh hvs h
    exact ⟨v, by simp [Instr.field, run_underlying hs, hf, asAgg, hv], hr⟩
  | _ => exact h.elim

theorem ok_ixa (hR : Rel G) {t e : TypeId} {n : Nat} {g : Bool} {u w : Value} {x y : AV} {j : Int} (ht : P.underlying t = some (.array n e)) (hg : isAggT P e = some g) (hh : has P e = true) (hx : Rv G x u) (hy : Rv G y w) (hj : intOfAV y = some j)
    (h : (match (generalizing := false) x with
      | .agg cs => 0 ≤ j ∧ j < n ∧ (if g then j.toNat * P.cellsOf e + P.cellsOf e ≤ cs.length ∧ K (.agg ((cs.drop (j.toNat * P.cellsOf e)).take (P.cellsOf e))) G.S else orK cs[j.toNat * P.cellsOf e]? fun c => K c G.S)
      | _ => False)) : ∃ v, (Instr.index t u w).run P G.w = .ok v G.w ∧ ∃ r, Rv G r v ∧ K r G.S := by
  obtain ⟨k, rfl⟩ := intOf_some hj hy
  cases x with
  | agg cs =>
    obtain ⟨h0, h1, h2⟩ := h
    simp only [Rv] at hx
    obtain ⟨vs, rfl, hvs⟩ := hx
    obtain ⟨v, hv, hr⟩ := ok_part (P := P) (K := K) (off := j.toNat * P.cellsOf e) hR hg hh hvs (by cases g <;> simpa using h2)
    exact ⟨v, by simp [Instr.index, asIntOf, run_underlying ht, h0, h1, run_sizeOf' hh, hv], hr⟩
  | _ => exact h.elim

theorem byteAt_eq (s : ByteArray) (i : Nat) (h : i < s.size) : ∃ b, s[i]? = some b ∧ (b.toNat : Int) = byteAt s i := by
  refine ⟨s[i], by simp [h], ?_⟩
  unfold byteAt
  have : s.data[i]? = some s[i] := by
    rw [Array.getElem?_eq_getElem h]; rfl
  simp [this]

theorem ok_ixs (hR : Rel G) {t : TypeId} {u w : Value} {x y : AV} {j : Int} (ht : P.underlying t = some .string) (hx : Rv G x u) (hy : Rv G y w) (hj : intOfAV y = some j)
    (h : (match (generalizing := false) x with
      | .sc (.string s) => 0 ≤ j ∧ j < s.size ∧ K (.sc (.int .u8 (byteAt s j.toNat))) G.S
      | _ => False)) : ∃ v, (Instr.index t u w).run P G.w = .ok v G.w ∧ ∃ r, Rv G r v ∧ K r G.S := by
  obtain ⟨k, rfl⟩ := intOf_some hj hy
  cases x with
  | sc q =>
    cases q with
    | string s =>
      obtain ⟨h0, h1, hK⟩ := h
      simp only [Rv] at hx
      subst hx
      obtain ⟨b, hb, hb'⟩ := byteAt_eq s j.toNat (by omega)
      exact ⟨_, by simp [Instr.index, asIntOf, run_underlying ht, h0, hb]; rfl, _, by simp [Rv, hb'], hK⟩
    | _ => exact h.elim
  | _ => exact h.elim
end
end Go.Proofs.Ytfihpbeihlpfcaa.Ev
