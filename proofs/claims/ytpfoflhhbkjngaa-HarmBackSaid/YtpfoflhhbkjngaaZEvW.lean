/- slices.SortFunc on an own row: the library's contract, told of abstract values. -/
import Derived.Test.YtpfoflhhbkjngaaZEvU
import Derived.Shelf.SlSortCmp.NoneTotal
set_option linter.unusedVariables false
set_option linter.unusedSimpArgs false
namespace Go.Proofs.Ytpfoflhhbkjngaa.Ev
open Go Go.RowKit Go.Shelf

/-! ### values without names, in another world -/
mutual
theorem Rv.bare {G G' : Ctx} (h : ∀ b, G.old b → G'.old b ∧ G'.w.heap[b]? = G.w.heap[b]?) : ∀ (x : AV) (v : Value), x.bel 0 → Rv G x v → Rv G' x v
  | .sc u, v, hb, hr => by simpa only [Rv] using hr
  | .ro n cs, v, hb, hr => by
    simp only [Rv, AV.bel] at hr hb ⊢
    obtain ⟨a, c, e, h1, h2, h0, h3⟩ := hr
    refine ⟨a, c, e, h1, h2, h0, ?_⟩
    rcases h3 with h3 | ⟨b, off, e1, ho, hat⟩
    · exact .inl h3
    · exact .inr ⟨b, off, e1, (h b ho).1, Rat.bare h cs b off (fun o => cell_of_heap (h b ho).2 o) hb hat⟩
  | .ref l t o n, v, hb, hr => by simp only [AV.bel] at hb; omega
  | .ptr l t o, v, hb, hr => by simp only [AV.bel] at hb; omega
  | .rop cs, v, hb, hr => by
    simp only [Rv, AV.bel] at hr hb ⊢
    obtain ⟨b, off, e, ho, hat⟩ := hr
    exact ⟨b, off, e, (h b ho).1, Rat.bare h cs b off (fun o => cell_of_heap (h b ho).2 o) hb hat⟩
  | .clo f caps, v, hb, hr => by
    simp only [Rv, AV.bel] at hr hb ⊢
    obtain ⟨vs, e, hs⟩ := hr
    exact ⟨vs, e, Rvs.bare h caps vs hb hs⟩
  | .bnd f caps, v, hb, hr => by
    simp only [Rv, AV.bel] at hr hb ⊢
    obtain ⟨vs, e, hs⟩ := hr
    exact ⟨vs, e, Rvs.bare h caps vs hb hs⟩
  | .mp l, v, hb, hr => by simp only [AV.bel] at hb; omega
  | .rom ks vs, v, hb, hr => by
    simp only [Rv, AV.bel] at hr hb ⊢
    rcases hr with hr | ⟨b, en, cl, e, ho, hbl, hk, hs⟩
    · exact .inl hr
    · exact .inr ⟨b, en, cl, e, (h b ho).1, ((h b ho).2).trans hbl, hk, Rvs.bare h vs _ hb hs.1, hs.2⟩
  | .it l, v, hb, hr => by simp only [AV.bel] at hb; omega
  | .stamp l k, v, hb, hr => by simp only [AV.bel] at hb; omega
  | .agg cs, v, hb, hr => by
    simp only [Rv, AV.bel] at hr hb ⊢
    obtain ⟨vs, e, hs⟩ := hr
    exact ⟨vs, e, Rvs.bare h cs vs hb hs⟩
  | .tup cs, v, hb, hr => by
    simp only [Rv, AV.bel] at hr hb ⊢
    obtain ⟨vs, e, hs⟩ := hr
    exact ⟨vs, e, Rvs.bare h cs vs hb hs⟩
  | .ifc t x, v, hb, hr => by
    simp only [Rv, AV.bel] at hr hb ⊢
    obtain ⟨u, e, hs⟩ := hr
    exact ⟨u, e, Rv.bare h x u hb hs⟩
  | .junk, v, hb, hr => by simp only [Rv]
theorem Rat.bare {G G' : Ctx} (h : ∀ b, G.old b → G'.old b ∧ G'.w.heap[b]? = G.w.heap[b]?) : ∀ (xs : List AV) (b off : Nat), (∀ o, G'.w.cell? ⟨b, o, none⟩ = G.w.cell? ⟨b, o, none⟩) → bels 0 xs → Rat G xs b off → Rat G' xs b off
  | [], _, _, _, _, _ => by simp only [Rat]
  | x :: xs, b, off, hc, hb, hr => by
    simp only [Rat, bels] at hr hb ⊢
    obtain ⟨⟨v, e, hv⟩, ht⟩ := hr
    exact ⟨⟨v, (hc off).trans e, Rv.bare h x v hb.1 hv⟩, Rat.bare h xs b (off + 1) hc hb.2 ht⟩
theorem Rvs.bare {G G' : Ctx} (h : ∀ b, G.old b → G'.old b ∧ G'.w.heap[b]? = G.w.heap[b]?) : ∀ (xs : List AV) (vs : List Value), bels 0 xs → Rvs G xs vs → Rvs G' xs vs
  | [], vs, _, hr => by simpa only [Rvs] using hr
  | x :: xs, vs, hb, hr => by
    simp only [Rvs, bels] at hr hb ⊢
    obtain ⟨v, us, e, hv, ht⟩ := hr
    exact ⟨v, us, e, Rv.bare h x v hb.1 hv, Rvs.bare h xs us hb.2 ht⟩
end
def bareC (w : World) : Ctx := ⟨w, fun _ => none, ⟨fun _ => none, 0⟩⟩
theorem bareC_rel (w : World) : Rel (bareC w) := ⟨fun _ _ => rfl, fun l o h => (by cases h), fun l l' b h _ => (by obtain ⟨⟨o, h⟩, _⟩ := h; cases h)⟩
theorem bareC_old (w : World) : ∀ b, b < w.heap.size → (bareC w).old b := fun b hb => ⟨hb, fun ⟨l, ⟨o, h⟩, _⟩ => by cases h⟩
theorem heap_ext {w w' : World} (h1 : w.heap.size ≤ w'.heap.size) (h2 : ∀ b, b < w.heap.size → w'.heap[b]? = w.heap[b]?) : w'.heap = w.heap ++ w'.heap.extract w.heap.size w'.heap.size := by
  apply Array.ext_getElem?
  intro i
  by_cases hi : i < w.heap.size
  · rw [h2 i hi, Array.getElem?_append_left hi]
  · rw [Array.getElem?_append_right (by omega), Array.getElem?_extract]
    by_cases h3 : i < w'.heap.size
    · rw [if_pos (by omega)]; congr 1; omega
    · rw [if_neg (by omega), Array.getElem?_eq_none (by omega)]
/-- A function that computes a number, in whatever world: it draws and lays blocks. -/
theorem cmp_world {P : Program} {g : FuncId} {args : List AV} {z : Int} (h : Fn P g args (intA z)) {w : World} {vs : List Value} (hv : Rvs (bareC w) args vs) :
    Calls P g vs.toArray w fun e w' => e = .returned (.int .i64 z) ∧ ∃ q os', w' = Sort.grow (w.drewN q) os' := by
  refine ((h.2 (bareC w).S).2 (bareC w) vs rfl (bareC_rel w) hv).mono ?_
  rintro e w' ⟨G', r', v, rfl, rfl, k3, k4, k5, rfl, k7⟩
  refine ⟨by rw [scR k5], G'.w.drawn - w.drawn, G'.w.heap.extract w.heap.size G'.w.heap.size, ?_⟩
  have hd := k4.drawn
  have hh := heap_ext (w := w) (w' := G'.w) k4.size fun b hb => k4.keep b (bareC_old w b hb)
  have h1 : G'.w.os = w.os := k4.os
  have h2 : G'.w.tape = w.tape := k4.tape
  have h3 : G'.w.output = w.output := k4.output
  have h4 : w.drawn ≤ G'.w.drawn := hd
  clear k3 k4 k5 k7 hd
  revert hh h1 h2 h3 h4
  generalize G'.w = x
  intro hh h1 h2 h3 h4
  cases x with
  | mk heap tape drawn os output =>
    simp only at hh h1 h2 h3 h4
    subst h1 h2 h3
    simp only [Sort.grow, World.drewN]
    congr 1
    omega

/-! ### the row behind the sort -/
theorem grow_step {G : Ctx} (hR : Rel G) (os : Array Obj) : Step G { G with w := Sort.grow G.w os } ∧ Rel { G with w := Sort.grow G.w os } := by
  have hlt : ∀ b, b < G.w.heap.size → (Sort.grow G.w os).heap[b]? = G.w.heap[b]? := fun b hb => by simp only [Sort.grow]; rw [Array.getElem?_append_left hb]
  have hs : Step G { G with w := Sort.grow G.w os } := by
    refine ⟨rfl, rfl, Nat.le_refl _, rfl, by simp [Sort.grow], fun b hb => hlt b hb.1, fun b _ hb => hb, Nat.le_refl _, fun l o hl ho => ?_, maps_same hlt⟩
    cases o with
    | row e k cs => exact ⟨cs, ho, Nat.le_refl _, fun _ => ⟨rfl, fun b c hb hc => ⟨c, (hlt b (Array.getElem?_eq_some_iff.1 hc).1).trans hc, rfl⟩⟩⟩
    | map es => exact ⟨es, ho, rfl⟩
    | iter i => exact ⟨i, ho, rfl⟩
  exact ⟨hs, hR.dom, fun l o ho => (hR.ok l o ho).keep hs rfl fun b hb => hlt b (owned_lt hR ⟨l, ⟨o, ho⟩, hb⟩), hR.inj⟩
theorem putRow_heap (w : World) (m b : Nat) (F : Array Value) {c : Array Value} {e : TypeId} {fr : Nat × Nat} (hc : w.heap[b]? = some (.cells c e fr)) :
    (Sort.putRow id (Sort.ahead w m) b 0 F).heap[b]? = some (.cells (Sort.putCells id 0 F c) e fr) ∧ (∀ b', b' ≠ b → (Sort.putRow id (Sort.ahead w m) b 0 F).heap[b']? = w.heap[b']?) ∧ (Sort.putRow id (Sort.ahead w m) b 0 F).heap.size = w.heap.size := by
  refine ⟨?_, fun b' h => ?_, ?_⟩
  · simp [Sort.putRow, Sort.mapBlock, Sort.ahead, Array.getElem?_modify, hc, Sort.onCells]
  · simp [Sort.putRow, Sort.mapBlock, Sort.ahead, Array.getElem?_modify, Ne.symm h]
  · simp [Sort.putRow, Sort.mapBlock, Sort.ahead]
theorem sorted_ctx {G : Ctx} (hR : Rel G) {l b e k : Nat} {cs cs' : List AV} {c F : Array Value} (h0 : G.S.m l = some (.row e k cs)) (hb : G.μ l = some b) (hc : G.w.heap[b]? = some (.cells c e (0, 0)))
    (hlen : cs'.length = cs.length) (hfit : cs.length ≤ c.size) (hv : Rvs G cs' F.toList) (m : Nat) (os : Array Obj) :
    ∃ G' : Ctx, G'.w = Sort.grow (Sort.putRow id (Sort.ahead G.w m) b 0 F) os ∧ Rel G' ∧ Step G G' ∧ G'.S = G.S.set l (.row e k cs') := by
  have hF : F.size = cs'.length := by have := (rvs_iff.1 hv).1; simp at this; omega
  obtain ⟨p1, p2, p3⟩ := putRow_heap G.w m b F hc
  have hlive : G.live l b := ⟨⟨_, h0⟩, hb⟩
  have hsz : (Sort.putCells id 0 F c).size = c.size := by simp [Sort.putCells]
  have hs : Step G (G.put (Sort.putRow id (Sort.ahead G.w m) b 0 F) l (.row e k cs')) :=
    put_step hR hlive rfl rfl (by simp [Sort.putRow, Sort.mapBlock, Sort.ahead]) rfl p3 p2 ⟨cs, h0, by omega, fun _ c2 hc2 => ⟨_, p1, by rw [hc] at hc2; cases hc2; exact hsz⟩⟩ (fun en cl h => by rw [hc] at h; cases h)
  have hpre : Pre G cs' (Sort.putCells id 0 F c) 0 := fun j x hx => by
    obtain ⟨v, hv1, hv2⟩ := (rvs_iff.1 hv).2 j x hx
    have hj : j < F.size := by have := (List.getElem?_eq_some_iff.1 hx).1; omega
    refine ⟨v, ?_, hv2⟩
    have hjc : j < c.size := by omega
    simp only [Sort.putCells, Nat.zero_add, Array.getElem?_mapIdx, Nat.zero_le, true_and, Nat.sub_zero]
    rw [Array.getElem?_eq_getElem hjc]
    simp only [Option.map_some, hj, if_true, id]
    rw [getElem!_pos F j hj]
    rw [Array.getElem?_toList, Array.getElem?_eq_getElem hj] at hv1
    exact hv1
  have hrel : Rel (G.put (Sort.putRow id (Sort.ahead G.w m) b 0 F) l (.row e k cs')) :=
    put_rel hR hlive hs p2 ⟨by have := (hR.ok l _ h0).1; omega, .inr ⟨b, _, hb, p1, by omega, (hpre.step hs).rat p1⟩⟩
  obtain ⟨g1, g2⟩ := grow_step hrel os
  exact ⟨_, rfl, g2, hs.trans g1, rfl⟩
theorem rowAt_get {L : List (Option Ob)} {j tot e k : Nat} {cs : List AV} (h : rowAt L j tot = some (e, k, cs)) : L[j]? = some (some (.row e k cs)) ∧ cs.length = tot := by
  unfold rowAt at h
  split at h
  · rename_i e' k' cs' hr
    split at h
    · rename_i ht
      cases h
      refine ⟨?_, ht⟩
      cases hL : L[j]? with
      | none => rw [hL] at hr; cases hr
      | some o => rw [hL] at hr; simp at hr; rw [hr]
    · cases h
  · cases h
theorem cells_get {α : Type} {k : Nat} [Enc α k] {l : List α} {i r : Nat} (hi : i < l.length) (hr : r < k) : (cellsL l)[i * k + r]? = (Enc.cells (nth l i))[r]? := by
  rw [← List.getElem?_drop, cellsL_drop, drop_cells hi, List.getElem?_append_left (by rw [Enc.len]; exact hr)]
/-- Elements laid anew, in another order. -/
theorem perm_rvs {α : Type} {k : Nat} [E : Enc α k] {G : Ctx} {l l' : List α} {c F : Array Value} (hp : Pre G (cellsL l) c 0) (σ : Nat → Nat) (hσ : ∀ i, i < l'.length → σ i < l.length ∧ nth l' i = nth l (σ i))
    (hF : F.size = l'.length * k) (hc : ∀ i r, i < l'.length → r < k → F[i * k + r]? = c[σ i * k + r]?) : Rvs G (cellsL l') F.toList := by
  refine rvs_iff.2 ⟨by rw [cellsL_len]; simp [hF], fun t x hx => ?_⟩
  have hk := E.pos
  have ht : t < l'.length * k := by have := (List.getElem?_eq_some_iff.1 hx).1; rwa [cellsL_len] at this
  have hi : t / k < l'.length := (Nat.div_lt_iff_lt_mul hk).2 ht
  have hr : t % k < k := Nat.mod_lt _ hk
  have et : t / k * k + t % k = t := by rw [Nat.mul_comm]; exact Nat.div_add_mod t k
  rw [← et, cells_get hi hr, (hσ _ hi).2, ← cells_get (hσ _ hi).1 hr] at hx
  obtain ⟨v, hv, hr2⟩ := hp _ x hx
  refine ⟨v, ?_, hr2⟩
  rw [Array.getElem?_toList, ← et, hc _ _ hi hr]
  simpa using hv

/-! ### the sort -/
theorem len_1 {α : Type} [Enc α 1] (l : List α) : (cellsL l).length = l.length := by rw [cellsL_len, Nat.mul_one]
theorem putRow_map {β : Type} [Inhabited β] (enc : β → Value) (w : World) (b : Nat) (d : Array β) : Sort.putRow enc w b 0 d = Sort.putRow id w b 0 (d.map enc) := by
  unfold Sort.putRow
  refine Sort.mapBlock_congr w b _ _ fun c e fr _ => ?_
  unfold Sort.putCells
  apply Array.ext_getElem?
  intro j
  simp only [Array.getElem?_mapIdx, Array.size_map, Nat.zero_le, true_and, Nat.zero_add, Nat.sub_zero]
  by_cases hj : j < d.size
  · simp only [hj, if_true, id]
    rw [getElem!_pos d j hj, getElem!_pos (d.map enc) j (by simpa using hj)]; simp
  · simp only [hj, if_false]
theorem sort_lists {α : Type} {k : Nat} [Enc α k] {m : Nat} (l : List α) (hm : l.length = m + 1) (cf : α → α → Int) (d' : Array (Fin (m + 1)))
    (hp : Sort.PermIn 0 (Array.ofFn (n := m + 1) id).size (Array.ofFn (n := m + 1) id) d') (hs : Sort.SortedIn (ltOf fun i j : Fin (m + 1) => cf (nth l i) (nth l j)) 0 (Array.ofFn (n := m + 1) id).size d') :
    (d'.toList.map fun i : Fin (m + 1) => nth l i).Perm l ∧ (d'.toList.map fun i : Fin (m + 1) => nth l i).Pairwise (fun x y => ¬ cf y x < 0) ∧ d'.size = l.length := by
  have hsz : d'.size = m + 1 := by have := hp.1; simpa using this
  have hperm : d'.toList.Perm (Array.ofFn (n := m + 1) id).toList := by
    have := hp.2.2
    rw [Array.extract_size] at this
    have e : d'.extract 0 (Array.ofFn (n := m + 1) id).size = d' := by
      rw [show (Array.ofFn (n := m + 1) (id : Fin (m + 1) → Fin (m + 1))).size = d'.size by simp [hsz], Array.extract_size]
    rwa [e] at this
  refine ⟨?_, ?_, by omega⟩
  · refine (hperm.map _).trans ?_
    have : (Array.ofFn (n := m + 1) id).toList.map (fun i : Fin (m + 1) => nth l i) = l := by
      apply List.ext_getElem
      · simp [hm]
      · intro i h1 h2
        simp only [List.getElem_map, Array.getElem_toList, Array.getElem_ofFn, id]
        rw [nth_eq h2]
    rw [this]
  · rw [List.pairwise_iff_getElem]
    intro i j hi hj hij
    simp only [List.length_map, Array.length_toList] at hi hj
    have h := hs i j (Nat.zero_le _) hij (by simp; omega)
    rw [getElem!_pos d' i hi, getElem!_pos d' j hj] at h
    simp only [ltOf, decide_eq_false_iff_not] at h
    simpa using h
theorem swo_pull {α β : Type} {cf : α → α → Int} (h : Sort.SWO (ltOf cf)) (f : β → α) : Sort.SWO (ltOf fun i j => cf (f i) (f j)) where
  irrefl x := h.irrefl (f x)
  trans x y z a b := h.trans (f x) (f y) (f z) a b
  ntrans x y z a b := h.ntrans (f x) (f y) (f z) a b

section
variable {P : Program} {ρ : Ren} {α : Type} {S0 : St} {Lr : List (Option Ob)} {K : AV → St → Prop}
/-- slices.SortFunc at elements of one cell. -/
theorem sort1_call [E : Enc α 1] (L : SlLaysF.n6 P ρ) (hf : ∃ fn, P.funcs[ρ.f 6]? = some fn ∧ (fn.name == "runtime.NumGoroutine") = false ∧ fn.body.isNone = false)
    (cf : α → α → Int) (hO : Sort.SWO (ltOf cf)) {g : FuncId} {caps : List AV} (hcaps : ∀ c ∈ caps, AV.Still c) {j e tot n : Nat} (l : List α) (hrow : rowAt Lr j tot = some (e, 1, cellsL l)) (hn : n = l.length)
    (hc : ∀ x ∈ l, ∀ y ∈ l, Fn P g (valA x :: valA y :: caps) (intA (cf x y)))
    (hK : ∀ l' : List α, l'.Perm l → l'.Pairwise (fun x y => ¬ cf y x < 0) → K (.tup []) (S0.stk (Lr.set j (rowO e l')))) : callS P (ρ.f 6) [.ref (S0.nm j) tot 0 n, .clo g caps] (S0.stk Lr) K () := by
  refine ⟨hf, fun G vs g1 g2 g3 => ?_⟩
  obtain ⟨hL, htot⟩ := rowAt_get hrow
  have hjl : j < Lr.length := (List.getElem?_eq_some_iff.1 hL).1
  have hrow' : G.S.row? (S0.nm j) tot = some (e, 1, cellsL l) := by rw [g1, stk_row]; exact hrow
  have hm : G.S.m (S0.nm j) = some (.row e 1 (cellsL l)) := (row?_some hrow').1
  simp only [Rvs] at g3
  obtain ⟨u, _, rfl, hu, fv, _, rfl, hfv, rfl⟩ := g3
  simp only [Rv] at hfv hu
  obtain ⟨cvs, rfl, hcvs⟩ := hfv
  have empty : l.length = 0 → ∀ (p : Option Addr) (cap : Nat), u = .slice p 0 cap → Calls P (ρ.f 6) [u, .func (.func g) #[] cvs.toArray].toArray G.w fun e w' => ∃ (G' : Ctx) (r : AV) (v : Value), e = .returned v ∧ G'.w = w' ∧ Rel G' ∧ Step G G' ∧ Rv G' r v ∧ K r G'.S := by
    intro h0 p cap hu0
    subst hu0
    refine (AnyF.slices_SortFunc_none (P := P) (ρ := ρ) { L with } p cap (.func (.func g) #[] cvs.toArray) G.w).mono ?_
    rintro e' w' ⟨rfl, rfl⟩
    refine ⟨G, .tup [], _, rfl, rfl, g2, Step.refl G, by simp only [Rv]; exact ⟨[], rfl, by simp only [Rvs]⟩, ?_⟩
    have hl0 : l = [] := List.eq_nil_of_length_eq_zero h0
    have := hK l (List.Perm.refl _) (by rw [hl0]; simp)
    have hset : Lr.set j (rowO e l) = Lr := by
      apply List.ext_getElem?
      intro i
      by_cases hi : i = j
      · subst hi; rw [List.getElem?_set_self hjl, hL]
      · rw [List.getElem?_set_ne (Ne.symm hi)]
    rw [hset, ← g1] at this
    exact this
  rcases ref_real hu hrow' with ⟨_, h1, _, h2, rfl⟩ | ⟨b, c, cap, hb, hcl, hu2, hn2, hfit, hfit2⟩
  · exact empty (by omega) none 0 rfl
  · rcases hu2 with rfl | ⟨_, h2, h3, _⟩
    · by_cases h0 : l.length = 0
      · exact empty h0 (some ⟨b, 0, none⟩) cap (by rw [hn, h0])
      · obtain ⟨m, hm1⟩ : ∃ m, l.length = m + 1 := ⟨l.length - 1, by omega⟩
        obtain ⟨c', hc', hsz, hat⟩ := row_block g2 hm hb
        simp only at hcl
        rw [hcl] at hc'; cases hc'
        have hpre := hat.pre hcl
        have hcs : m + 1 ≤ c.size := by rw [len_1] at hsz; omega
        have hbl := owned_lt g2 ⟨S0.nm j, ⟨⟨_, hm⟩, hb⟩⟩
        have hel : ∀ i : Fin (m + 1), Rv G (valA (nth l i)) (c[i.val]!) ∧ (c[i.val]!).oneCell' = true := fun i => by
          have hi : i.val < l.length := by omega
          have hget := get_1 hi
          have hlen := Enc.len (nth l i.val)
          have hst := Enc.still (nth l i.val)
          cases hcells : Enc.cells (nth l i.val) with
          | nil => rw [hcells] at hlen; simp at hlen
          | cons x xs =>
            rw [hcells] at hget hst
            obtain ⟨v, hv, hr⟩ := hpre i.val x (by rw [hget]; rfl)
            rw [Nat.zero_add] at hv
            have hci : c[i.val]! = v := by rw [getElem!_pos c i.val (by omega)]; rw [Array.getElem?_eq_getElem (by omega)] at hv; exact Option.some.inj hv
            have hva : valA (nth l i.val) = x := by unfold valA; rw [if_pos rfl, hcells]; rfl
            rw [hci, hva]
            exact ⟨hr, (one_of hr (hst x (by simp)).one).1⟩
        have hmove : ∀ (mm : Nat) (os : Array Obj) (dk : Array (Fin (m + 1))) (b' : Nat), G.old b' → (bareC (sortWorld (fun i : Fin (m + 1) => c[i.val]!) G.w b 0 mm dk os)).old b' ∧ (bareC (sortWorld (fun i : Fin (m + 1) => c[i.val]!) G.w b 0 mm dk os)).w.heap[b']? = G.w.heap[b']? := by
          intro mm os dk b' hb'
          have hne : b' ≠ b := fun e => hb'.2 ⟨S0.nm j, ⟨⟨_, hm⟩, by rw [e]; exact hb⟩⟩
          have e1 : sortWorld (fun i : Fin (m + 1) => c[i.val]!) G.w b 0 mm dk os = Sort.grow (Sort.putRow id (Sort.ahead G.w mm) b 0 (dk.map fun i : Fin (m + 1) => c[i.val]!)) os := by
            unfold sortWorld; rw [putRow_map]
          obtain ⟨p1, p2, p3⟩ := putRow_heap G.w mm b (dk.map fun i : Fin (m + 1) => c[i.val]!) hcl
          have hlt : b' < (Sort.putRow id (Sort.ahead G.w mm) b 0 (dk.map fun i : Fin (m + 1) => c[i.val]!)).heap.size := by rw [p3]; exact hb'.1
          rw [e1]
          refine ⟨bareC_old _ b' (by simp [Sort.grow]; omega), ?_⟩
          show (Sort.grow _ os).heap[b']? = _
          simp only [Sort.grow]
          rw [Array.getElem?_append_left hlt, p2 b' hne]
        have hcmp : CmpLays1 P g cvs.toArray (fun i : Fin (m + 1) => c[i.val]!) (fun i j : Fin (m + 1) => cf (nth l i) (nth l j)) b 0 (Array.ofFn (n := m + 1) id).size G.w := fun mm os dk _ x y => by
          have hfn := hc (nth l x) (nth_mem (by omega)) (nth l y) (nth_mem (by omega))
          have hvs : Rvs (bareC (sortWorld (fun i : Fin (m + 1) => c[i.val]!) G.w b 0 mm dk os)) (valA (nth l x) :: valA (nth l y) :: caps) (c[x.val]! :: c[y.val]! :: cvs) := by
            simp only [Rvs]
            exact ⟨_, _, rfl, Rv.bare (hmove mm os dk) _ _ (valA_bel _ 0) (hel x).1, _, _, rfl, Rv.bare (hmove mm os dk) _ _ (valA_bel _ 0) (hel y).1, Rvs.bare (hmove mm os dk) _ _ (bels_iff.2 fun z hz => (hcaps z hz).bel 0) hcvs⟩
          have := cmp_world hfn hvs
          have ea : (c[x.val]! :: c[y.val]! :: cvs).toArray = #[c[x.val]!, c[y.val]!] ++ cvs.toArray := by simp
          rwa [ea] at this
        have heg : ∀ args w, (callFunc g args).run P w = .ok (.enter g args) w := fun args w => by
          have x0 : nth l 0 ∈ l := nth_mem (by omega)
          obtain ⟨fn, q1, q2, q3⟩ := ((hc _ x0 _ x0).2 (bareC w).S).1
          exact enter_ok q1 q2 q3 args w
        have hH : Sort.Holds (fun i : Fin (m + 1) => c[i.val]!) G.w b 0 (Array.ofFn (n := m + 1) id) := fun i hi => by
          simp only [Array.size_ofFn] at hi
          have hic : i < c.size := by omega
          refine ⟨?_, by simp [World.frozen?, hcl]⟩
          simp only [World.cell?, hcl, Nat.zero_add, Option.isSome_none, Bool.false_eq_true, if_false]
          rw [getElem!_pos (Array.ofFn (n := m + 1) id) i (by simpa using hi)]
          simp [hic]
        have hbig : l.length ≤ 281474976710656 := by have := (g2.ok _ _ hm).1; rw [len_1] at this; exact this
        have hcon := Any.slices_SortFunc L (fun i : Fin (m + 1) => c[i.val]!) (fun i => (hel i).2) (fun i j : Fin (m + 1) => cf (nth l i) (nth l j)) (swo_pull hO fun i : Fin (m + 1) => nth l i) g cvs.toArray b 0 cap (Array.ofFn (n := m + 1) id) G.w heg hcmp hH hbl (by simp; omega)
        have en : (Array.ofFn (n := m + 1) (id : Fin (m + 1) → Fin (m + 1))).size = n := by simp; omega
        rw [show (Value.slice (some ⟨b, 0, none⟩) (Array.ofFn (n := m + 1) (id : Fin (m + 1) → Fin (m + 1))).size cap) = .slice (some ⟨b, 0, none⟩) n cap by rw [en]] at hcon
        refine Calls.mono hcon ?_
        rintro e' w' ⟨rfl, d', nn, os, hp, hs, rfl⟩
        obtain ⟨s1, s2, s3⟩ := sort_lists l hm1 cf d' hp hs
        have hll : (d'.toList.map fun i : Fin (m + 1) => nth l i).length = l.length := by simp [s3]
        have hv : Rvs G (cellsL (d'.toList.map fun i : Fin (m + 1) => nth l i)) (d'.map fun i : Fin (m + 1) => c[i.val]!).toList := by
          refine perm_rvs hpre (fun i => if h : i < d'.size then (d'[i]).val else 0) (fun i hi => ?_) (by simp) (fun i r hi hr => ?_)
          · have hi' : i < d'.size := by omega
            simp only [hi', dif_pos]
            refine ⟨by omega, ?_⟩
            rw [nth_eq hi]; simp
          · have hi' : i < d'.size := by omega
            have hr0 : r = 0 := by omega
            subst hr0
            simp only [hi', dif_pos, Nat.mul_one, Nat.add_zero, Array.getElem?_map]
            rw [Array.getElem?_eq_getElem hi', Option.map_some, getElem!_pos c _ (by omega), Array.getElem?_eq_getElem (by omega)]
        have e1 : sortWorld (fun i : Fin (m + 1) => c[i.val]!) G.w b 0 nn d' os = Sort.grow (Sort.putRow id (Sort.ahead G.w nn) b 0 (d'.map fun i : Fin (m + 1) => c[i.val]!)) os := by
          unfold sortWorld; rw [putRow_map]
        obtain ⟨G', w1, w2, w3, w4⟩ := sorted_ctx g2 hm hb hcl (by rw [len_1, len_1, hll]) hsz hv nn os
        rw [e1]
        refine ⟨G', .tup [], _, rfl, w1, w2, w3, by simp only [Rv]; exact ⟨[], rfl, by simp only [Rvs]⟩, ?_⟩
        have := hK _ s1 s2
        rw [w4, g1, stk_setL S0 _ hjl]
        exact this
    · omega
/-- slices.SortFunc of a slice with nothing in it, at elements of one cell. -/
theorem sortE_call (L : SlLaysF.n6 P ρ) (hf : ∃ fn, P.funcs[ρ.f 6]? = some fn ∧ (fn.name == "runtime.NumGoroutine") = false ∧ fn.body.isNone = false) {g : FuncId} {caps : List AV} {S : St} (hK : K (.tup []) S) : callS P (ρ.f 6) [.ro 0 [], .clo g caps] S K () := by
  refine ⟨hf, fun G vs g1 g2 g3 => ?_⟩
  simp only [Rvs] at g3
  obtain ⟨u, _, rfl, hu, fv, _, rfl, hfv, rfl⟩ := g3
  simp only [Rv] at hfv hu
  obtain ⟨cvs, rfl, hcvs⟩ := hfv
  obtain ⟨p, cap, rfl, _⟩ := hu
  refine (AnyF.slices_SortFunc_none (P := P) (ρ := ρ) { L with } p cap (.func (.func g) #[] cvs.toArray) G.w).mono ?_
  rintro e' w' ⟨rfl, rfl⟩
  exact ⟨G, .tup [], _, rfl, rfl, g2, Step.refl G, by simp only [Rv]; exact ⟨[], rfl, by simp only [Rvs]⟩, by rw [g1]; exact hK⟩
end
end Go.Proofs.Ytpfoflhhbkjngaa.Ev
