/- Each operation does what 'swp' says (third half: what makes memory). -/
import Derived.Test.YtfihpbeihlpfcaaZEvE
set_option linter.unusedVariables false
set_option linter.unusedSimpArgs false
namespace Go.Proofs.Ytfihpbeihlpfcaa.Ev
open Go Go.RowKit
section
variable {P : Program} {G : Ctx} {K : AV → St → Prop}

theorem St.set_self {S : St} {l : Nat} {o : Ob} (h : S.m l = some o) : S.set l o = S := by
  cases S with
  | mk m n =>
    simp only [St.set]
    congr 1
    funext l'
    by_cases e : l' = l
    · subst e; simpa using h.symm
    · simp [e]

theorem ref_new (hR : Rel G) {c : Array Value} {e k n : Nat} {cs : List AV} (hR' : Rel (G.add (.cells c e) (.row e k cs))) (hn : n * k = cs.length) (hn2 : n ≤ 9223372036854775807) {cap : Nat} (hc : n ≤ cap) (hcap : cap * k ≤ c.size) :
    RefFact (G.add (.cells c e) (.row e k cs)) G.S.n cs.length 0 n (.slice (some ⟨G.w.heap.size, 0, none⟩) n cap) := by
  refine ⟨by simp [Ctx.add, St.add], ⟨_, _, _, rfl⟩, fun e' k' cs' hm => ?_⟩
  have : some (Ob.row e k cs) = some (Ob.row e' k' cs') := by rw [← hm]; simp [Ctx.add, St.add]
  cases this
  refine ⟨Nat.le_refl _, fun _ => .inr ⟨G.w.heap.size, c, cap, by simp [Ctx.add], heap_alloc_eq _ _, .inl rfl, ⟨hc, hn2⟩, by omega, ?_⟩⟩
  have := Nat.mul_le_mul_right k hc
  omega

theorem ptr_new {c : Array Value} {e k : Nat} {cs : List AV} (off : Nat) : PtrFact (G.add (.cells c e) (.row e k cs)) G.S.n cs.length off (.pointer (some ⟨G.w.heap.size, off, none⟩)) := by
  refine ⟨by simp [Ctx.add, St.add], ⟨_, rfl⟩, fun e' k' cs' hm => ?_⟩
  have : some (Ob.row e k cs) = some (Ob.row e' k' cs') := by rw [← hm]; simp [Ctx.add, St.add]
  cases this
  exact ⟨Nat.le_refl _, fun _ => ⟨_, by simp [Ctx.add], rfl⟩⟩

theorem rvs_sc (zs : List Value) : Rvs G (zs.map .sc) zs := rvs_iff.2 ⟨by simp, fun j x hx => by
  simp only [List.getElem?_map, Option.map_eq_some_iff] at hx
  obtain ⟨v, hv, rfl⟩ := hx
  exact ⟨v, hv, by simp [Rv]⟩⟩

theorem ok_alloc (hR : Rel G) {e : TypeId} {zs : List Value} (hz : zeroCellsOf P e = some zs)
    (hl : zs.length ≤ 281474976710656) (hK : K (.ptr G.S.n zs.length 0) (G.S.add (.row e (P.cellsOf e) (zs.map .sc)))) :
    ∃ v w', (Instr.alloc e true (.tuple #[])).run P G.w = .ok v w' ∧ Left G K v w' := by
  unfold zeroCellsOf at hz
  cases hi : P.info? e with
  | none => simp [hi] at hz
  | some i =>
    cases hq : i.zero with
    | none => simp [hi, hq] at hz
    | some z =>
      simp [hi, hq] at hz
      have hz' : z.cells = zs.toArray := by rw [← hz]
      have hp : Pre G (zs.map .sc) zs.toArray 0 := (rvs_sc zs).pre
      have hR' := add_row (k := P.cellsOf e) (e := e) hR zs.toArray (zs.map .sc) (by simpa using hl) hp (by simp)
      refine ⟨_, _, by simp [Instr.alloc, zeroValue, typeInfo, hi, hq, newVar, newRow, hz']; exact ⟨rfl, rfl⟩, _, _, ?_, hR', add_step hR _ _, ?_, hK⟩
      · rfl
      · simp only [Rv]
        have := ptr_new (G := G) (c := zs.toArray) (e := e) (k := P.cellsOf e) (cs := zs.map .sc) 0
        simpa using this

theorem ok_box (hR : Rel G) {e : TypeId} {x : AV} {u : Value} (hx : Rv G x u)
    (h : orK (cellsOf x) fun cs => cs.length ≤ 281474976710656 ∧ K (.ptr G.S.n cs.length 0) (G.S.add (.row e (P.cellsOf e) cs))) :
    ∃ v w', (Instr.box e u).run P G.w = .ok v w' ∧ Left G K v w' := by
  obtain ⟨cs, hcs, hl, hK⟩ := orK_elim h
  obtain ⟨vs, h1, h2, h3, _⟩ := cellsOf_some hcs hx
  have hR' := add_row (k := P.cellsOf e) (e := e) hR vs.toArray cs hl h2.pre (by simp [(rvs_iff.1 h2).1])
  refine ⟨_, _, by simp [Instr.box, newVar, newRow, h1]; exact ⟨rfl, rfl⟩, _, _, rfl, hR', add_step hR _ _, ?_, hK⟩
  simp only [Rv]
  exact ptr_new 0

/-! ### parts put together -/
theorem zip_fold (vs : List Value) : ∀ (off i : Nat) (cs : Array Value), off + i + vs.length ≤ cs.size →
    (vs.zipIdx i).foldl (fun cs (c, j) => cs.setIfInBounds (off + j) c) cs = (cs.toList.take (off + i) ++ vs ++ cs.toList.drop (off + i + vs.length)).toArray := by
  induction vs with
  | nil => intro off i cs h; simp
  | cons v vs ih =>
    intro off i cs h
    simp only [List.zipIdx_cons, List.foldl_cons]
    rw [ih off (i + 1) _ (by simp at h ⊢; omega)]
    have := list_seg_step cs.toList (off + i) v vs (by simp at h ⊢; omega)
    simp only [Array.toList_setIfInBounds, ← Nat.add_assoc] at this ⊢
    rw [this]
    congr 3
    try (simp only [List.length_cons]; omega)

theorem fill_ok {place : Nat → Option (Nat × Nat)} : ∀ (ps : List (Nat × Value)) (qs : List (Nat × Nat × AV)) (cs cs' : List AV) (vs : List Value),
    ps.length = qs.length → (∀ (j : Nat) (p : Nat × Value) (q : Nat × Nat × AV), ps[j]? = some p → qs[j]? = some q → place p.1 = some (q.1, q.2.1) ∧ Rv G q.2.2 p.2) → Rvs G cs vs → fillA cs qs = some cs' →
    ∃ vs' : List Value, Instr.fill place vs.toArray ps = some vs'.toArray ∧ Rvs G cs' vs'
  | [], [], cs, cs', vs, _, _, hs, hf => by simp [fillA] at hf; subst hf; exact ⟨vs, rfl, hs⟩
  | [], q :: qs, _, _, _, hl, _, _, _ => by simp at hl
  | p :: ps, [], _, _, _, hl, _, _, _ => by simp at hl
  | (i, v) :: ps, (off, k, x) :: qs, cs, cs', vs, hl, hp, hs, hf => by
    obtain ⟨h1, h2⟩ := hp 0 (i, v) (off, k, x) (by simp) (by simp)
    simp only [fillA] at hf
    cases hq : cellsOf x with
    | none => simp [hq] at hf
    | some xs =>
      simp only [hq] at hf
      split at hf
      · rename_i hc
        obtain ⟨us, u1, u2, _, _⟩ := cellsOf_some hq h2
        have hlu := (rvs_iff.1 u2).1
        have hlv := (rvs_iff.1 hs).1
        have hnew : Rvs G (cs.take off ++ xs ++ cs.drop (off + k)) (vs.take off ++ us ++ vs.drop (off + k)) := by
          rw [← hc.1]
          have hpre := pre_splice (off := off) hs.pre u2 (by omega) (by simp; omega)
          refine rvs_iff.2 ⟨by simp; omega, fun j x hx => ?_⟩
          obtain ⟨w, hw, hr⟩ := hpre j x hx
          exact ⟨w, by simpa [hlu] using hw, hr⟩
        obtain ⟨vs', g1, g2⟩ := fill_ok ps qs _ cs' _ (by simpa using hl) (fun j p q a b => hp (j + 1) p q (by simpa using a) (by simpa using b)) hnew hf
        refine ⟨vs', ?_, g2⟩
        simp only [Instr.fill, h1]
        have hsz : v.cells.size = k := by rw [u1]; simp; omega
        rw [if_neg (by rw [hsz]; simp; omega)]
        rw [← g1]
        congr 1
        have hz := zip_fold us off 0 vs.toArray (by simp; omega)
        simp only [Nat.add_zero] at hz
        rw [u1]
        rw [← Array.foldl_toList, Array.toList_zipIdx]
        rw [show k = us.length by omega]
        exact hz
      · cases hf

theorem zeros_ok {P : Program} {t : TypeId} {zs : List Value} (hz : zeroCellsOf P t = some zs) (w : World) : ∃ z : Value, (zeroValue t).run P w = .ok z w ∧ z.cells = zs.toArray := by
  unfold zeroCellsOf at hz
  cases hi : P.info? t with
  | none => simp [hi] at hz
  | some i =>
    cases hq : i.zero with
    | none => simp [hi, hq] at hz
    | some z =>
      simp [hi, hq] at hz
      exact ⟨z, by simp [zeroValue, typeInfo, hi, hq], by rw [← hz]⟩

theorem zcells_ok (zs : List Value) (n : Nat) : ∃ vs : List Value, ((Array.range n).map (zs.toArray[· % zs.toArray.size]!)) = vs.toArray ∧ Rvs G (zcells zs n) vs := by
  refine ⟨(List.range n).map fun i => zs[i % zs.length]!, ?_, ?_⟩
  · apply Array.ext'
    simp
  · refine rvs_iff.2 ⟨by simp [zcells], fun j x hx => ?_⟩
    simp only [zcells, List.getElem?_map, Option.map_eq_some_iff] at hx ⊢
    obtain ⟨v, hv, rfl⟩ := hx
    exact ⟨_, ⟨v, hv, rfl⟩, by simp [Rv]⟩

theorem ok_mksl (hR : Rel G) {t e : TypeId} {zs : List Value} {x y : AV} {u v : Value} {n c : Int} (ht : P.underlying t = some (.slice e)) (hh : has P e = true) (hz : zeroCellsOf P e = some zs)
    (hx : Rv G x u) (hy : Rv G y v) (hn : intOfAV x = some n) (hc : intOfAV y = some c)
    (h0 : 0 ≤ n) (h1 : n ≤ c) (h2 : c * P.bytesOf e ≤ 281474976710656) (h2' : c ≤ 281474976710656) (h3 : n.toNat * P.cellsOf e ≤ 281474976710656)
    (hK : K (.ref G.S.n (n.toNat * P.cellsOf e) 0 n.toNat) (G.S.add (.row e (P.cellsOf e) (zcells zs (n.toNat * P.cellsOf e))))) :
    ∃ v' w', (Instr.makeSlice t u v).run P G.w = .ok v' w' ∧ Left G K v' w' := by
  obtain ⟨k1, rfl⟩ := intOf_some hn hx
  obtain ⟨k2, rfl⟩ := intOf_some hc hy
  obtain ⟨i, hi⟩ := Option.isSome_iff_exists.1 hh
  obtain ⟨z, hz1, hz2⟩ := zeros_ok hz G.w
  have hb : P.bytesOf e = i.bytes := by simp [Program.bytesOf, hi]
  have hs : P.cellsOf e = i.size := by simp [Program.cellsOf, hi]
  have wn : IntKind.i64.wrap n = n := by
    simp only [IntKind.wrap, IntKind.bits, IntKind.signed]
    have : (0:Int) ≤ n ∧ n < 2 ^ 63 := by omega
    simp; omega
  have wc : IntKind.i64.wrap c = c := by
    simp only [IntKind.wrap, IntKind.bits, IntKind.signed]
    simp; omega
  have hbig : ¬ (c < 0 ∨ 281474976710656 < (i.bytes : Int) * c) := by rw [hb] at h2; rw [Int.mul_comm]; omega
  obtain ⟨vs, hv1, hv2⟩ := zcells_ok (G := G) zs (c.toNat * P.cellsOf e)
  have hvl := (rvs_iff.1 hv2).1
  have hvl' : vs.length = c.toNat * P.cellsOf e := by rw [← hvl]; simp [zcells]
  have hle : n.toNat * P.cellsOf e ≤ c.toNat * P.cellsOf e := Nat.mul_le_mul_right _ (by omega)
  have hpre : Pre G (zcells zs (n.toNat * P.cellsOf e)) vs.toArray 0 := fun j x hx => by
    have : (zcells zs (c.toNat * P.cellsOf e))[j]? = some x := by
      simp only [zcells, List.getElem?_map, Option.map_eq_some_iff] at hx ⊢
      obtain ⟨q, hq, rfl⟩ := hx
      have hj : j < n.toNat * P.cellsOf e := by
        rcases Nat.lt_or_ge j (n.toNat * P.cellsOf e) with h | h
        · exact h
        · rw [List.getElem?_eq_none (by simpa using h)] at hq; cases hq
      refine ⟨q, ?_, rfl⟩
      rw [List.getElem?_range (by omega)] at hq ⊢
      exact hq
    exact hv2.pre j x this
  have hR' := add_row (k := P.cellsOf e) (e := e) hR vs.toArray (zcells zs (n.toNat * P.cellsOf e)) (by simpa [zcells] using h3) hpre (by simp [zcells]; omega)
  refine ⟨.slice (some ⟨G.w.heap.size, 0, none⟩) n.toNat c.toNat, G.w.alloc (.cells vs.toArray e), ?_, _, _, rfl, hR', add_step hR _ _, ?_, hK⟩
  · have hne : ¬ (c < 0) := by omega
    have hnl : ¬ (n < 0) := by omega
    have hnc : ¬ (c < n) := by omega
    have hbb : ¬ (281474976710656 < (i.bytes : Int) * c) := by omega
    have r0 : ∀ f : Nat → Value, (Array.range 0).map f = #[] := fun f => by apply Array.eq_empty_of_size_eq_zero; simp
    simp only [Instr.makeSlice, Sem.run_bind, run_underlying ht, Result.andThen_ok, asInt, asIntOf, typeInfo, sizeOf, hi, wn, wc, run_program, Sem.run_pure, run_askRoom]
    rw [if_neg (by simp [hne, hnl, hnc]; omega)]
    by_cases hz0 : c.toNat * i.size = 0
    · have : vs = [] := List.eq_nil_of_length_eq_zero (by rw [hvl', hs]; exact hz0)
      subst this
      simp [hi, hz0, newRow, r0]
      try rfl
    · rw [hs] at hv1
      simp only [Sem.run_bind, run_program, Result.andThen_ok, hi, Sem.run_pure, run_askRoom, hz0, if_false, hz1, hz2, hv1, newRow, run_newObj]
      rfl
  · simp only [Rv]
    have := ref_new (n := n.toNat) (cap := c.toNat) (k := P.cellsOf e) hR hR' (by simp [zcells]) (by omega) (by omega) (by simp [hvl'])
    simpa [zcells] using this

/-! ### append -/
theorem src_ok (hR : Rel G) {k : Nat} {x : AV} {u : Value} {src : Nat × List AV} (hk : 0 < k) (hs : srcOf G.S k x = some src) (hx : Rv G x u) :
    src.2.length = src.1 * k ∧ ∃ a c, u = .slice a src.1 c ∧ (src.1 = 0 ∨ ∃ ad, a = some ad ∧ ∃ vs : List Value, Rvs G src.2 vs ∧ ∀ (j : Nat) (v : Value), vs[j]? = some v → G.w.cell? (ad.add j) = some v) := by
  cases x with
  | ro n cs =>
    simp only [srcOf] at hs
    split at hs
    · rename_i hl
      cases hs
      refine ⟨hl, ?_⟩
      simp only [Rv] at hx
      obtain ⟨a, c, rfl, hc, hn, hc0, hcs⟩ := hx
      refine ⟨a, c, rfl, ?_⟩
      rcases hcs with rfl | ⟨b, off, rfl, ho, hat⟩
      · left
        have : n * k = 0 := by simpa using hl.symm
        rcases Nat.mul_eq_zero.1 this with h | h
        · exact h
        · omega
      · right
        obtain ⟨vs, e1, e2, e3⟩ := rvs_of_rat hat 0 cs.length (by omega)
        exact ⟨_, rfl, vs, by simpa using e2, fun j v hv => by rw [add_lit']; simpa using e3 j v hv⟩
    · cases hs
  | sc w =>
    have hu := scR hx
    rw [hu]
    clear hx hu
    cases w with
    | slice a n c =>
      cases a with
      | none =>
        cases n with
        | zero =>
          simp only [srcOf] at hs
          cases hs
          exact ⟨by simp, _, _, rfl, .inl rfl⟩
        | succ n => simp [srcOf] at hs
      | some a => simp [srcOf] at hs
    | _ => simp [srcOf] at hs
  | ref l tot off n =>
    simp only [srcOf] at hs
    split at hs
    · rename_i r1 r2 cs hr
      split at hs
      · rename_i hl
        cases hs
        refine ⟨by simp; omega, ?_⟩
        simp only [Rv] at hx
        obtain ⟨hm, htot⟩ := row?_some hr
        rcases ref_real hx hr with ⟨m0, e0, rfl, rfl, rfl⟩ | ⟨b, c, cap, hb, hc, hu, hn, hf, hf2⟩
        · exact ⟨none, 0, rfl, .inl rfl⟩
        · rcases hu with rfl | ⟨rfl, rfl, _, o', rfl⟩
          · refine ⟨_, _, rfl, .inr ⟨_, rfl, ?_⟩⟩
            obtain ⟨c', hc', hsz, hat⟩ := row_block hR hm hb
            obtain ⟨vs, e1, e2, e3⟩ := rvs_of_rat hat off (n * k) hl
            exact ⟨vs, e2, fun j v hv => by rw [add_lit']; simpa using e3 j v hv⟩
          · exact ⟨_, _, rfl, .inl rfl⟩
      · cases hs
    · cases hs
  | _ => simp [srcOf] at hs

theorem oneAll {cs : List AV} {vs : List Value} (hs : Rvs G cs vs) (ha : cs.all AV.one = true) : ∀ u ∈ vs, u.oneCell' = true := fun u hu => by
  obtain ⟨hl, hj⟩ := rvs_iff.1 hs
  obtain ⟨j, hjl, rfl⟩ := List.getElem_of_mem hu
  obtain ⟨v', e, hr⟩ := hj j (cs[j]'(by omega)) (by simp [show j < cs.length by omega])
  simp [hjl] at e
  subst e
  exact (one_of hr (List.all_eq_true.1 ha _ (List.getElem_mem _))).1

theorem rvs_append {a b : List AV} {us vs : List Value} (h : Rvs G a us) (k : Rvs G b vs) : Rvs G (a ++ b) (us ++ vs) := by
  obtain ⟨h1, h2⟩ := rvs_iff.1 h
  obtain ⟨k1, k2⟩ := rvs_iff.1 k
  refine rvs_iff.2 ⟨by simp [h1, k1], fun j x hx => ?_⟩
  rw [List.getElem?_append] at hx ⊢
  rw [← h1]
  split at hx
  · rename_i hj; simp only [hj, if_true]; exact h2 j x hx
  · rename_i hj; simp only [hj, if_false]; exact k2 _ x hx

theorem ref_moved {c : Array Value} {l e k n : Nat} {cs : List AV} (hl : l < G.S.n) (hn : n * k = cs.length) (hn2 : n ≤ 9223372036854775807) {cap : Nat} (hc : n ≤ cap) (hcap : cap * k ≤ c.size) :
    RefFact (G.move (.cells c e) l (.row e k cs)) l cs.length 0 n (.slice (some ⟨G.w.heap.size, 0, none⟩) n cap) := by
  refine ⟨hl, ⟨_, _, _, rfl⟩, fun e' k' cs' hm => ?_⟩
  have : some (Ob.row e k cs) = some (Ob.row e' k' cs') := by rw [← hm]; simp [Ctx.move, St.set]
  cases this
  refine ⟨Nat.le_refl _, fun _ => .inr ⟨G.w.heap.size, c, cap, by simp [Ctx.move], heap_alloc_eq _ _, .inl rfl, ⟨hc, hn2⟩, by omega, ?_⟩⟩
  have := Nat.mul_le_mul_right k hc
  omega

theorem pre_prefix {cs : List AV} {vs : List Value} {rest : Array Value} (h : Rvs G cs vs) : Pre G cs (vs.toArray ++ rest) 0 := fun j x hx => by
  obtain ⟨hl, hj⟩ := rvs_iff.1 h
  obtain ⟨v, hv, hr⟩ := hj j x hx
  refine ⟨v, ?_, hr⟩
  have : j < vs.length := (List.getElem?_eq_some_iff.1 hv).1
  simp only [Nat.zero_add]
  rw [Array.getElem?_append_left (by simpa using this)]
  simpa using hv

theorem ok_app (hR : Rel G) {t e ty : TypeId} {x y : AV} {u v : Value} {src : Nat × List AV} (ht : P.underlying t = some (.slice e)) (hh : has P e = true) (hz : ((P.info? e).bind (·.zero)).isSome = true)
    (hx : Rv G x u) (hy : Rv G y v) (hk : 0 < P.cellsOf e) (hsrc : srcOf G.S (P.cellsOf e) y = some src)
    (hzs : ∀ i z, P.info? e = some i → i.zero = some z → z.cells.size = P.cellsOf e)
    (h : (match (generalizing := false) x with
    | .ref l tot off n => orK (G.S.row? l tot) fun r =>
        off = 0 ∧ r.1 = e ∧ r.2.1 = P.cellsOf e ∧ 0 < P.cellsOf e ∧ 0 < P.bytesOf e ∧ src.2.all AV.one = true ∧ n * P.cellsOf e ≤ tot ∧ (n + src.1) * P.bytesOf e ≤ 140737488355328 ∧ (n + src.1) * P.cellsOf e ≤ 281474976710656 ∧
        ((n + src.1) * P.cellsOf e ≤ tot → K (.ref l tot 0 (n + src.1)) (G.S.set l (.row e (P.cellsOf e) (r.2.2.take (n * P.cellsOf e) ++ src.2 ++ r.2.2.drop ((n + src.1) * P.cellsOf e))))) ∧
        (tot < (n + src.1) * P.cellsOf e → K (.ref l ((n + src.1) * P.cellsOf e) 0 (n + src.1)) (G.S.set l (.row e (P.cellsOf e) (r.2.2.take (n * P.cellsOf e) ++ src.2))))
    | .sc (.slice none 0 0) => 0 < P.bytesOf e ∧ src.1 * P.bytesOf e ≤ 140737488355328 ∧ src.1 * P.cellsOf e ≤ 281474976710656 ∧
        (src.1 = 0 → K (.sc (.slice none 0 0)) G.S) ∧ (0 < src.1 → K (.ref G.S.n (src.1 * P.cellsOf e) 0 src.1) (G.S.add (.row e (P.cellsOf e) src.2)))
    | _ => False)) : ∃ v' w', (Builtin.append_ #[t, t] ty #[u, v]).run P G.w = .ok v' w' ∧ Left G K v' w' := by
  obtain ⟨i, hi⟩ := Option.isSome_iff_exists.1 hh
  obtain ⟨z, hz0⟩ : ∃ z, i.zero = some z := by
    rw [hi] at hz; exact Option.isSome_iff_exists.1 (by simpa using hz)
  have hb : P.bytesOf e = i.bytes := by simp [Program.bytesOf, hi]
  have hs : P.cellsOf e = i.size := by simp [Program.cellsOf, hi]
  have hzc := hzs i z hi hz0
  obtain ⟨hsl, av, cv, rfl, hsv⟩ := src_ok hR hk hsrc hy
  -- nothing to append
  have none_ : ∀ (a : Option Addr) (n cap : Nat), src.1 = 0 → n ≤ cap → (Builtin.append_ #[t, t] ty #[.slice a n cap, .slice av src.1 cv]).run P G.w = .ok (.slice a n cap) G.w := by
    intro a n cap h0 hle
    have hf : (Builtin.firstCells i.size 0 (.slice av 0 cv)).run P G.w = .ok #[] G.w := by
      cases av <;> simp [Builtin.firstCells, loadCells, loadCellsFrom]
    rw [h0]
    cases a <;> simp [Builtin.append_, run_underlying ht, sizeOf, typeInfo, hi, Builtin.lenOf, hle, hf, storeCells]
  split at h
  · rename_i l tot off n
    obtain ⟨r, hr, rfl, he, hrk, _, hb0, hone, hnt, hb1, hb2, hK1, hK2⟩ := orK_elim h
    obtain ⟨hm, htot⟩ := row?_some hr
    have hll := live_lt hR hm
    have hm' : G.S.m l = some (.row e (P.cellsOf e) r.2.2) := by rw [hm, he, hrk]
    simp only [Rv] at hx
    rcases Nat.eq_zero_or_pos src.1 with h0 | hpos
    · -- nothing
      have hsrc0 : src.2 = [] := List.eq_nil_of_length_eq_zero (by rw [hsl, h0]; simp)
      have hsame : G.S.set l (.row e (P.cellsOf e) (r.2.2.take (n * P.cellsOf e) ++ src.2 ++ r.2.2.drop ((n + src.1) * P.cellsOf e))) = G.S := by
        rw [hsrc0, h0]
        simp only [List.append_nil, Nat.add_zero, List.take_append_drop]
        exact St.set_self hm'
      have hK := hK1 (by rw [h0]; simpa using hnt)
      rw [hsame, h0] at hK
      have hle : ∃ a cap, u = .slice a n cap ∧ n ≤ cap := by
        rcases ref_real hx hr with ⟨_, _, _, rfl, rfl⟩ | ⟨b, c, cap, _, _, hu, hn, _⟩
        · exact ⟨none, 0, rfl, Nat.le_refl _⟩
        · rcases hu with rfl | ⟨rfl, rfl, _, o', rfl⟩
          · exact ⟨_, _, rfl, hn.1⟩
          · exact ⟨_, _, rfl, Nat.le_refl _⟩
      obtain ⟨a, cap, rfl, hle⟩ := hle
      exact ⟨_, _, none_ a n cap h0 hle, left_same hR (r := .ref l tot 0 n) (by simpa only [Rv] using hx) (by simpa using hK)⟩
    · rcases hsv with h0 | ⟨ad, rfl, vs, hvs, hcell⟩
      · omega
      have hvl := (rvs_iff.1 hvs).1
      have hvl' : vs.length = src.1 * i.size := by rw [← hvl, hsl, hs]
      have hov := oneAll hvs hone
      rcases ref_real hx hr with ⟨m0, e0, _, rfl, rfl⟩ | ⟨b, c, cap, hbl, hc, hu, hn, hf, hf2⟩
      · -- a place without a block
        have hrun := run_append_nil (P := P) G.w t ty e i z ht hi hz0 ad src.1 cv vs hvl' hcell hpos (by rw [hb] at hb1; have := Nat.le_mul_of_pos_right (0 + src.1) (by omega : 0 < i.bytes); omega) (by rw [hb] at hb1; simp at hb1; omega)
        have h00 : tot = 0 := by rw [← htot, e0]; rfl
        have hK := hK2 (by rw [h00]; exact Nat.mul_pos (by omega) hk)
        rw [e0] at hK
        simp only [List.take_nil, List.nil_append, Nat.zero_add] at hK
        have hm2 : (G.drew (G.w.drawn + 1)).S.m l = some (.row e (P.cellsOf e) []) := by rw [← e0]; exact hm'
        have hRd := drew_rel hR (G.w.drawn + 1)
        have hsd := drew_step G (G.w.drawn + 1)
        have hvs' : Rvs (G.drew (G.w.drawn + 1)) src.2 vs := hvs.step hsd
        have hlt : ([] : List AV).length < src.2.length := by rw [hsl]; exact Nat.mul_pos hpos hk
        have hsz2 : src.2.length ≤ (vs.toArray ++ Builtin.zeroCells z.cells (grownCap G.w src.1 0 e - src.1)).size := by simp; omega
        have hR2 := move_rel (c := vs.toArray ++ Builtin.zeroCells z.cells (grownCap G.w src.1 0 e - src.1)) (cs' := src.2) hRd hm2 hlt (by rw [hsl]; simp at hb2; omega) (pre_prefix hvs') hsz2
        have hs2 := move_step (x := .cells (vs.toArray ++ Builtin.zeroCells z.cells (grownCap G.w src.1 0 e - src.1)) e) (cs' := src.2) hRd hm2 hlt
        refine ⟨_, _, hrun, _, _, rfl, hR2, hsd.trans hs2, ?_, hK⟩
        simp only [Rv]
        have hge := grownCap_ge G.w src.1 0 e
        have := ref_moved (G := G.drew (G.w.drawn + 1)) (c := vs.toArray ++ Builtin.zeroCells z.cells (grownCap G.w src.1 0 e - src.1)) (e := e) (k := P.cellsOf e) (n := src.1) (cs := src.2) hll hsl.symm (by have := Nat.le_mul_of_pos_right (0 + src.1) hb0; omega) hge (by
          simp only [Array.size_append, List.size_toArray, size_zeroCells, hzc, hvl', ← hs, ← Nat.add_mul]
          exact Nat.mul_le_mul_right _ (by omega))
        rw [hsl] at this
        exact this
      · rcases hu with rfl | ⟨_, _, hoff, _⟩
        · obtain ⟨c', hc', hsz, hat⟩ := row_block hR hm hbl
          rw [hc] at hc'; cases hc'
          rw [he] at hc
          rw [hrk] at hf hf2
          simp only [Nat.zero_add] at hf hf2
          by_cases hroom : n + src.1 ≤ cap
          · have hfit : n * i.size + vs.length ≤ c.size := by
              rw [hvl', ← Nat.add_mul, ← hs]
              have := Nat.mul_le_mul_right (P.cellsOf e) hroom
              omega
            have hrun := run_append_room (P := P) G.w t ty e i ht hi b n cap c hc ad src.1 cv vs hvl' hcell hov hroom hfit
            have hpre := pre_splice (off := n * P.cellsOf e) (hat.pre hc) hvs (by omega) hsz
            have hlen : n * P.cellsOf e + src.2.length = (n + src.1) * P.cellsOf e := by rw [hsl, Nat.add_mul]
            rw [hlen] at hpre
            have hc'sz : (c.toList.take (n * i.size) ++ vs ++ c.toList.drop (n * i.size + vs.length)).toArray.size = c.size := by
              simp; omega
            rw [hs] at hpre
            have hcap : (n + src.1) * i.size ≤ c.size := by rw [hvl', ← Nat.add_mul] at hfit; exact hfit
            by_cases hin : (n + src.1) * P.cellsOf e ≤ tot
            · have hK := hK1 hin
              have hl2 : (r.2.2.take (n * i.size) ++ src.2 ++ r.2.2.drop ((n + src.1) * i.size)).length = r.2.2.length := by
                simp [hsl, hs] at hin ⊢
                rw [Nat.add_mul] at hin ⊢
                omega
              have hw := write_row (c' := (c.toList.take (n * i.size) ++ vs ++ c.toList.drop (n * i.size + vs.length)).toArray) hR hm' hbl hc hc'sz (by omega) (by have := (hR.ok l _ hm').1; omega) (by omega) hpre
              refine ⟨_, _, hrun, _, _, rfl, hw.1, hw.2, ?_, by rw [hs] at hK; rw [← hs] at hK ⊢; rw [hs] at hK ⊢; exact hK⟩
              simp only [Rv]
              refine ⟨hll, ⟨_, _, _, rfl⟩, fun e' k' cs' hmm => ?_⟩
              have : some (Ob.row e (P.cellsOf e) (r.2.2.take (n * i.size) ++ src.2 ++ r.2.2.drop ((n + src.1) * i.size))) = some (Ob.row e' k' cs') := by rw [← hmm]; simp [Ctx.put, St.set]
              cases this
              refine ⟨by rw [hl2]; omega, fun _ => .inr ⟨b, _, cap, hbl, setRow_heap G.w b c _ e (0, 0) hc, .inl rfl, ⟨hroom, by have := Nat.le_mul_of_pos_right (n + src.1) hb0; omega⟩, by rw [hc'sz]; omega, by omega⟩⟩
            · have hK := hK2 (by omega)
              have hdrop : r.2.2.drop ((n + src.1) * i.size) = [] := List.drop_eq_nil_of_le (by rw [← hs]; omega)
              rw [hdrop, List.append_nil] at hpre
              have hl2 : (r.2.2.take (n * i.size) ++ src.2).length = (n + src.1) * i.size := by
                simp [hsl, hs]
                rw [Nat.add_mul]
                rw [hs] at hnt
                omega
              have hw := write_row (cs' := r.2.2.take (n * i.size) ++ src.2) (c' := (c.toList.take (n * i.size) ++ vs ++ c.toList.drop (n * i.size + vs.length)).toArray) hR hm' hbl hc hc'sz (by rw [hl2]; rw [hs] at hin; omega) (by rw [hl2, ← hs]; omega) (by rw [hl2]; omega) hpre
              refine ⟨_, _, hrun, _, _, rfl, hw.1, hw.2, ?_, by rw [hs] at hK ⊢; exact hK⟩
              simp only [Rv]
              refine ⟨hll, ⟨_, _, _, rfl⟩, fun e' k' cs' hmm => ?_⟩
              have : some (Ob.row e (P.cellsOf e) (r.2.2.take (n * i.size) ++ src.2)) = some (Ob.row e' k' cs') := by rw [← hmm]; simp [Ctx.put, St.set]
              cases this
              refine ⟨by rw [hl2]; first | exact Nat.le_refl _ | (rw [hs]; exact Nat.le_refl _), fun _ => .inr ⟨b, _, cap, hbl, setRow_heap G.w b c _ e (0, 0) hc, .inl rfl, ⟨hroom, by have := Nat.le_mul_of_pos_right (n + src.1) hb0; omega⟩, by rw [hc'sz]; omega, ?_⟩⟩
              have := Nat.mul_le_mul_right (P.cellsOf e) hroom
              rw [hs] at this ⊢
              omega
          · obtain ⟨us, e1, e2, e3⟩ := rvs_of_rat hat 0 (n * P.cellsOf e) (by omega)
            simp only [List.drop_zero] at e2
            have hnb : n + src.1 ≤ 140737488355328 := Nat.le_trans (Nat.le_mul_of_pos_right _ hb0) hb1
            have hrun := run_append_grow (P := P) G.w t ty e i z ht hi hz0 ⟨b, 0, none⟩ n cap us (by rw [e1, hs]) (fun j v hv => by rw [add_lit']; simpa using e3 j v hv) ad src.1 cv vs hvl' hcell (by omega) (by omega) (growslice_fits (by omega) (by rw [← hb]; exact hb1))
            have hcapk := Nat.mul_le_mul_right (P.cellsOf e) (show cap + 1 ≤ n + src.1 by omega)
            rw [Nat.add_mul, Nat.one_mul] at hcapk
            have hgt : tot < (n + src.1) * P.cellsOf e := by omega
            have hK := hK2 hgt
            have hRd := drew_rel hR (G.w.drawn + 1)
            have hsd := drew_step G (G.w.drawn + 1)
            have hvs' : Rvs (G.drew (G.w.drawn + 1)) (r.2.2.take (n * P.cellsOf e) ++ src.2) (us ++ vs) := (rvs_append e2 hvs).step hsd
            have hl2 : (r.2.2.take (n * P.cellsOf e) ++ src.2).length = (n + src.1) * P.cellsOf e := by
              simp [hsl]
              rw [Nat.add_mul]
              omega
            have hlt : r.2.2.length < (r.2.2.take (n * P.cellsOf e) ++ src.2).length := by rw [hl2]; omega
            have hm2 : (G.drew (G.w.drawn + 1)).S.m l = some (.row e (P.cellsOf e) r.2.2) := hm'
            have hpre : Pre (G.drew (G.w.drawn + 1)) (r.2.2.take (n * P.cellsOf e) ++ src.2) (us.toArray ++ vs.toArray ++ Builtin.zeroCells z.cells (grownCap G.w (n + src.1) cap e - (n + src.1))) 0 := by
              have := pre_prefix (rest := Builtin.zeroCells z.cells (grownCap G.w (n + src.1) cap e - (n + src.1))) hvs'
              simpa using this
            have hsz2 : (us.toArray ++ vs.toArray ++ Builtin.zeroCells z.cells (grownCap G.w (n + src.1) cap e - (n + src.1))).size = (n + src.1) * P.cellsOf e + (grownCap G.w (n + src.1) cap e - (n + src.1)) * P.cellsOf e := by
              simp only [Array.size_append, List.size_toArray, size_zeroCells, hzc, hvl', e1, ← hs]
              rw [Nat.add_mul n]
            have hR2 := move_rel hRd hm2 hlt (by rw [hl2]; omega) hpre (by rw [hl2, hsz2]; omega)
            have hs2 := move_step (x := .cells (us.toArray ++ vs.toArray ++ Builtin.zeroCells z.cells (grownCap G.w (n + src.1) cap e - (n + src.1))) e) hRd hm2 hlt
            refine ⟨_, _, hrun, _, _, rfl, hR2, hsd.trans hs2, ?_, hK⟩
            simp only [Rv]
            have hge := grownCap_ge G.w (n + src.1) cap e
            have := ref_moved (G := G.drew (G.w.drawn + 1)) (c := us.toArray ++ vs.toArray ++ Builtin.zeroCells z.cells (grownCap G.w (n + src.1) cap e - (n + src.1))) (e := e) (k := P.cellsOf e) (n := n + src.1) (cs := r.2.2.take (n * P.cellsOf e) ++ src.2) hll hl2.symm (by omega) hge (by
              rw [hsz2, ← Nat.add_mul]
              exact Nat.mul_le_mul_right _ (by omega))
            rw [hl2] at this
            exact this
        · omega
  · obtain ⟨hb0, hb1, hb2, hK1, hK2⟩ := h
    rw [scR hx]
    rcases Nat.eq_zero_or_pos src.1 with h0 | hpos
    · exact ⟨_, _, none_ none 0 0 h0 (Nat.le_refl _), left_same hR (r := .sc (.slice none 0 0)) (by simp [Rv]) (hK1 h0)⟩
    · rcases hsv with h0 | ⟨ad, rfl, vs, hvs, hcell⟩
      · omega
      have hvl := (rvs_iff.1 hvs).1
      have hvl' : vs.length = src.1 * i.size := by rw [← hvl, hsl, hs]
      have hrun := run_append_nil (P := P) G.w t ty e i z ht hi hz0 ad src.1 cv vs hvl' hcell hpos (by have := Nat.le_mul_of_pos_right src.1 hb0; omega) (by rw [hb] at hb1; omega)
      have hRd := drew_rel hR (G.w.drawn + 1)
      have hsd := drew_step G (G.w.drawn + 1)
      have hvs' : Rvs (G.drew (G.w.drawn + 1)) src.2 vs := hvs.step hsd
      have hsz2 : src.2.length ≤ (vs.toArray ++ Builtin.zeroCells z.cells (grownCap G.w src.1 0 e - src.1)).size := by simp; omega
      have hR2 := add_row (k := P.cellsOf e) (e := e) hRd (vs.toArray ++ Builtin.zeroCells z.cells (grownCap G.w src.1 0 e - src.1)) src.2 (by rw [hsl]; omega) (pre_prefix hvs') hsz2
      refine ⟨_, _, hrun, _, _, rfl, hR2, hsd.trans (add_step hRd _ _), ?_, hK2 hpos⟩
      simp only [Rv]
      have hge := grownCap_ge G.w src.1 0 e
      have := ref_new (n := src.1) (cap := grownCap G.w src.1 0 e) hRd hR2 hsl.symm (by have := Nat.le_mul_of_pos_right src.1 hb0; omega) hge (by
        simp only [Array.size_append, List.size_toArray, size_zeroCells, hzc, hvl', ← hs, ← Nat.add_mul]
        exact Nat.mul_le_mul_right _ (by omega))
      rw [hsl] at this
      exact this
  · exact h.elim

theorem run_append_zeros (w : World) (t tn ty e : TypeId) (i : TypeInfo) (z : Value) (k kn : IntKind) (ht : P.underlying t = some (.slice e)) (htn : P.underlying tn = some (.int kn)) (hi : P.info? e = some i) (hz : i.zero = some z)
    (n : Nat) (h0 : 0 < n) (hs : 0 < i.size) (h63 : (n : Int) ≤ 9223372036854775807) (h48 : n * i.bytes ≤ 281474976710656) :
    (Builtin.append_ #[t, tn] ty #[.slice none 0 0, .int k n]).run P w =
      .ok (.slice (some ⟨w.heap.size, 0, none⟩) n (grownCap w n 0 e)) (w.drew.alloc (.cells (Builtin.zeroCells z.cells n ++ Builtin.zeroCells z.cells (grownCap w n 0 e - n)) e)) := by
  have q1 : n ≠ 0 := by omega
  have q2 : IntKind.i64.wrap (n : Int) = n := by rw [IntKind.wrap_i64]; omega
  have q3 : ¬ (9223372036854775807 < (n : Int)) := by omega
  have q4 : ¬ (281474976710656 < Builtin.nextslicecap n 0 * i.bytes) := by rw [nextslicecap_zero h0]; omega
  have q5 : ¬ (281474976710656 < (n : Int) * (i.bytes : Int)) := by rw [← Int.natCast_mul]; omega
  have q6 : ¬ ((n : Int) < 0) := by omega
  have q7 : ¬ (n * i.size = 0) := Nat.mul_ne_zero q1 (by omega)
  simp [Builtin.append_, run_underlying ht, run_underlying htn, sizeOf, typeInfo, zeroValue, hi, hz, asInt, asIntOf, q1, q2, q3, q4, q5, q6, q7, Question.forced, run_firstCells_none, newRow, grownCap]
theorem ok_appZ (hR : Rel G) {t u e ty : TypeId} {zs : List Value} {x y : AV} {a b : Value} {n : Int} {kn : IntKind} (ht : P.underlying t = some (.slice e)) (hu : P.underlying u = some (.int kn)) (hh : has P e = true)
    (hz : zeroCellsOf P e = some zs) (hzs : ∀ i z, P.info? e = some i → i.zero = some z → z.cells.size = P.cellsOf e)
    (hx : Rv G x a) (hy : Rv G y b) (hk : 0 < P.cellsOf e) (hn : intOfAV y = some n)
    (h : (match (generalizing := false) x with
    | .sc (.slice none 0 0) => 0 < n ∧ 0 < P.bytesOf e ∧ n.toNat * P.bytesOf e ≤ 140737488355328 ∧ n.toNat * P.cellsOf e ≤ 281474976710656 ∧ K (.ref G.S.n (n.toNat * P.cellsOf e) 0 n.toNat) (G.S.add (.row e (P.cellsOf e) (zcells zs (n.toNat * P.cellsOf e))))
    | _ => False)) : ∃ v' w', (Builtin.append_ #[t, u] ty #[a, b]).run P G.w = .ok v' w' ∧ Left G K v' w' := by
  obtain ⟨i, hi⟩ := Option.isSome_iff_exists.1 hh
  obtain ⟨k1, rfl⟩ := intOf_some hn hy
  have hb : P.bytesOf e = i.bytes := by simp [Program.bytesOf, hi]
  have hs : P.cellsOf e = i.size := by simp [Program.cellsOf, hi]
  split at h
  · obtain ⟨h0, hb0, hb1, hb2, hK⟩ := h
    rw [scR hx]
    obtain ⟨z, hz1⟩ : ∃ z, i.zero = some z ∧ zs = z.cells.toList := by
      unfold zeroCellsOf at hz
      rw [hi] at hz
      simp only [Option.bind_eq_bind, Option.bind_some, Option.bind_eq_some_iff, Option.pure_def, Option.some.injEq] at hz
      obtain ⟨z, h1, h2⟩ := hz
      exact ⟨z, h1, h2.symm⟩
    obtain ⟨hz1, rfl⟩ := hz1
    have hzc := hzs i z hi hz1
    obtain ⟨m, rfl⟩ : ∃ m : Nat, n = m := ⟨n.toNat, by omega⟩
    simp only [Int.toNat_natCast] at hb1 hb2 hK
    have hm : 0 < m := by omega
    have hrun := run_append_zeros (P := P) G.w t u ty e i z k1 kn ht hu hi hz1 m hm (by omega) (by have := Nat.le_mul_of_pos_right m hb0; omega) (by rw [hb] at hb1; omega)
    obtain ⟨vs, hv1, hv2⟩ := zcells_ok (G := G) z.cells.toList (m * P.cellsOf e)
    have hvl := (rvs_iff.1 hv2).1
    have hvl' : vs.length = m * P.cellsOf e := by rw [← hvl]; simp [zcells]
    have e1 : Builtin.zeroCells z.cells m = vs.toArray := by
      rw [← hv1]; simp only [Builtin.zeroCells, hzc]
    rw [e1] at hrun
    have hRd := drew_rel hR (G.w.drawn + 1)
    have hsd := drew_step G (G.w.drawn + 1)
    have hvs' : Rvs (G.drew (G.w.drawn + 1)) (zcells z.cells.toList (m * P.cellsOf e)) vs := hv2.step hsd
    have hlz : (zcells z.cells.toList (m * P.cellsOf e)).length = m * P.cellsOf e := by simp [zcells]
    have hsz2 : (zcells z.cells.toList (m * P.cellsOf e)).length ≤ (vs.toArray ++ Builtin.zeroCells z.cells (grownCap G.w m 0 e - m)).size := by simp; omega
    have hR2 := add_row (k := P.cellsOf e) (e := e) hRd (vs.toArray ++ Builtin.zeroCells z.cells (grownCap G.w m 0 e - m)) (zcells z.cells.toList (m * P.cellsOf e)) (by rw [hlz]; omega) (pre_prefix hvs') hsz2
    refine ⟨_, _, hrun, _, _, rfl, hR2, hsd.trans (add_step hRd _ _), ?_, hK⟩
    simp only [Rv]
    have hge := grownCap_ge G.w m 0 e
    have := ref_new (n := m) (cap := grownCap G.w m 0 e) hRd hR2 hlz.symm (by have := Nat.le_mul_of_pos_right m hb0; omega) hge (by
      simp only [Array.size_append, List.size_toArray, size_zeroCells, hzc, hvl', ← hs, ← Nat.add_mul]
      exact Nat.mul_le_mul_right _ (by omega))
    rw [hlz] at this
    exact this
  · exact h.elim
end
end Go.Proofs.Ytfihpbeihlpfcaa.Ev
