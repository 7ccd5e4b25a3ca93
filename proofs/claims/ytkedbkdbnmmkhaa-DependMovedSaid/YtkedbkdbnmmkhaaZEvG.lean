/- All operations, joined: what the program's operation does is what its short form says. -/
import Derived.Test.YtkedbkdbnmmkhaaZEvF
import Derived.MapKept
import Derived.Laws.StructEq
import Derived.ChangeKeysEq
set_option linter.unusedVariables false
set_option linter.unusedSimpArgs false
namespace Go.Proofs.Ytkedbkdbnmmkhaa.Ev
open Go Go.RowKit
section
variable {P : Program} {G : Ctx} {K : AV → St → Prop}

theorem rvs_take {cs : List AV} {vs : List Value} (h : Rvs G cs vs) (n : Nat) : Rvs G (cs.take n) (vs.take n) := by
  obtain ⟨h1, h2⟩ := rvs_iff.1 h
  refine rvs_iff.2 ⟨by simp [h1], fun j x hx => ?_⟩
  rw [List.getElem?_take] at hx ⊢
  split at hx
  · rename_i hj; simp only [hj, if_true]; exact h2 j x hx
  · cases hx

theorem ok_copy (hR : Rel G) {t e ty : TypeId} {x y : AV} {u v : Value} {src : Nat × List AV} (ht : P.underlying t = some (.slice e)) (hh : has P e = true)
    (hx : Rv G x u) (hy : Rv G y v) (hk : 0 < P.cellsOf e) (hsrc : srcOf G.S (P.cellsOf e) y = some src)
    (h : (match (generalizing := false) x with
    | .ref l tot off n => orK (G.S.row? l tot) fun r => src.2.all AV.one = true ∧ off + Nat.min src.1 n * P.cellsOf e ≤ tot ∧
        K (.sc (.int .i64 (Nat.min src.1 n : Nat))) (G.S.set l (.row r.1 r.2.1 (r.2.2.take off ++ src.2.take (Nat.min src.1 n * P.cellsOf e) ++ r.2.2.drop (off + Nat.min src.1 n * P.cellsOf e))))
    | _ => False)) : ∃ v' w', (Builtin.copy_ #[t, t] ty #[u, v]).run P G.w = .ok v' w' ∧ Left G K v' w' := by
  obtain ⟨hsl, av, cv, rfl, hsv⟩ := src_ok hR hk hsrc hy
  cases x with
  | ref l tot off n =>
    simp only at h
    obtain ⟨r, hr, hone, hfit, hK⟩ := orK_elim h
    obtain ⟨hm, htot⟩ := row?_some hr
    simp only [Rv] at hx
    have none_ : ∀ (a : Option Addr) (cap : Nat), Nat.min src.1 n = 0 → u = .slice a n cap → (Builtin.copy_ #[t, t] ty #[u, .slice av src.1 cv]).run P G.w = .ok (goInt (0 : Nat)) G.w := by
      rintro a cap h0 rfl
      have hf : (Builtin.firstCells (P.cellsOf e) 0 (.slice av src.1 cv)).run P G.w = .ok #[] G.w := by
        cases av <;> simp [Builtin.firstCells, loadCells, loadCellsFrom]
      have h0' : min src.1 n = 0 := h0
      cases a <;> simp [Builtin.copy_, run_underlying ht, run_sizeOf' hh, Builtin.lenOf, h0, h0', hf, storeCells]
    by_cases h0 : Nat.min src.1 n = 0
    · have hsame : G.S.set l (.row r.1 r.2.1 (r.2.2.take off ++ src.2.take (Nat.min src.1 n * P.cellsOf e) ++ r.2.2.drop (off + Nat.min src.1 n * P.cellsOf e))) = G.S := by
        rw [h0]
        simp only [Nat.zero_mul, List.take_zero, List.append_nil, Nat.add_zero, List.take_append_drop]
        exact St.set_self hm
      rw [hsame, h0] at hK
      have hle : ∃ a cap, u = .slice a n cap := by
        rcases ref_real hx hr with ⟨_, _, _, rfl, rfl⟩ | ⟨b, c, cap, _, _, hu, hn, _⟩
        · exact ⟨none, 0, rfl⟩
        · rcases hu with rfl | ⟨rfl, rfl, _, o', rfl⟩
          · exact ⟨_, _, rfl⟩
          · exact ⟨_, _, rfl⟩
      obtain ⟨a, cap, hu⟩ := hle
      exact ⟨_, _, none_ a cap h0 hu, left_same hR (r := .sc (.int .i64 (0 : Nat))) (by simp [Rv, goInt]) hK⟩
    · have hmin : Nat.min src.1 n = min src.1 n := rfl
      rw [hmin] at h0 hfit hK
      rcases hsv with h00 | ⟨ad, rfl, vs, hvs, hcell⟩
      · omega
      rcases ref_real hx hr with ⟨m0, e0, _, rfl, rfl⟩ | ⟨b, c, cap, hbl, hc, hu, hn, hf, hf2⟩
      · omega
      · rcases hu with rfl | ⟨_, rfl, _⟩
        · obtain ⟨c', hc', hsz, hat⟩ := row_block hR hm hbl
          rw [hc] at hc'; cases hc'
          have hvl := (rvs_iff.1 hvs).1
          have hvs2 := rvs_take hvs (min src.1 n * P.cellsOf e)
          have hle : min src.1 n * P.cellsOf e ≤ vs.length := by rw [← hvl, hsl]; exact Nat.mul_le_mul_right _ (by omega)
          have hl2 : (vs.take (min src.1 n * P.cellsOf e)).length = min src.1 n * P.cellsOf e := by simp; omega
          have hl3 : (src.2.take (min src.1 n * P.cellsOf e)).length = min src.1 n * P.cellsOf e := by simp; omega
          have hone2 : (src.2.take (min src.1 n * P.cellsOf e)).all AV.one = true := List.all_eq_true.2 fun x hx => List.all_eq_true.1 hone x (List.mem_of_mem_take hx)
          have hfc := run_firstCells_some (P := P) G.w (P.cellsOf e) (min src.1 n) ad src.1 cv (vs.take (min src.1 n * P.cellsOf e)) hl2 (fun j v hv => hcell j v (by
            rw [List.getElem?_take] at hv
            split at hv
            · exact hv
            · cases hv))
          have hst := run_storeCells_at P b off r.1 (vs.take (min src.1 n * P.cellsOf e)) 0 c G.w hc (by rw [hl2]; omega) (oneAll hvs2 hone2)
          simp only [Nat.add_zero] at hst
          have hpre := pre_splice (off := off) (hat.pre hc) hvs2 (by omega) hsz
          rw [hl3] at hpre
          have hlen : (r.2.2.take off ++ src.2.take (min src.1 n * P.cellsOf e) ++ r.2.2.drop (off + min src.1 n * P.cellsOf e)).length = r.2.2.length := by simp; omega
          have hw := write_row (c' := (c.toList.take off ++ vs.take (min src.1 n * P.cellsOf e) ++ c.toList.drop (off + (vs.take (min src.1 n * P.cellsOf e)).length)).toArray) hR hm hbl hc (by simp; omega) (by omega) (by have := (hR.ok l _ hm).1; omega) (by rw [hlen]; simp; omega) hpre
          refine ⟨goInt (min src.1 n : Nat), _, ?_, _, _, rfl, hw.1, hw.2, by simp [Rv, goInt], hK⟩
          have hmm : Nat.min src.1 n = min src.1 n := rfl
          simp only [Builtin.copy_]
          simp [run_underlying ht, run_sizeOf' hh, Builtin.lenOf, hmm, hfc, hst, Ctx.put, goInt]
        · omega
  | _ => exact h.elim

theorem ok_min {a b : Value} {K : Value → Prop} (h : minV a b K) (at_ : Array TypeId) (ty : TypeId) (w : World) : ∃ r, (Builtin.min_ at_ ty #[a, b]).run P w = .ok r w ∧ K r := by
  cases a <;> cases b <;> simp only [minV] at h <;> first | exact h.elim | exact ⟨_, by simp [Builtin.min_, List.foldlM, Builtin.min2], h⟩
theorem ok_max {a b : Value} {K : Value → Prop} (h : maxV a b K) (at_ : Array TypeId) (ty : TypeId) (w : World) : ∃ r, (Builtin.max_ at_ ty #[a, b]).run P w = .ok r w ∧ K r := by
  cases a <;> cases b <;> simp only [maxV] at h <;> first | exact h.elim | exact ⟨_, by simp [Builtin.max_, List.foldlM, Builtin.max2], h⟩

theorem ok_max3 {a b c : Value} {K : Value → Prop} (h : max3V a b c K) (at_ : Array TypeId) (ty : TypeId) (w : World) : ∃ r, (Builtin.max_ at_ ty #[a, b, c]).run P w = .ok r w ∧ K r := by
  cases a <;> cases b <;> cases c <;> simp only [max3V] at h <;> first | exact h.elim | exact ⟨_, by simp [Builtin.max_, List.foldlM, Builtin.max2], h⟩

theorem rvs_map {fr : Fr} {ρ : Operand → Value} : ∀ {xs : List Operand} {ss : List SA}, xs.mapM sa = some ss → (∀ x s, x ∈ xs → sa x = some s → Rv G (evS fr s) (ρ x)) → Rvs G (ss.map (evS fr)) (xs.map ρ)
  | [], ss, h, _ => by simp at h; subst h; simp [Rvs]
  | x :: xs, ss, h, hr => by
    simp only [List.mapM_cons, Option.bind_eq_bind, Option.bind_eq_some_iff, Option.pure_def, Option.some.injEq] at h
    obtain ⟨s, hs, ss', hss, rfl⟩ := h
    simp only [List.map_cons, Rvs]
    exact ⟨_, _, rfl, hr x s (by simp) hs, rvs_map hss fun x' s' hx' => hr x' s' (by simp [hx'])⟩

theorem avOf_ok (v : Value) : Rv G (avOf v) v := by
  cases v with
  | agg cs =>
    simp only [avOf, Rv]
    exact ⟨cs.toList, by simp, rvs_sc _⟩
  | _ => simp [avOf, Rv]

theorem value_run {x : Sem Value} (h : ∃ v w', x.run P G.w = .ok v w' ∧ Left G K v w') : OpRun P (do pure (Next.value (← x)) : Sem Next) G K := by
  obtain ⟨v, w', hr, hl⟩ := h
  exact .inl ⟨v, w', .inl (by simp [hr]), hl⟩
theorem value_same {x : Sem Value} (hR : Rel G) (h : ∃ v, x.run P G.w = .ok v G.w ∧ ∃ r, Rv G r v ∧ K r G.S) : OpRun P (do pure (Next.value (← x)) : Sem Next) G K := by
  obtain ⟨v, hr, r, h1, h2⟩ := h
  exact value_run ⟨v, _, hr, left_same hR h1 h2⟩

/-! ### maps -/
theorem ents_iff {G : Ctx} : ∀ {es : List (Value × AV)} {us : List MapEntry}, Ents G es us ↔ us.map (·.key) = es.map (·.1) ∧ Rvs G (es.map (·.2)) (us.map (·.val))
  | [], us => by
    simp only [Ents, List.map_nil, Rvs, List.map_eq_nil_iff, and_self]
  | x :: xs, us => by
    simp only [Ents, List.map_cons, Rvs]
    constructor
    · rintro ⟨e, us', rfl, h1, h2, h3⟩
      obtain ⟨h4, h5⟩ := ents_iff.1 h3
      exact ⟨by simp [h1, h4], e.val, us'.map (·.val), by simp, h2, h5⟩
    · rintro ⟨h1, v, vs, h2, h3, h4⟩
      cases us with
      | nil => simp at h2
      | cons e us' =>
        simp only [List.map_cons, List.cons.injEq] at h1 h2
        exact ⟨e, us', rfl, h1.1, by rw [h2.1]; exact h3, ents_iff.2 ⟨h1.2, by rw [h2.2]; exact h4⟩⟩
theorem ents_zip {G : Ctx} : ∀ {vs : List AV} {us : List MapEntry}, Rvs G vs (us.map (·.val)) → Ents G ((us.map (·.key)).zip vs) us
  | [], us, h => by
    simp only [Rvs, List.map_eq_nil_iff] at h
    subst h; simp [Ents]
  | x :: xs, [], h => by simp [Rvs] at h
  | x :: xs, u :: us, h => by
    simp only [Rvs, List.map_cons, List.cons.injEq] at h
    obtain ⟨v, vs, ⟨rfl, rfl⟩, h2, h3⟩ := h
    simp only [List.map_cons, List.zip_cons_cons, Ents]
    exact ⟨u, us, rfl, rfl, h2, ents_zip h3⟩
def descOf : KeyKd → TypeDesc
  | .str => .string
  | .int k => .int k
  | .bool => .bool
theorem keyKd_some {P : Program} {t : TypeId} {kd : KeyKd} (h : keyKd P t = some kd) : P.underlying t = some (descOf kd) := by
  unfold keyKd at h
  split at h <;> (first | (cases h; assumption) | cases h)
theorem ba_beq (a b : ByteArray) : (a == b) = decide (a = b) := by
  cases a with | mk x => cases b with | mk y =>
    have : (ByteArray.mk x == ByteArray.mk y) = (x == y) := rfl
    rw [this]
    by_cases h : x = y
    · subst h; simp
    · simp [h]
theorem same_now {kd : KeyKd} {a b : Value} (ha : kd.is a = true) (hb : kd.is b = true) : Instr.sameNow (descOf kd) a b = some (keyEq a b) := by
  cases kd <;> cases a <;> simp [KeyKd.is] at ha <;> cases b <;> simp [KeyKd.is] at hb <;> simp_all [Instr.sameNow, descOf, keyEq]
theorem same_bits {kd : KeyKd} {a b : Value} (ha : kd.is a = true) (hb : kd.is b = true) (h : keyEq b a = true) (n : Nat) : Instr.sameBits n a b = true := by
  cases kd <;> cases a <;> simp [KeyKd.is] at ha <;> cases b <;> simp [KeyKd.is] at hb <;> simp_all [keyEq] <;> (unfold Instr.sameBits) <;> (try simp) <;> (try (rw [ba_beq] at *; simpa using (of_decide_eq_true h).symm))
theorem find_now {G : Ctx} {kd : KeyKd} {v : Value} (hv : kd.is v = true) : ∀ {es : List (Value × AV)} {us : List MapEntry} (i : Nat), Ents G es us → keysOk kd es = true →
    (findE es v = none ∧ Instr.findNow (descOf kd) v us i = some none ∧ updE es v = fun y => es ++ [(v, y)]) ∨
    ∃ (j : Nat) (x : AV) (u : MapEntry), findE es v = some x ∧ us[j]? = some u ∧ Rv G x u.val ∧ Instr.findNow (descOf kd) v us i = some (some (i + j, u.val)) ∧ kd.is u.key = true ∧ keyEq v u.key = true ∧ ∀ y, updE es v y = es.set j (v, y)
  | [], us, i, h, hk => by
    simp only [Ents] at h
    subst h
    exact .inl ⟨rfl, rfl, by funext y; rfl⟩
  | (k, x) :: es, us, i, h, hk => by
    simp only [Ents] at h
    obtain ⟨u, us', rfl, h1, h2, h3⟩ := h
    simp only [keysOk, List.all_cons, Bool.and_eq_true] at hk
    have hs : Instr.sameNow (descOf kd) v u.key = some (keyEq v k) := by rw [h1]; exact same_now hv hk.1
    by_cases he : keyEq v k = true
    · refine .inr ⟨0, x, u, by simp [findE, he], rfl, h2, ?_, by rw [h1]; exact hk.1, by rw [h1]; exact he, fun y => by simp [updE, he]⟩
      unfold Instr.findNow; rw [hs, he]; rfl
    · have he' : keyEq v k = false := by simpa using he
      rcases find_now hv (i + 1) h3 hk.2 with ⟨a1, a2, a3⟩ | ⟨j, x', u', a1, a2, a3, a4, a5, a6, a7⟩
      · refine .inl ⟨by simp [findE, he', a1], ?_, ?_⟩
        · unfold Instr.findNow; rw [hs, he']; exact a2
        · funext y; simp [updE, he', a3]
      · refine .inr ⟨j + 1, x', u', by simp [findE, he', a1], by simpa using a2, a3, ?_, a5, a6, fun y => by simp [updE, he', a7]⟩
        unfold Instr.findNow; rw [hs, he']
        rw [show i + (j + 1) = i + 1 + j by omega]; exact a4
theorem ents_len {G : Ctx} {es : List (Value × AV)} {us : List MapEntry} (h : Ents G es us) : us.length = es.length := by
  have := congrArg List.length (ents_iff.1 h).1
  simpa using this
theorem get_map {P : Program} {w : World} {r : Nat} {es : Array MapEntry} {clock : Nat} (h : w.heap[r]? = some (.map es clock)) : (getObj r).run P w = .ok (.map es clock) w := by simp [getObj, Sem.run, h]
theorem set_map {P : Program} {w : World} {r : Nat} {es : Array MapEntry} {clock : Nat} (o : Obj) (h : w.heap[r]? = some (.map es clock)) : (setObj r o).run P w = .ok () { w with heap := w.heap.setIfInBounds r o } := by simp [setObj, Sem.run, h]
theorem check_key {P : Program} {t : TypeId} {kd : KeyKd} {v : Value} (ht : P.underlying t = some (descOf kd)) (hv : kd.is v = true) (e : Bool) (w : World) : (Instr.checkKey e 10000 t v).run P w = .ok () w := by
  cases kd <;> cases v <;> simp [KeyKd.is] at hv <;> unfold Instr.checkKey <;> simp [run_underlying ht, descOf]
theorem find_key {P : Program} {t : TypeId} {kd : KeyKd} {v : Value} {us : List MapEntry} {r : Option (Nat × Value)} (ht : P.underlying t = some (descOf kd)) (h : Instr.findNow (descOf kd) v us 0 = some r) (w : World) : (Instr.findKey t v us).run P w = .ok r w := by
  unfold Instr.findKey
  simp [run_underlying ht, h]
/-- A map's value reads as these entries. -/
theorem map_real {G : Ctx} (hR : Rel G) {x : AV} {u : Value} {es : List (Value × AV)} (hx : Rv G x u) (hm : mapOf G.S x = some es) :
    (u = .map none ∧ es = []) ∨ ∃ (b : Nat) (ents : Array MapEntry) (clock : Nat), u = .map (some b) ∧ G.w.heap[b]? = some (.map ents clock) ∧ Ents G es ents.toList := by
  unfold mapOf at hm
  split at hm
  · rename_i l
    unfold St.map? at hm
    split at hm
    · rename_i es' ho
      cases hm
      simp only [Rv] at hx
      obtain ⟨b, hb, rfl⟩ := hx.2.2 _ ho
      obtain ⟨b', en, cl, h1, h2, h3⟩ := hR.ok _ _ ho
      rw [hb] at h1; cases h1
      exact .inr ⟨b, en, cl, rfl, h2, h3⟩
    · cases hm
  · rename_i ks vs
    cases hm
    simp only [Rv] at hx
    rcases hx with ⟨rfl, rfl, rfl⟩ | ⟨b, en, cl, rfl, ho, hb, rfl, hs⟩
    · exact .inl ⟨rfl, rfl⟩
    · exact .inr ⟨b, en, cl, rfl, hb, ents_zip hs⟩
  · cases hm
    have := scR hx
    exact .inl ⟨this, rfl⟩
  · cases hm

theorem ok_look (hR : Rel G) {t kt e : TypeId} {kd : KeyKd} {i : TypeInfo} {z : Value} {ok : Bool} {x y : AV} {u v : Value} (ht : P.underlying t = some (.map kt e)) (hk : keyKd P kt = some kd) (hi : P.info? e = some i) (hz : i.zero = some z)
    (h : match y with
      | .sc v => orK (mapOf G.S x) fun es => keysOk kd es = true ∧ kd.is v = true ∧
        K (if ok then .tup [(findE es v).getD (avOf z), .sc (.bool (findE es v).isSome)] else (findE es v).getD (avOf z)) G.S
      | _ => False) (hx : Rv G x u) (hy : Rv G y v) : ∃ v', (Instr.lookup t u v ok).run P G.w = .ok v' G.w ∧ ∃ r, Rv G r v' ∧ K r G.S := by
  cases y with
  | sc kv =>
    have hvk := scR hy
    subst hvk
    obtain ⟨es, hm, h1, h2, h3⟩ := orK_elim h
    have hd := keyKd_some hk
    have hzr : (zeroValue e).run P G.w = .ok z G.w := by simp [zeroValue, typeInfo, hi, hz]
    have fin : ∀ (vv : Value) (xx : AV) (b : Bool), Rv G xx vv → (findE es v).getD (avOf z) = xx → (findE es v).isSome = b → ∃ r, Rv G r (if ok = true then .tuple #[vv, .bool b] else vv) ∧ K r G.S := fun vv xx b hr he hb => by
      rw [he, hb] at h3
      cases ok
      · exact ⟨_, hr, h3⟩
      · refine ⟨_, ?_, h3⟩
        simp only [if_true, Rv]
        exact ⟨[vv, .bool b], rfl, by simp only [Rvs]; exact ⟨vv, _, rfl, hr, .bool b, [], rfl, by simp only [Rv], rfl⟩⟩
    rcases map_real hR hx hm with ⟨rfl, rfl⟩ | ⟨b, en, cl, rfl, hb, hent⟩
    · refine ⟨if ok = true then .tuple #[z, .bool false] else z, ?_, fin z (avOf z) false (avOf_ok z) rfl rfl⟩
      have hf := find_key (P := P) (us := []) (r := none) hd (v := v) rfl G.w
      simp [Instr.lookup, run_underlying ht, check_key hd h2, hf, hzr]
    · rcases find_now h2 0 hent h1 with ⟨a1, a2, _⟩ | ⟨j, x', u', a1, a2, a3, a4, _, _, _⟩
      · refine ⟨if ok = true then .tuple #[z, .bool false] else z, ?_, fin z (avOf z) false (avOf_ok z) (by rw [a1]; rfl) (by rw [a1]; rfl)⟩
        have hf := find_key hd a2 G.w
        simp [Instr.lookup, run_underlying ht, get_map hb, check_key hd h2, hf, hzr]
      · refine ⟨if ok = true then .tuple #[u'.val, .bool true] else u'.val, ?_, fin u'.val x' true a3 (by rw [a1]; rfl) (by rw [a1]; rfl)⟩
        have hf := find_key hd a4 G.w
        simp [Instr.lookup, run_underlying ht, get_map hb, check_key hd h2, hf]
  | _ => exact h.elim

theorem run_key {kd : KeyKd} {t : TypeId} {u v : Value} (ht : keyKd P t = some kd) (hu : kd.is u = true) (hv : kd.is v = true) (d : Nat) (w : World) : (Op.equalIn (d + 1) t u v).run P w = .ok (keyEq u v) w := by
  have hd := keyKd_some ht
  cases kd <;> cases u <;> simp [KeyKd.is] at hu <;> cases v <;> simp [KeyKd.is] at hv
  · rw [run_equalIn_string w d t _ _ hd, ← beq_toListBytes]; rfl
  · subst hu; subst hv
    rw [run_equalIn_int w d t _ _ _ _ hd]; rfl
  · rw [run_equalIn_bool' w d t _ _ hd]; rfl
theorem keyKd_agg {t : TypeId} {kd : KeyKd} (h : keyKd P t = some kd) : isAggT P t = some false := by
  have := keyKd_some h
  unfold isAggT
  rw [this]
  cases kd <;> rfl
theorem run_eqFs (hR : Rel G) {xs ys : List AV} {us vs : List Value} (hx : Rvs G xs us) (hy : Rvs G ys vs) (d : Nat) : ∀ (fs : List Field) (ks : List (KeyKd × Nat)) (b : Bool),
    fs.mapM (fun f => if f.name != "_" && has P f.type then (keyKd P f.type).map fun k => (k, f.offset) else none) = some ks → eqFs ks xs ys = some b → (Op.eqFields (d + 1) us.toArray vs.toArray fs).run P G.w = .ok b G.w
  | [], ks, b, h1, h2 => by simp at h1; subst h1; simp [eqFs] at h2; subst h2; simp [Op.eqFields]
  | f :: fs, ks, b, h1, h2 => by
    simp only [List.mapM_cons, Option.bind_eq_bind, Option.bind_eq_some_iff, Option.pure_def, Option.some.injEq] at h1
    obtain ⟨k, hk, ks', h3, rfl⟩ := h1
    split at hk
    · rename_i hn
      simp only [Bool.and_eq_true, bne_iff_ne, ne_eq] at hn
      simp only [Option.map_eq_some_iff] at hk
      obtain ⟨kd, hkd, rfl⟩ := hk
      simp only [eqFs] at h2
      split at h2
      · rename_i u v hu hv
        split at h2
        · rename_i hi
          simp only [Bool.and_eq_true] at hi
          simp only [Option.map_eq_some_iff] at h2
          obtain ⟨b', hb', rfl⟩ := h2
          obtain ⟨u', e1, e2⟩ := (rvs_iff.1 hx).2 _ _ hu
          obtain ⟨v', e3, e4⟩ := (rvs_iff.1 hy).2 _ _ hv
          have := scR e2; subst this
          have := scR e4; subst this
          have hag := keyKd_agg hkd
          have pa : (part f.type us.toArray f.offset).run P G.w = .ok u' G.w := by simp [part, run_isAggT hag, e1]
          have pb : (part f.type vs.toArray f.offset).run P G.w = .ok v' G.w := by simp [part, run_isAggT hag, e3]
          have ih := run_eqFs hR hx hy d fs ks' b' h3 hb'
          simp only [Op.eqFields, hn.1, ne_eq, not_false_eq_true, if_true, Sem.run_bind, pa, pb, Result.andThen_ok, run_key hkd hi.1 hi.2]
          cases hke : keyEq u' v'
          · simp
          · simp [ih]
        · cases h2
      · cases h2
    · cases hk
theorem ok_eqS (hR : Rel G) {neg : Bool} {t : TypeId} {fs : Array Field} {ks : List (KeyKd × Nat)} {x y : AV} {u v : Value} (ht : P.underlying t = some (.struct fs)) (hk : eqFields P t fs = some ks)
    (h : match x, y with
      | .agg xs, .agg ys => orK (eqFs ks xs ys) fun b => K (boolK neg b) G.S
      | _, _ => False) (hx : Rv G x u) (hy : Rv G y v) (ox oy : Operand) :
    ∃ r, ((do eqGuard (if neg then .neq else .eql) t ox oy u v; binOp (if neg then .neq else .eql) t u v) : Sem Value).run P G.w = .ok r G.w ∧ ∃ z, Rv G z r ∧ K z G.S := by
  split at h
  · rename_i xs ys
    obtain ⟨b, hb, hK⟩ := orK_elim h
    simp only [Rv] at hx hy
    obtain ⟨us, rfl, h1⟩ := hx
    obtain ⟨vs, rfl, h2⟩ := hy
    unfold eqFields at hk
    split at hk
    · rename_i hc
      simp only [Bool.and_eq_true, Bool.not_eq_true'] at hc
      have hfs : P.fieldsOf t = fs := by simp [Program.fieldsOf, ht]
      have hrun := run_eqFs hR h1 h2 9998 fs.toList ks b hk hb
      have he : (Op.equalIn 10000 t (.agg us.toArray) (.agg vs.toArray)).run P G.w = .ok b G.w := by
        rw [run_equalIn_struct G.w 9999 t _ _ (by rw [hfs]; exact ht) hc.1, hfs]; exact hrun
      refine ⟨.bool (if neg then !b else b), ?_, boolK neg b, by simp only [Rv, boolK], hK⟩
      simp only [Sem.run_bind, run_eqGuard_agg G.w _ t ox oy _ _ hc.2, Result.andThen_ok]
      cases neg
      · simp only [Bool.false_eq_true, if_false, run_eql_struct, he, Result.andThen_ok]
      · simp only [if_true, run_neq_struct, he, Result.andThen_ok]
    · cases hk
  · exact h.elim

theorem run_eqEs (hR : Rel G) {xs ys : List AV} {us vs : List Value} (hx : Rvs G xs us) (hy : Rvs G ys vs) (d : Nat) {e : TypeId} {kd : KeyKd} (hkd : keyKd P e = some kd) : ∀ (is : List Nat) (b : Bool),
    eqFs (is.map fun i => (kd, i)) xs ys = some b → (Op.eqItems (d + 1) e 1 us.toArray vs.toArray is).run P G.w = .ok b G.w
  | [], b, h2 => by simp [eqFs] at h2; subst h2; simp [Op.eqItems]
  | i :: is, b, h2 => by
    simp only [List.map_cons, eqFs] at h2
    split at h2
    · rename_i u v hu hv
      split at h2
      · rename_i hi
        simp only [Bool.and_eq_true] at hi
        simp only [Option.map_eq_some_iff] at h2
        obtain ⟨b', hb', rfl⟩ := h2
        obtain ⟨u', e1, e2⟩ := (rvs_iff.1 hx).2 _ _ hu
        obtain ⟨v', e3, e4⟩ := (rvs_iff.1 hy).2 _ _ hv
        have := scR e2; subst this
        have := scR e4; subst this
        have hag := keyKd_agg hkd
        have pa : (part e us.toArray (i * 1)).run P G.w = .ok u' G.w := by simp [part, run_isAggT hag, e1]
        have pb : (part e vs.toArray (i * 1)).run P G.w = .ok v' G.w := by simp [part, run_isAggT hag, e3]
        have ih := run_eqEs hR hx hy d hkd is b' hb'
        simp only [Op.eqItems, Sem.run_bind, pa, pb, Result.andThen_ok, run_key hkd hi.1 hi.2]
        cases hke : keyEq u' v'
        · simp
        · simp [ih]
      · cases h2
    · cases h2
theorem ok_eqArr (hR : Rel G) {neg : Bool} {t : TypeId} {n : Nat} {e : TypeId} {ks : List (KeyKd × Nat)} {x y : AV} {u v : Value} (ht : P.underlying t = some (.array n e)) (hk : eqElems P t n e = some ks)
    (h : match x, y with
      | .agg xs, .agg ys => orK (eqFs ks xs ys) fun b => K (boolK neg b) G.S
      | _, _ => False) (hx : Rv G x u) (hy : Rv G y v) (ox oy : Operand) :
    ∃ r, ((do eqGuard (if neg then .neq else .eql) t ox oy u v; binOp (if neg then .neq else .eql) t u v) : Sem Value).run P G.w = .ok r G.w ∧ ∃ z, Rv G z r ∧ K z G.S := by
  split at h
  · rename_i xs ys
    obtain ⟨b, hb, hK⟩ := orK_elim h
    simp only [Rv] at hx hy
    obtain ⟨us, rfl, h1⟩ := hx
    obtain ⟨vs, rfl, h2⟩ := hy
    unfold eqElems at hk
    split at hk
    · rename_i hc
      simp only [Bool.and_eq_true, Bool.not_eq_true', beq_iff_eq] at hc
      obtain ⟨⟨⟨hg, hh⟩, hce⟩, _⟩ := hc
      simp only [Option.map_eq_some_iff] at hk
      obtain ⟨kd, hkd, rfl⟩ := hk
      obtain ⟨i, hi⟩ := Option.isSome_iff_exists.1 hh
      have hrun := run_eqEs hR h1 h2 9998 hkd (List.range n) b hb
      have he : (Op.equalIn 10000 t (.agg us.toArray) (.agg vs.toArray)).run P G.w = .ok b G.w := by
        rw [run_equalIn_array G.w 9999 _ _ ht hi, hce]; exact hrun
      refine ⟨.bool (if neg then !b else b), ?_, boolK neg b, by simp only [Rv, boolK], hK⟩
      simp only [Sem.run_bind, run_eqGuard_agg G.w _ t ox oy _ _ hg, Result.andThen_ok]
      cases neg
      · simp only [Bool.false_eq_true, if_false, run_eql_struct, he, Result.andThen_ok]
      · simp only [if_true, run_neq_struct, he, Result.andThen_ok]
    · cases hk
  · exact h.elim

theorem ok_mkmap (hR : Rel G) (t : TypeId) (h : K (.mp G.S.n) (G.S.add (.map []))) : ∃ v w', (Instr.makeMap t none).run P G.w = .ok v w' ∧ Left G K v w' := by
  have hR' : Rel (G.add (.map #[] 0) (.map [])) := add_rel hR ⟨G.w.heap.size, #[], 0, by simp [Ctx.add], heap_alloc_eq _ _, by simp [Ents]⟩
  refine ⟨_, _, by simp [Instr.makeMap]; exact ⟨rfl, rfl⟩, G.add (.map #[] 0) (.map []), .mp G.S.n, rfl, hR', add_step hR _ _, ?_, h⟩
  simp only [Rv]
  exact ⟨by simp [Ctx.add, St.add], ⟨_, rfl⟩, fun es hm => ⟨G.w.heap.size, by simp [Ctx.add], rfl⟩⟩

theorem ents_snoc {G : Ctx} {es : List (Value × AV)} {us : List MapEntry} {k : Value} {x : AV} {v : Value} {c : Nat} (h : Ents G es us) (hx : Rv G x v) : Ents G (es ++ [(k, x)]) (us ++ [{ key := k, val := v, born := c }]) := by
  obtain ⟨h1, h2⟩ := ents_iff.1 h
  refine ents_iff.2 ⟨by simp [h1], ?_⟩
  simp only [List.map_append, List.map_cons, List.map_nil]
  exact rvs_append h2 (by simp only [Rvs]; exact ⟨v, [], rfl, hx, rfl⟩)
theorem ents_set {G : Ctx} {k : Value} {x : AV} {v : Value} (hx : Rv G x v) : ∀ {es : List (Value × AV)} {us : List MapEntry} (j : Nat), Ents G es us → Ents G (es.set j (k, x)) (us.modify j fun e => { e with key := k, val := v })
  | [], us, j, h => by simp only [Ents] at h; subst h; simp [Ents]
  | y :: es, us, j, h => by
    simp only [Ents] at h
    obtain ⟨u, us', rfl, h1, h2, h3⟩ := h
    cases j with
    | zero => simp only [List.set_cons_zero, List.modify_zero_cons, Ents]; exact ⟨_, us', rfl, rfl, hx, h3⟩
    | succ j => simp only [List.set_cons_succ, List.modify_succ_cons, Ents]; exact ⟨u, _, rfl, h1, h2, ents_set hx j h3⟩
theorem ok_mupd (hR : Rel G) {t kt e : TypeId} {kd : KeyKd} {x y z : AV} {u v a : Value} (ht : P.underlying t = some (.map kt e)) (hk : keyKd P kt = some kd)
    (h : match x, y with
      | .mp l, .sc v => orK (G.S.map? l) fun es => keysOk kd es = true ∧ kd.is v = true ∧ K (.sc undef) (G.S.set l (.map (updE es v z)))
      | _, _ => False) (hx : Rv G x u) (hy : Rv G y v) (hz : Rv G z a) : ∃ w', (Instr.mapUpdate t u v a).run P G.w = .ok () w' ∧ Left G K undef w' := by
  split at h
  · rename_i l kv
    have hvk := scR hy
    subst hvk
    obtain ⟨es, hm, h1, h2, h3⟩ := orK_elim h
    have hd := keyKd_some hk
    unfold St.map? at hm
    split at hm
    · rename_i es' ho
      cases hm
      simp only [Rv] at hx
      obtain ⟨b, hb, rfl⟩ := hx.2.2 _ ho
      obtain ⟨b', en, cl, g1, g2, g3⟩ := hR.ok _ _ ho
      rw [hb] at g1; cases g1
      have hlive : G.live l b := ⟨⟨_, ho⟩, hb⟩
      have fin : ∀ (en' : Array MapEntry) (cl' : Nat) (es' : List (Value × AV)), Ents G es' en'.toList → Left G (fun _ S => S = G.S.set l (.map es')) undef { G.w with heap := G.w.heap.setIfInBounds b (.map en' cl') } := fun en' cl' es' hen => by
        have hoth : ∀ b', b' ≠ b → ({ G.w with heap := G.w.heap.setIfInBounds b (.map en' cl') } : World).heap[b']? = G.w.heap[b']? := fun b' hb' => by
          simp [Array.getElem?_setIfInBounds, Ne.symm hb']
        have hst : Step G (G.put { G.w with heap := G.w.heap.setIfInBounds b (.map en' cl') } l (.map es')) := put_step hR hlive rfl rfl (Nat.le_refl _) rfl (by simp) hoth ⟨es, ho⟩
        have hlt : b < G.w.heap.size := (Array.getElem?_eq_some_iff.1 g2).1
        refine ⟨_, .sc undef, rfl, put_rel hR hlive hst hoth ⟨b, en', cl', hb, ?_, hen.step hst⟩, hst, by simp only [Rv], rfl⟩
        show (G.w.heap.setIfInBounds b (.map en' cl'))[b]? = _
        simp [hlt]
      rcases find_now h2 0 g3 h1 with ⟨a1, a2, a3⟩ | ⟨j, x', u', a1, a2, a3, a4, a5, a6, a7⟩
      · have hf := find_key hd a2 G.w
        refine ⟨{ G.w with heap := G.w.heap.setIfInBounds b (.map (en.push { key := v, val := a, born := cl }) (cl + 1)) }, ?_, ?_⟩
        · simp [Instr.mapUpdate, run_underlying ht, get_map g2, check_key hd h2, hf, set_map _ g2]
        · obtain ⟨G', r, b1, b2, b3, b4, b5⟩ := fin (en.push { key := v, val := a, born := cl }) (cl + 1) (updE es v z) (by rw [a3]; simpa using ents_snoc g3 hz)
          exact ⟨G', .sc undef, b1, b2, b3, by simp only [Rv], by rw [b5]; exact h3⟩
      · have hf := find_key hd a4 G.w
        have hsb : Instr.sameBits 10000 u'.key v = true := same_bits a5 h2 a6 10000
        have hju : en[j]? = some u' := by simpa using a2
        refine ⟨{ G.w with heap := G.w.heap.setIfInBounds b (.map (en.modify j fun e => { e with key := v, val := a }) cl) }, ?_, ?_⟩
        · simp [Instr.mapUpdate, run_underlying ht, get_map g2, check_key hd h2, hf, Instr.keyThatStays, hju, hsb, set_map _ g2]
        · obtain ⟨G', r, b1, b2, b3, b4, b5⟩ := fin (en.modify j fun e => { e with key := v, val := a }) cl (updE es v z) (by rw [a7]; simpa using ents_set hz j g3)
          exact ⟨G', .sc undef, b1, b2, b3, by simp only [Rv], by rw [b5]; exact h3⟩
    · cases hm
  · exact h.elim

theorem places_ok {t : TypeId} {ps : List (Nat × Operand)} {qs : List (Nat × Nat × SA)} {ρ : Operand → Value} {fr : Fr} (hq : places P t ps = some qs)
    (hop : ∀ p s, p ∈ ps → sa p.2 = some s → Rv G (evS fr s) (ρ p.2)) :
    (ps.map fun p => (p.1, ρ p.2)).length = (qs.map fun p => (p.1, p.2.1, evS fr p.2.2)).length ∧
    match P.underlying t with
    | some (.struct fs) => fs.toList.all (fun f => has P f.type) = true ∧ ∀ (j : Nat) (p : Nat × Value) (q : Nat × Nat × AV), (ps.map fun p => (p.1, ρ p.2))[j]? = some p → (qs.map fun p => (p.1, p.2.1, evS fr p.2.2))[j]? = some q → (∃ f, fs[p.1]? = some f ∧ q.1 = f.offset ∧ q.2.1 = P.cellsOf f.type) ∧ Rv G q.2.2 p.2
    | some (.array _ e) | some (.slice e) => has P e = true ∧ ∀ (j : Nat) (p : Nat × Value) (q : Nat × Nat × AV), (ps.map fun p => (p.1, ρ p.2))[j]? = some p → (qs.map fun p => (p.1, p.2.1, evS fr p.2.2))[j]? = some q → (q.1 = p.1 * P.cellsOf e ∧ q.2.1 = P.cellsOf e) ∧ Rv G q.2.2 p.2
    | _ => False := by
  have gen : ∀ (e : TypeId) (ps : List (Nat × Operand)) (qs : List (Nat × Nat × SA)), (ps.mapM fun (p : Nat × Operand) => (do pure (p.1 * P.cellsOf e, P.cellsOf e, ← sa p.2) : Option (Nat × Nat × SA))) = some qs → (∀ p s, p ∈ ps → sa p.2 = some s → Rv G (evS fr s) (ρ p.2)) →
      ps.length = qs.length ∧ ∀ (j : Nat) (p : Nat × Value) (q : Nat × Nat × AV), (ps.map fun p => (p.1, ρ p.2))[j]? = some p → (qs.map fun p => (p.1, p.2.1, evS fr p.2.2))[j]? = some q → (q.1 = p.1 * P.cellsOf e ∧ q.2.1 = P.cellsOf e) ∧ Rv G q.2.2 p.2 := by
    intro e ps
    induction ps with
    | nil => intro qs h _; simp at h; subst h; exact ⟨rfl, fun j p q h => by simp at h⟩
    | cons p ps ih =>
      intro qs h hop
      simp only [List.mapM_cons, Option.bind_eq_bind, Option.bind_eq_some_iff, Option.pure_def, Option.some.injEq] at h
      obtain ⟨q, ⟨s, hs, rfl⟩, qs', hq, rfl⟩ := h
      obtain ⟨i1, i2⟩ := ih qs' hq fun p' s' hp' => hop p' s' (by simp [hp'])
      refine ⟨by simp [i1], fun j p' q' h1 h2 => ?_⟩
      cases j with
      | zero => simp at h1 h2; subst h1; subst h2; exact ⟨⟨rfl, rfl⟩, hop p s (by simp) hs⟩
      | succ j => exact i2 j p' q' (by simpa using h1) (by simpa using h2)
  have genS : ∀ (fs : Array Field) (ps : List (Nat × Operand)) (qs : List (Nat × Nat × SA)), (ps.mapM fun (p : Nat × Operand) => (do
        let f ← fs[p.1]?
        pure (f.offset, P.cellsOf f.type, ← sa p.2) : Option (Nat × Nat × SA))) = some qs → (∀ p s, p ∈ ps → sa p.2 = some s → Rv G (evS fr s) (ρ p.2)) →
      ps.length = qs.length ∧ ∀ (j : Nat) (p : Nat × Value) (q : Nat × Nat × AV), (ps.map fun p => (p.1, ρ p.2))[j]? = some p → (qs.map fun p => (p.1, p.2.1, evS fr p.2.2))[j]? = some q → (∃ f, fs[p.1]? = some f ∧ q.1 = f.offset ∧ q.2.1 = P.cellsOf f.type) ∧ Rv G q.2.2 p.2 := by
    intro fs ps
    induction ps with
    | nil => intro qs h _; simp at h; subst h; exact ⟨rfl, fun j p q h => by simp at h⟩
    | cons p ps ih =>
      intro qs h hop
      simp only [List.mapM_cons, Option.bind_eq_bind, Option.bind_eq_some_iff, Option.pure_def, Option.some.injEq] at h
      obtain ⟨q, ⟨f, hf, s, hs, rfl⟩, qs', hq, rfl⟩ := h
      obtain ⟨i1, i2⟩ := ih qs' hq fun p' s' hp' => hop p' s' (by simp [hp'])
      refine ⟨by simp [i1], fun j p' q' h1 h2 => ?_⟩
      cases j with
      | zero => simp at h1 h2; subst h1; subst h2; exact ⟨⟨f, hf, rfl, rfl⟩, hop p s (by simp) hs⟩
      | succ j => exact i2 j p' q' (by simpa using h1) (by simpa using h2)
  unfold places at hq
  split at hq
  · rename_i fs hu
    rw [hu]
    split at hq
    · rename_i hall
      obtain ⟨h1, h3⟩ := genS fs ps qs hq hop
      exact ⟨by simpa using h1, hall, h3⟩
    · cases hq
  · rename_i n e hu
    rw [hu]
    split at hq
    · rename_i hh
      obtain ⟨h1, h2⟩ := gen e ps qs hq hop
      exact ⟨by simpa using h1, hh, h2⟩
    · cases hq
  · rename_i e hu
    rw [hu]
    split at hq
    · rename_i hh
      obtain ⟨h1, h2⟩ := gen e ps qs hq hop
      exact ⟨by simpa using h1, hh, h2⟩
    · cases hq
  · cases hq

theorem enter_ok {f : FuncId} {fn : Func} (hf : P.funcs[f]? = some fn) (h1 : (fn.name == "runtime.NumGoroutine") = false) (h2 : fn.body.isNone = false) (args : Array Value) (w : World) : (callFunc f args).run P w = .ok (.enter f args) w := by
  simp only [callFunc, Sem.run_bind, run_program, Result.andThen_ok, hf, h1, h2, Bool.false_eq_true, if_false]
  rfl

theorem sop0_ok (hR : Rel G) {op : Op} {s : SOp} {o : Oper} (ho : o.op = op) {ρ : Operand → Value} {fr : Fr} (hs : sop0 P op = some s) (hop : ∀ x q, x ∈ op.operands → sa x = some q → Rv G (evS fr q) (ρ x)) (h : swp P s fr G.S K) : OpRun P (execOp ρ o) G K := by
  unfold execOp
  rw [ho]
  cases op with
  | move x =>
    simp only [sop0, Option.bind_eq_bind, Option.bind_eq_some_iff, Option.pure_def, Option.some.injEq] at hs
    obtain ⟨a, ha, rfl⟩ := hs
    exact opRun_same hR rfl (hop x a (by simp [Op.operands]) ha) h
  | assign x =>
    simp only [sop0, Option.bind_eq_bind, Option.bind_eq_some_iff, Option.pure_def, Option.some.injEq] at hs
    obtain ⟨a, ha, rfl⟩ := hs
    exact opRun_same hR rfl (hop x a (by simp [Op.operands]) ha) h
  | pick c a b =>
    simp only [sop0, Option.bind_eq_bind, Option.bind_eq_some_iff, Option.pure_def, Option.some.injEq] at hs
    obtain ⟨c', hc, a', ha, b', hb, rfl⟩ := hs
    have h1 := hop c c' (by simp [Op.operands]) hc
    simp only [swp] at h
    split at h
    · rename_i t ht
      rw [ht] at h1
      have h2 : ρ c = .bool t := scR h1
      cases t with
      | true => exact opRun_same hR (by simp [h2, asBool]) (hop a a' (by simp [Op.operands]) ha) (h.1 rfl)
      | false => exact opRun_same hR (by simp [h2, asBool]) (hop b b' (by simp [Op.operands]) hb) (h.2 rfl)
    · exact h.elim
  | load t a =>
    simp only [sop0, Option.bind_eq_bind, Option.bind_eq_some_iff, Option.pure_def, Option.some.injEq] at hs
    obtain ⟨g, hg, hs⟩ := hs
    split at hs
    · rename_i hh
      obtain ⟨a', ha, hs⟩ := Option.bind_eq_some_iff.1 hs
      cases hs
      exact value_same hR (ok_load hR hg hh (hop a a' (by simp [Op.operands]) ha) h)
    · cases hs
  | store t a x =>
    simp only [sop0] at hs
    split at hs
    · rename_i hh
      simp only [Option.bind_eq_bind, Option.bind_eq_some_iff, Option.pure_def, Option.some.injEq] at hs
      obtain ⟨a', ha, x', hx, rfl⟩ := hs
      obtain ⟨w', hr, hl⟩ := ok_store hR hh (hop a a' (by simp [Op.operands]) ha) (hop x x' (by simp [Op.operands]) hx) h
      exact .inl ⟨undef, w', .inr ⟨by simp [hr], rfl⟩, hl⟩
    · cases hs
  | alloc e =>
    simp only [sop0, Option.bind_eq_bind, Option.bind_eq_some_iff, Option.pure_def, Option.some.injEq] at hs
    obtain ⟨zs, hz, rfl⟩ := hs
    exact value_run (ok_alloc hR hz h.1 h.2)
  | box e x =>
    simp only [sop0, Option.bind_eq_bind, Option.bind_eq_some_iff, Option.pure_def, Option.some.injEq] at hs
    obtain ⟨x', hx, rfl⟩ := hs
    exact value_run (ok_box hR (hop x x' (by simp [Op.operands]) hx) h)
  | build t ps =>
    simp only [sop0, Option.bind_eq_bind, Option.bind_eq_some_iff] at hs
    obtain ⟨d, hd, hs⟩ := hs
    have key : ∃ zs qs, zeroCellsOf P t = some zs ∧ places P t ps.toList = some qs ∧ s = .build zs qs ∧ ((∃ fs, d = .struct fs) ∨ ∃ n e, d = .array n e) := by
      split at hs
      · simp only [Option.bind_eq_some_iff, Option.pure_def, Option.some.injEq] at hs
        obtain ⟨zs, hz, qs, hq, rfl⟩ := hs
        exact ⟨zs, qs, hz, hq, rfl, .inl ⟨_, rfl⟩⟩
      · simp only [Option.bind_eq_some_iff, Option.pure_def, Option.some.injEq] at hs
        obtain ⟨zs, hz, qs, hq, rfl⟩ := hs
        exact ⟨zs, qs, hz, hq, rfl, .inr ⟨_, _, rfl⟩⟩
      · cases hs
    obtain ⟨zs, qs, hz, hq, rfl, hd2⟩ := key
    obtain ⟨cs, hf, hK⟩ := orK_elim h
    obtain ⟨z, hz1, hz2⟩ := zeros_ok hz G.w
    obtain ⟨p1, p2⟩ := places_ok (ρ := ρ) (fr := fr) hq (fun p q hp hs => hop p.2 q (by simp only [Op.operands, Array.mem_def, List.mem_map]; exact ⟨p, hp, rfl⟩) hs)
    have pl : ∀ fs : List Field, fs.all (fun f => has P f.type) = true → fs.mapM (fun f => (P.info? f.type).map fun i => (f.offset, i.size)) = some (fs.map fun f => (f.offset, P.cellsOf f.type)) := by
      intro fs
      induction fs with
      | nil => intro _; rfl
      | cons f fs ih =>
        intro ha
        simp only [List.all_cons, Bool.and_eq_true] at ha
        obtain ⟨i, hi⟩ := Option.isSome_iff_exists.1 ha.1
        simp [List.mapM_cons, hi, ih ha.2, Program.cellsOf]
    have hz' := hz
    unfold zeroCellsOf at hz'
    obtain ⟨it, hit, hz'⟩ := Option.bind_eq_some_iff.1 hz'
    obtain ⟨z2, hz2', hz'⟩ := Option.bind_eq_some_iff.1 hz'
    have hzc : z2.cells = zs.toArray := by simp at hz'; rw [← hz']
    refine value_same hR ?_
    rw [hd] at p2
    rcases hd2 with ⟨fs, rfl⟩ | ⟨n, e, rfl⟩
    · obtain ⟨hall, p3⟩ := p2
      obtain ⟨vs', f1, f2⟩ := fill_ok (place := fun i => (fs.toList.map fun f => (f.offset, P.cellsOf f.type)).toArray[i]?) _ _ _ _ zs p1 (fun j p q a b => by
        obtain ⟨⟨f, x0, x1, x2⟩, x3⟩ := p3 j p q a b
        refine ⟨?_, x3⟩
        simp [x0, x1, x2]) (rvs_sc zs) hf
      refine ⟨.agg vs'.toArray, run_build G.w t _ _ ?_, _, by simp only [Rv]; exact ⟨_, rfl, f2⟩, hK⟩
      simp only [Program.built, hit, hd, hz2', pl fs.toList hall, hzc, Array.toList_map]
      exact f1
    · obtain ⟨hh, p3⟩ := p2
      obtain ⟨vs', f1, f2⟩ := fill_ok (place := fun i => some (i * P.cellsOf e, P.cellsOf e)) _ _ _ _ zs p1 (fun j p q a b => by obtain ⟨⟨x1, x2⟩, x3⟩ := p3 j p q a b; exact ⟨by rw [x1, x2], x3⟩) (rvs_sc zs) hf
      refine ⟨.agg vs'.toArray, run_build G.w t _ _ ?_, _, by simp only [Rv]; exact ⟨_, rfl, f2⟩, hK⟩
      obtain ⟨ie, hie⟩ := Option.isSome_iff_exists.1 hh
      have hs' : P.cellsOf e = ie.size := by simp [Program.cellsOf, hie]
      simp only [Program.built, hit, hd, hz2', hie, hzc, Array.toList_map]
      rw [hs'] at f1
      exact f1
  | buildSlice t len ps =>
    simp only [sop0] at hs
    split at hs
    · rename_i e hu
      split at hs
      · rename_i hc
        simp only [Bool.and_eq_true, decide_eq_true_eq] at hc
        simp only [Option.bind_eq_bind, Option.bind_eq_some_iff, Option.pure_def, Option.some.injEq] at hs
        obtain ⟨zs, hz, qs, hq, rfl⟩ := hs
        obtain ⟨cs, hf, hK⟩ := orK_elim h
        obtain ⟨p1, p2⟩ := places_ok (ρ := ρ) (fr := fr) hq (fun p q hp hs => hop p.2 q (by simp only [Op.operands, Array.mem_def, List.mem_map]; exact ⟨p, hp, rfl⟩) hs)
        rw [hu] at p2
        obtain ⟨hh, p3⟩ := p2
        obtain ⟨z, hz1, hz2⟩ := zeros_ok hz G.w
        obtain ⟨ie, hie⟩ := Option.isSome_iff_exists.1 hh
        have hs' : P.cellsOf e = ie.size := by simp [Program.cellsOf, hie]
        obtain ⟨us, hv1, hv2⟩ := zcells_ok (G := G) zs (len * P.cellsOf e)
        have hul : us.length = len * P.cellsOf e := by rw [← (rvs_iff.1 hv2).1]; simp [zcells]
        obtain ⟨vs', f1, f2⟩ := fill_ok (place := fun i => some (i * P.cellsOf e, P.cellsOf e)) _ _ _ _ us p1 (fun j p q a b => by obtain ⟨⟨x1, x2⟩, x3⟩ := p3 j p q a b; exact ⟨by rw [x1, x2], x3⟩) hv2 hf
        have fl : ∀ (qs : List (Nat × Nat × AV)) (cs cs' : List AV), fillA cs qs = some cs' → cs'.length = cs.length := by
          intro qs
          induction qs with
          | nil => intro cs cs' h; simp [fillA] at h; rw [h]
          | cons q qs ih =>
            intro cs cs' h
            obtain ⟨off, k, x⟩ := q
            simp only [fillA] at h
            split at h
            · rename_i xs hxs
              split at h
              · rename_i hc
                rw [ih _ _ h]
                simp
                omega
              · cases h
            · cases h
        have hlen : cs.length = len * P.cellsOf e := by rw [fl _ _ _ hf]; simp [zcells]
        have hvl := (rvs_iff.1 f2).1
        have hR' := add_row (k := P.cellsOf e) (e := e) hR vs'.toArray cs (by omega) f2.pre (by simp; omega)
        refine value_run ⟨.slice (some ⟨G.w.heap.size, 0, none⟩) len len, G.w.alloc (.cells vs'.toArray e), ?_, _, _, rfl, hR', add_step hR _ _, ?_, hK⟩
        · have r0 : ∀ f : Nat → Value, (Array.range 0).map f = #[] := fun f => by apply Array.eq_empty_of_size_eq_zero; simp
          have hsm : ¬ (16777216 < len * ie.size) := by rw [← hs']; omega
          rw [hs'] at f1 hv1
          simp only [Instr.buildSlice, Sem.run_bind, run_underlying hu, Result.andThen_ok, run_sizeOf' hh, hs']
          rw [if_neg (by simp; omega)]
          by_cases h0 : len * ie.size = 0
          · have hus : us = [] := List.eq_nil_of_length_eq_zero (by rw [hul, hs']; exact h0)
            subst hus
            have f1' : Instr.fill (fun i => some (i * ie.size, ie.size)) #[] (ps.toList.map fun p => (p.1, ρ p.2)) = some vs'.toArray := f1
            simp [h0, r0, f1', newRow]
            try rfl
          · have f1' : Instr.fill (fun i => some (i * ie.size, ie.size)) us.toArray (ps.toList.map fun p => (p.1, ρ p.2)) = some vs'.toArray := f1
            simp only [Sem.run_bind, run_program, Result.andThen_ok, Sem.run_pure, h0, if_false, hz1, hz2, hv1, Array.toList_map, f1', newRow, run_newObj]
            rfl
        · simp only [Rv]
          have := ref_new (n := len) (cap := len) hR hR' hlen.symm (by omega) (Nat.le_refl _) (by simp; omega)
          rw [hlen] at this
          exact this
      · cases hs
    · cases hs
  | nilCheck x =>
    simp only [sop0, Option.bind_eq_bind, Option.bind_eq_some_iff, Option.pure_def, Option.some.injEq] at hs
    obtain ⟨x', hx, rfl⟩ := hs
    have h1 := hop x x' (by simp [Op.operands]) hx
    simp only [swp] at h
    split at h
    · rename_i l tot off he
      obtain ⟨r, hr, hK⟩ := orK_elim h
      rw [he] at h1 hK
      have h2 := h1
      simp only [Rv] at h2
      obtain ⟨b, hb, hu⟩ := ptr_real h2 hr
      exact opRun_same hR (by simp [hu]) h1 hK
    · rename_i cs he
      rw [he] at h1 h
      have h2 := h1
      simp only [Rv] at h2
      obtain ⟨b, off, hu, _⟩ := h2
      exact opRun_same hR (by simp [hu]) h1 h
    · rename_i f cs he
      rw [he] at h1 h
      have h2 := h1
      simp only [Rv] at h2
      obtain ⟨vs, hu, _⟩ := h2
      exact opRun_same hR (by simp [hu]) h1 h
    · exact h.elim
  | binOp op t x y yt =>
    have hx : ∀ x', sa x = some x' → Rv G (evS fr x') (ρ x) := fun x' hx => hop x x' (by simp [Op.operands]) hx
    have hy : ∀ y', sa y = some y' → Rv G (evS fr y') (ρ y) := fun y' hy => hop y y' (by simp [Op.operands]) hy
    have plain : ∀ x' y', sa x = some x' → sa y = some y' → s = .bin op x' y' → OpRun P (((do eqGuard op t x y (ρ x) (ρ y); binOp op t (ρ x) (ρ y)) : Sem Value) >>= fun a => pure (Next.value a)) G K := by
      intro x' y' h1 h2 he
      subst he
      simp only [swp] at h
      have hx' := hx x' h1
      have hy' := hy y' h2
      split at h
      · rename_i u v hu hv
        rw [hu] at hx'
        rw [hv] at hy'
        rw [scR hx', scR hy']
        obtain ⟨⟨r, hr, hK⟩, g1, g2⟩ := ok_binV (P := P) (t := t) h G.w
        exact value_same hR ⟨r, by simp [run_eqGuard_ne (P := P) G.w g1 g2, hr], _, by simp [Rv], hK⟩
      · exact h.elim
    have eqs : ∀ (k : EqK) x' y', (op == .eql || op == .neq) = true → sa x = some x' → sa y = some y' → s = .eq (op == .neq) k x' y' →
        (match k with | .bool => P.underlying t = some .bool | .slice => ∃ e, P.underlying t = some (.slice e) | .func => ∃ a b c, P.underlying t = some (.func a b c) | .map => ∃ a b, P.underlying t = some (.map a b) | .ptr => ∃ e, P.underlying t = some (.pointer e)) →
        OpRun P (((do eqGuard op t x y (ρ x) (ρ y); binOp op t (ρ x) (ρ y)) : Sem Value) >>= fun a => pure (Next.value a)) G K := by
      intro k x' y' h0 h1 h2 he ht
      subst he
      simp only [swp] at h
      have hop2 : op = if (op == .neq) = true then .neq else .eql := by
        cases op <;> first | rfl | simp at h0
      obtain ⟨⟨r, hr, hK⟩, g1, g2⟩ := ok_eqA (P := P) hR (hx x' h1) (hy y' h2) ht h
      rw [← hop2] at hr
      exact value_same hR ⟨r, by simp [run_eqGuard_ne (P := P) G.w g1 g2, hr], hK⟩
    simp only [sop0] at hs
    split at hs
    · rename_i h0
      split at hs
      · obtain ⟨a, ha, hs⟩ := Option.bind_eq_some_iff.1 hs
        obtain ⟨b, hb, hs⟩ := Option.bind_eq_some_iff.1 hs
        exact plain a b ha hb (by cases hs; rfl)
      · obtain ⟨a, ha, hs⟩ := Option.bind_eq_some_iff.1 hs
        obtain ⟨b, hb, hs⟩ := Option.bind_eq_some_iff.1 hs
        exact plain a b ha hb (by cases hs; rfl)
      · rename_i ht
        obtain ⟨a, ha, hs⟩ := Option.bind_eq_some_iff.1 hs
        obtain ⟨b, hb, hs⟩ := Option.bind_eq_some_iff.1 hs
        exact eqs .bool a b h0 ha hb (by cases hs; rfl) ht
      · rename_i ht
        obtain ⟨a, ha, hs⟩ := Option.bind_eq_some_iff.1 hs
        obtain ⟨b, hb, hs⟩ := Option.bind_eq_some_iff.1 hs
        exact eqs .slice a b h0 ha hb (by cases hs; rfl) ⟨_, ht⟩
      · rename_i ht
        obtain ⟨a, ha, hs⟩ := Option.bind_eq_some_iff.1 hs
        obtain ⟨b, hb, hs⟩ := Option.bind_eq_some_iff.1 hs
        exact eqs .func a b h0 ha hb (by cases hs; rfl) ⟨_, _, _, ht⟩
      · rename_i ht
        obtain ⟨a, ha, hs⟩ := Option.bind_eq_some_iff.1 hs
        obtain ⟨b, hb, hs⟩ := Option.bind_eq_some_iff.1 hs
        exact eqs .map a b h0 ha hb (by cases hs; rfl) ⟨_, _, ht⟩
      · rename_i ht
        obtain ⟨a, ha, hs⟩ := Option.bind_eq_some_iff.1 hs
        obtain ⟨b, hb, hs⟩ := Option.bind_eq_some_iff.1 hs
        exact eqs .ptr a b h0 ha hb (by cases hs; rfl) ⟨_, ht⟩
      · rename_i fs ht
        obtain ⟨ks, hk, hs⟩ := Option.bind_eq_some_iff.1 hs
        obtain ⟨a, ha, hs⟩ := Option.bind_eq_some_iff.1 hs
        obtain ⟨b, hb, hs⟩ := Option.bind_eq_some_iff.1 hs
        cases hs
        have hop2 : op = if (op == .neq) = true then .neq else .eql := by
          cases op <;> first | rfl | simp at h0
        have := ok_eqS (P := P) hR ht hk h (hx a ha) (hy b hb) x y
        rw [← hop2] at this
        exact value_same hR this
      · rename_i n e ht
        obtain ⟨ks, hk, hs⟩ := Option.bind_eq_some_iff.1 hs
        obtain ⟨a, ha, hs⟩ := Option.bind_eq_some_iff.1 hs
        obtain ⟨b, hb, hs⟩ := Option.bind_eq_some_iff.1 hs
        cases hs
        have hop2 : op = if (op == .neq) = true then .neq else .eql := by
          cases op <;> first | rfl | simp at h0
        have := ok_eqArr (P := P) hR ht hk h (hx a ha) (hy b hb) x y
        rw [← hop2] at this
        exact value_same hR this
      · cases hs
    · obtain ⟨a, ha, hs⟩ := Option.bind_eq_some_iff.1 hs
      obtain ⟨b, hb, hs⟩ := Option.bind_eq_some_iff.1 hs
      exact plain a b ha hb (by cases hs; rfl)
  | unOp op t x =>
    show OpRun P (Op.unary op (ρ x) >>= fun a => pure (Next.value a)) G K
    simp only [sop0, Option.bind_eq_bind, Option.bind_eq_some_iff, Option.pure_def, Option.some.injEq] at hs
    obtain ⟨x', hx, rfl⟩ := hs
    have h1 := hop x x' (by simp [Op.operands]) hx
    simp only [swp] at h
    split at h
    · rename_i u he
      rw [he] at h1
      rw [scR h1]
      obtain ⟨r, hr, hK⟩ := ok_unV (P := P) h G.w
      exact value_same hR ⟨r, hr, _, by simp [Rv], hK⟩
    · exact h.elim
  | convert src dst x =>
    show OpRun P (convert src dst (ρ x) >>= fun a => pure (Next.value a)) G K
    simp only [sop0] at hs
    split at hs
    · rename_i k1 k2 hu1 hu2
      simp only [Option.bind_eq_bind, Option.bind_eq_some_iff, Option.pure_def, Option.some.injEq] at hs
      obtain ⟨x', hx, rfl⟩ := hs
      have h1 := hop x x' (by simp [Op.operands]) hx
      simp only [swp] at h
      split at h
      · rename_i k n he
        rw [he] at h1
        rw [scR h1]
        exact value_same hR ⟨_, by simp [convert, run_underlying hu1, run_underlying hu2, Conv.intToInt]; rfl, _, by simp [Rv], h⟩
      · exact h.elim
    · rename_i hu1 hu2
      simp only [Option.bind_eq_bind, Option.bind_eq_some_iff, Option.pure_def, Option.some.injEq] at hs
      obtain ⟨x', hx, rfl⟩ := hs
      have h1 := hop x x' (by simp [Op.operands]) hx
      simp only [swp] at h
      split at h
      · rename_i q he
        rw [he] at h1
        rw [scR h1]
        exact value_same hR ⟨_, by simp [convert, run_underlying hu1, run_underlying hu2]; rfl, _, by simp [Rv], h⟩
      · exact h.elim
    · cases hs
  | makeFunc fn first caps =>
    cases fn <;> simp only [sop0] at hs <;> try (cases hs; done)
    rename_i f
    split at hs
    · rename_i he
      simp only [Option.bind_eq_bind, Option.bind_eq_some_iff, Option.pure_def, Option.some.injEq] at hs
      obtain ⟨cs, hc, rfl⟩ := hs
      have hf : first = #[] := by simpa using he
      subst hf
      have hcs := rvs_map (G := G) (ρ := ρ) (fr := fr) hc (fun x q hx => hop x q (by show x ∈ (#[] ++ caps : Array Operand); exact Array.mem_append.2 (.inr (Array.mem_def.2 hx))))
      refine value_same hR ⟨.func (.func f) #[] (caps.toList.map ρ).toArray, ?_, .clo f (cs.map (evS fr)), by simp only [Rv]; exact ⟨_, rfl, hcs⟩, h⟩
      have e1 : (caps.toList.map ρ).toArray = caps.map ρ := by rw [← Array.toList_map]
      rw [e1]
      simp [Instr.makeFunc]
    · split at hs
      · rename_i he
        simp only [Option.bind_eq_bind, Option.bind_eq_some_iff, Option.pure_def, Option.some.injEq] at hs
        obtain ⟨cs, hc, rfl⟩ := hs
        have hf : caps = #[] := by simpa using he
        subst hf
        have hcs := rvs_map (G := G) (ρ := ρ) (fr := fr) hc (fun x q hx => hop x q (by show x ∈ (first ++ #[] : Array Operand); exact Array.mem_append.2 (.inl (Array.mem_def.2 hx))))
        refine value_same hR ⟨.func (.func f) (first.toList.map ρ).toArray #[], ?_, .bnd f (cs.map (evS fr)), by simp only [Rv]; exact ⟨_, rfl, hcs⟩, h⟩
        have e1 : (first.toList.map ρ).toArray = first.map ρ := by rw [← Array.toList_map]
        rw [e1]
        simp [Instr.makeFunc]
      · cases hs
  | makeInterface t x =>
    simp only [sop0] at hs
    split at hs
    · cases hs
    · rename_i d hni hu
      simp only [Option.bind_eq_bind, Option.bind_eq_some_iff, Option.pure_def, Option.some.injEq] at hs
      obtain ⟨x', hx, rfl⟩ := hs
      have h1 := hop x x' (by simp [Op.operands]) hx
      refine value_same hR ⟨.iface t (ρ x), ?_, .ifc t (evS fr x'), by simp only [Rv]; exact ⟨_, rfl, h1⟩, h⟩
      simp only [Instr.makeInterface, Sem.run_bind, run_underlying hu, Result.andThen_ok]
      cases d <;> first | rfl | exact absurd rfl (hni _)
    · cases hs
  | makeSlice t l c =>
    simp only [sop0] at hs
    split at hs
    · rename_i e hu
      split at hs
      · rename_i hh
        simp only [Option.bind_eq_bind, Option.bind_eq_some_iff, Option.pure_def, Option.some.injEq] at hs
        obtain ⟨zs, hz, l', hl, c', hc, rfl⟩ := hs
        simp only [swp] at h
        obtain ⟨n, hn, h⟩ := orK_elim h
        obtain ⟨m, hm, h0, h1, h2, h3, h4, hK⟩ := orK_elim h
        exact value_run (ok_mksl hR hu hh hz (hop l l' (by simp [Op.operands]) hl) (hop c c' (by simp [Op.operands]) hc) hn hm h0 h1 h2 h3 h4 hK)
      · cases hs
    · cases hs
  | slice t x lo hi mx =>
    cases mx with
    | some m => simp [sop0] at hs
    | none =>
      have hlo : ∀ y q, lo = some y → sa y = some q → Rv G (evS fr q) (ρ y) := fun y q h1 h2 => hop y q (by subst h1; simp [Op.operands]) h2
      have hhi : ∀ y q, hi = some y → sa y = some q → Rv G (evS fr q) (ρ y) := fun y q h1 h2 => hop y q (by subst h1; simp [Op.operands]) h2
      have hxx : ∀ q, sa x = some q → Rv G (evS fr q) (ρ x) := fun q h2 => hop x q (by simp [Op.operands]) h2
      simp only [sop0] at hs
      split at hs
      · rename_i hu
        simp only [Option.bind_eq_bind, Option.bind_eq_some_iff, Option.pure_def, Option.some.injEq] at hs
        obtain ⟨x', hx, l', hl, h', hh', rfl⟩ := hs
        exact value_same hR (ok_sls hR hu (hxx x' hx) hl hh' hlo hhi h)
      · rename_i e hu
        split at hs
        · rename_i hh
          simp only [Option.bind_eq_bind, Option.bind_eq_some_iff, Option.pure_def, Option.some.injEq] at hs
          obtain ⟨x', hx, l', hl, h', hh', rfl⟩ := hs
          exact value_same hR (ok_sl hR hu hh (hxx x' hx) hl hh' hlo hhi h)
        · cases hs
      · cases hs
  | fieldAddr t x f =>
    simp only [sop0] at hs
    split at hs
    · rename_i fs hu
      simp only [Option.bind_eq_bind, Option.bind_eq_some_iff] at hs
      obtain ⟨fd, hf, hs⟩ := hs
      split at hs
      · rename_i hh
        simp only [Bool.and_eq_true] at hh
        obtain ⟨x', hx, hs⟩ := Option.bind_eq_some_iff.1 hs
        cases hs
        exact value_same hR (ok_faddr hR hu hf hh.1 hh.2 (hop x x' (by simp [Op.operands]) hx) h)
      · cases hs
    · cases hs
  | field t x f =>
    simp only [sop0] at hs
    split at hs
    · rename_i fs hu
      simp only [Option.bind_eq_bind, Option.bind_eq_some_iff] at hs
      obtain ⟨fd, hf, g, hg, hs⟩ := hs
      split at hs
      · rename_i hh
        obtain ⟨x', hx, hs⟩ := Option.bind_eq_some_iff.1 hs
        cases hs
        exact value_same hR (ok_fld hR hu hf hg hh (hop x x' (by simp [Op.operands]) hx) h)
      · cases hs
    · cases hs
  | indexAddr t x i =>
    simp only [sop0] at hs
    split at hs
    · rename_i e hu
      split at hs
      · rename_i hh
        simp only [Option.bind_eq_bind, Option.bind_eq_some_iff, Option.pure_def, Option.some.injEq] at hs
        obtain ⟨x', hx, i', hi, rfl⟩ := hs
        simp only [swp] at h
        obtain ⟨j, hj, h⟩ := orK_elim h
        exact value_same hR (ok_iaddr hR hu hh (hop x x' (by simp [Op.operands]) hx) (hop i i' (by simp [Op.operands]) hi) hj h)
      · cases hs
    · rename_i n e hu
      split at hs
      · rename_i hh
        simp only [Option.bind_eq_bind, Option.bind_eq_some_iff, Option.pure_def, Option.some.injEq] at hs
        obtain ⟨x', hx, i', hi, rfl⟩ := hs
        simp only [swp] at h
        obtain ⟨j, hj, h⟩ := orK_elim h
        exact value_same hR (ok_iaddrA hR hu hh (hop x x' (by simp [Op.operands]) hx) (hop i i' (by simp [Op.operands]) hi) hj h)
      · cases hs
    · cases hs
  | index t x i =>
    simp only [sop0] at hs
    split at hs
    · rename_i hu
      simp only [Option.bind_eq_bind, Option.bind_eq_some_iff, Option.pure_def, Option.some.injEq] at hs
      obtain ⟨x', hx, i', hi, rfl⟩ := hs
      simp only [swp] at h
      obtain ⟨j, hj, h⟩ := orK_elim h
      exact value_same hR (ok_ixs hR hu (hop x x' (by simp [Op.operands]) hx) (hop i i' (by simp [Op.operands]) hi) hj h)
    · rename_i n e hu
      simp only [Option.bind_eq_bind, Option.bind_eq_some_iff] at hs
      obtain ⟨g, hg, hs⟩ := hs
      split at hs
      · rename_i hh
        obtain ⟨x', hx, hs⟩ := Option.bind_eq_some_iff.1 hs
        obtain ⟨i', hi, hs⟩ := Option.bind_eq_some_iff.1 hs
        cases hs
        simp only [swp] at h
        obtain ⟨j, hj, h⟩ := orK_elim h
        exact value_same hR (ok_ixa hR hu hg hh (hop x x' (by simp [Op.operands]) hx) (hop i i' (by simp [Op.operands]) hi) hj h)
      · cases hs
    · cases hs
  | extract x i =>
    simp only [sop0, Option.bind_eq_bind, Option.bind_eq_some_iff, Option.pure_def, Option.some.injEq] at hs
    obtain ⟨x', hx, rfl⟩ := hs
    have h1 := hop x x' (by simp [Op.operands]) hx
    simp only [swp] at h
    split at h
    · rename_i vs he
      rw [he] at h1
      simp only [Rv] at h1
      obtain ⟨us, hu, hvs⟩ := h1
      obtain ⟨c, hc, hK⟩ := orK_elim h
      obtain ⟨v, hv, hr⟩ := (rvs_iff.1 hvs).2 i c hc
      exact value_same hR ⟨v, by simp [Instr.extract, hu, hv], c, hr, hK⟩
    · exact h.elim
  | call c =>
    obtain ⟨callee, args, argTypes⟩ := c
    cases callee with
    | value f =>
      simp only [sop0, Option.bind_eq_bind, Option.bind_eq_some_iff, Option.pure_def, Option.some.injEq] at hs
      obtain ⟨f', hf, as, has_, rfl⟩ := hs
      have h1 := hop f f' (by simp [Op.operands, Call.operands]) hf
      have h2 := rvs_map (G := G) (ρ := ρ) (fr := fr) has_ (fun x q hx => hop x q (by simp only [Op.operands, Call.operands]; exact Array.mem_append.2 (.inr (Array.mem_def.2 hx))))
      simp only [swp] at h
      split at h
      · rename_i g caps he
        rw [he] at h1
        simp only [Rv] at h1
        obtain ⟨vs, hu, hvs⟩ := h1
        obtain ⟨⟨fn, hfn, n1, n2⟩, hc⟩ := h
        have hcall := hc G _ rfl hR (rvs_append h2 hvs)
        refine .inr ⟨g, (args.toList.map ρ ++ vs).toArray, ?_, ?_⟩
        · have e1 : (args.toList.map ρ ++ vs).toArray = args.map ρ ++ vs.toArray := by simp
          rw [e1, ← enter_ok hfn n1 n2 (args.map ρ ++ vs.toArray) G.w]
          simp [resolve, hu, Deferred.ofValue, invoke]
        · exact hcall.mono fun e w' ⟨G', r, v, h1, h2, h3, h4, h5, h6⟩ => ⟨v, h1, G', r, h2, h3, h4, h5, h6⟩
      · rename_i g caps he
        rw [he] at h1
        simp only [Rv] at h1
        obtain ⟨vs, hu, hvs⟩ := h1
        obtain ⟨⟨fn, hfn, n1, n2⟩, hc⟩ := h
        have hcall := hc G _ rfl hR (rvs_append hvs h2)
        refine .inr ⟨g, (vs ++ args.toList.map ρ).toArray, ?_, ?_⟩
        · have e1 : (vs ++ args.toList.map ρ).toArray = vs.toArray ++ args.map ρ := by simp
          rw [e1, ← enter_ok hfn n1 n2 (vs.toArray ++ args.map ρ) G.w]
          simp [resolve, hu, Deferred.ofValue, invoke]
        · exact hcall.mono fun e w' ⟨G', r, v, h1, h2, h3, h4, h5, h6⟩ => ⟨v, h1, G', r, h2, h3, h4, h5, h6⟩
      · exact h.elim
    | invoke a b => simp [sop0] at hs
    | builtin b =>
      have bv : ∀ (x : Sem Value), (do let d ← resolve ρ ⟨.builtin b, args, argTypes⟩ o.type; invoke d.target d.args : Sem Next) = (do pure (Next.value (← x)) : Sem Next) → OpRun P (do pure (Next.value (← x)) : Sem Next) G K → OpRun P (do let d ← resolve ρ ⟨.builtin b, args, argTypes⟩ o.type; invoke d.target d.args : Sem Next) G K := fun x e h => by rw [e]; exact h
      have l1 : ∀ {α : Type} {a : Array α} {x : α}, a.toList = [x] → a = #[x] := fun {α a} => by intros; cases a; simp_all
      have l3 : ∀ {α : Type} {a : Array α} {x y z : α}, a.toList = [x, y, z] → a = #[x, y, z] := fun {α a} => by intros; cases a; simp_all
      have l2 : ∀ {α : Type} {a : Array α} {x y : α}, a.toList = [x, y] → a = #[x, y] := fun {α a} => by intros; cases a; simp_all
      have hb : sopB P b args.toList argTypes.toList = some s := hs
      clear hs
      have hs := hb
      clear hb
      cases b <;> simp only [sopB] at hs <;> try (cases hs; done)
      case cap =>
       split at hs
       · rename_i x t e1 e2
         have e1 := l1 e1
         have e2 := l1 e2
         subst e1
         subst e2
         have hxx : ∀ q, sa x = some q → Rv G (evS fr q) (ρ x) := fun q h2 => hop x q (by simp [Op.operands, Call.operands]) h2
         refine bv (Builtin.cap_ #[t] o.type #[ρ x]) (by simp [resolve, invoke, builtin]) ?_
         split at hs
         · rename_i e hu
           simp only [Option.bind_eq_bind, Option.bind_eq_some_iff, Option.pure_def, Option.some.injEq] at hs
           obtain ⟨x', hx, rfl⟩ := hs
           have h1 := hxx x' hx
           simp only [swp] at h
           split at h
           · rename_i he
             rw [he] at h1
             rw [scR h1]
             exact value_same hR ⟨_, by simp [Builtin.cap_, run_underlying hu]; rfl, _, by simp [Rv, goInt], h⟩
           · exact h.elim
         · cases hs
       · cases hs
      case len =>
       split at hs
       · rename_i x t e1 e2
         have e1 := l1 e1
         have e2 := l1 e2
         subst e1
         subst e2
         have hxx : ∀ q, sa x = some q → Rv G (evS fr q) (ρ x) := fun q h2 => hop x q (by simp [Op.operands, Call.operands]) h2
         refine bv (Builtin.len_ #[t] o.type #[ρ x]) (by simp [resolve, invoke, builtin]) ?_
         split at hs
         · rename_i hu
           simp only [Option.bind_eq_bind, Option.bind_eq_some_iff, Option.pure_def, Option.some.injEq] at hs
           obtain ⟨x', hx, rfl⟩ := hs
           have h1 := hxx x' hx
           simp only [swp] at h
           split at h
           · rename_i q he
             rw [he] at h1
             rw [scR h1]
             exact value_same hR ⟨_, by simp [Builtin.len_, run_underlying hu]; rfl, _, by simp [Rv, goInt], h⟩
           · exact h.elim
         · rename_i e hu
           simp only [Option.bind_eq_bind, Option.bind_eq_some_iff, Option.pure_def, Option.some.injEq] at hs
           obtain ⟨x', hx, rfl⟩ := hs
           have h1 := hxx x' hx
           simp only [swp] at h
           split at h
           · rename_i n cs he
             rw [he] at h1
             simp only [Rv] at h1
             obtain ⟨a, c, hv, _, hn, _⟩ := h1
             rw [hv]
             exact value_same hR ⟨_, by simp [Builtin.len_, run_underlying hu]; rfl, _, by simp [Rv, goInt], h hn⟩
           · rename_i l tot off n he
             obtain ⟨r, hr, hK⟩ := orK_elim h
             rw [he] at h1
             simp only [Rv] at h1
             obtain ⟨hm, htot⟩ := row?_some hr
             have hle : ∃ a cap, ρ x = .slice a n cap ∧ n ≤ 9223372036854775807 := by
               rcases ref_real h1 hr with ⟨_, _, _, rfl, hv⟩ | ⟨b, c, cap, hbl, hc, hv, hn, hf, _⟩
               · exact ⟨none, 0, hv, by omega⟩
               · rcases hv with hv | ⟨_, rfl, _, o', hv⟩
                 · exact ⟨_, _, hv, hn.2⟩
                 · exact ⟨_, _, hv, by omega⟩
             obtain ⟨a, cap, hv, hn⟩ := hle
             rw [hv]
             exact value_same hR ⟨_, by simp [Builtin.len_, run_underlying hu]; rfl, _, by simp [Rv, goInt], hK hn⟩
           · rename_i c he
             rw [he] at h1
             rw [scR h1]
             exact value_same hR ⟨_, by simp [Builtin.len_, run_underlying hu]; rfl, _, by simp [Rv, goInt], h⟩
           · exact h.elim
         · rename_i ky e hu
           simp only [Option.bind_eq_bind, Option.bind_eq_some_iff, Option.pure_def, Option.some.injEq] at hs
           obtain ⟨x', hx, rfl⟩ := hs
           have h1 := hxx x' hx
           simp only [swp] at h
           obtain ⟨es, hm, hK⟩ := orK_elim h
           rcases map_real hR h1 hm with ⟨hv, rfl⟩ | ⟨b, en, cl, hv, hb, hent⟩
           · rw [hv]
             exact value_same hR ⟨_, by simp [Builtin.len_, run_underlying hu]; rfl, _, by simp [Rv, goInt], hK⟩
           · rw [hv]
             have hl := ents_len hent
             exact value_same hR ⟨_, by simp [Builtin.len_, run_underlying hu, get_map hb]; rfl, _, by simp [Rv, goInt, ← hl], hK⟩
         · cases hs
       · cases hs
      case append =>
       split at hs
       · rename_i x y t u e1 e2
         have e1 := l2 e1
         have e2 := l2 e2
         subst e1
         subst e2
         have hxx : ∀ q, sa x = some q → Rv G (evS fr q) (ρ x) := fun q h2 => hop x q (by simp [Op.operands, Call.operands]) h2
         have hyy : ∀ q, sa y = some q → Rv G (evS fr q) (ρ y) := fun q h2 => hop y q (by simp [Op.operands, Call.operands]) h2
         refine bv (Builtin.append_ #[t, u] o.type #[ρ x, ρ y]) (by simp [resolve, invoke, builtin]) ?_
         split at hs
         · rename_i e hu
           split at hs
           · rename_i hc
             simp only [Bool.and_eq_true, decide_eq_true_eq, beq_iff_eq] at hc
             obtain ⟨⟨⟨hh, rfl⟩, hz⟩, hk⟩ := hc
             simp only [Option.bind_eq_bind, Option.bind_eq_some_iff, Option.pure_def, Option.some.injEq] at hs
             obtain ⟨x', hx, y', hy, rfl⟩ := hs
             simp only [swp] at h
             obtain ⟨src, hsrc, h⟩ := orK_elim h
             have hz1 : ((P.info? e).bind (·.zero)).isSome = true ∧ ∀ i z, P.info? e = some i → i.zero = some z → z.cells.size = P.cellsOf e := by
               unfold zok at hz
               cases hi : P.info? e with
               | none => simp [hi] at hz
               | some i =>
                 cases hq : i.zero with
                 | none => simp [hi, hq] at hz
                 | some z =>
                   simp [hi, hq] at hz
                   refine ⟨by simp [hq], fun i' z' h1 h2 => ?_⟩
                   cases h1
                   rw [hq] at h2
                   cases h2
                   simp [Program.cellsOf, hi, hz]
             exact value_run (ok_app hR hu hh hz1.1 (hxx x' hx) (hyy y' hy) hk hsrc hz1.2 h)
           · split at hs
             · rename_i hc0 hc
               simp only [Bool.and_eq_true, decide_eq_true_eq] at hc
               obtain ⟨⟨⟨hint, hh⟩, hz⟩, hk⟩ := hc
               simp only [Option.bind_eq_bind, Option.bind_eq_some_iff, Option.pure_def, Option.some.injEq] at hs
               obtain ⟨zs, hzs, x', hx, y', hy, rfl⟩ := hs
               simp only [swp] at h
               obtain ⟨n, hn, h⟩ := orK_elim h
               obtain ⟨kn, hkn⟩ : ∃ kn, P.underlying u = some (.int kn) := by
                 unfold isIntT at hint
                 split at hint
                 · rename_i kn hk2; exact ⟨kn, hk2⟩
                 · cases hint
               have hz1 : ∀ i z, P.info? e = some i → i.zero = some z → z.cells.size = P.cellsOf e := by
                 unfold zok at hz
                 intro i z h1 h2
                 simp [h1, h2] at hz
                 simp [Program.cellsOf, h1, hz]
               exact value_run (ok_appZ hR hu hkn hh hzs hz1 (hxx x' hx) (hyy y' hy) hk hn h)
             · cases hs
         · cases hs
       · cases hs
      case copy =>
       split at hs
       · rename_i x y t u e1 e2
         have e1 := l2 e1
         have e2 := l2 e2
         subst e1
         subst e2
         have hxx : ∀ q, sa x = some q → Rv G (evS fr q) (ρ x) := fun q h2 => hop x q (by simp [Op.operands, Call.operands]) h2
         have hyy : ∀ q, sa y = some q → Rv G (evS fr q) (ρ y) := fun q h2 => hop y q (by simp [Op.operands, Call.operands]) h2
         refine bv (Builtin.copy_ #[t, u] o.type #[ρ x, ρ y]) (by simp [resolve, invoke, builtin]) ?_
         split at hs
         · rename_i e hu
           split at hs
           · rename_i hc
             simp only [Bool.and_eq_true, decide_eq_true_eq, beq_iff_eq] at hc
             obtain ⟨⟨hh, rfl⟩, hk⟩ := hc
             simp only [Option.bind_eq_bind, Option.bind_eq_some_iff, Option.pure_def, Option.some.injEq] at hs
             obtain ⟨x', hx, y', hy, rfl⟩ := hs
             simp only [swp] at h
             obtain ⟨src, hsrc, h⟩ := orK_elim h
             exact value_run (ok_copy hR hu hh (hxx x' hx) (hyy y' hy) hk hsrc h)
           · cases hs
         · cases hs
       · cases hs
      case min =>
       split at hs
       · rename_i x y e1
         have e1 := l2 e1
         subst e1
         refine bv (Builtin.min_ argTypes o.type #[ρ x, ρ y]) (by simp [resolve, invoke, builtin]) ?_
         simp only [Option.bind_eq_bind, Option.bind_eq_some_iff, Option.pure_def, Option.some.injEq] at hs
         obtain ⟨x', hx, y', hy, rfl⟩ := hs
         have hx' := hop x x' (by simp [Op.operands, Call.operands]) hx
         have hy' := hop y y' (by simp [Op.operands, Call.operands]) hy
         simp only [swp] at h
         split at h
         · rename_i u v hu hv
           rw [hu] at hx'
           rw [hv] at hy'
           rw [scR hx', scR hy']
           obtain ⟨r, hr, hK⟩ := ok_min (P := P) h argTypes o.type G.w
           exact value_same hR ⟨r, hr, _, by simp [Rv], hK⟩
         · exact h.elim
       · cases hs
      case max =>
       split at hs
       · rename_i x y e1
         have e1 := l2 e1
         subst e1
         refine bv (Builtin.max_ argTypes o.type #[ρ x, ρ y]) (by simp [resolve, invoke, builtin]) ?_
         simp only [Option.bind_eq_bind, Option.bind_eq_some_iff, Option.pure_def, Option.some.injEq] at hs
         obtain ⟨x', hx, y', hy, rfl⟩ := hs
         have hx' := hop x x' (by simp [Op.operands, Call.operands]) hx
         have hy' := hop y y' (by simp [Op.operands, Call.operands]) hy
         simp only [swp] at h
         split at h
         · rename_i u v hu hv
           rw [hu] at hx'
           rw [hv] at hy'
           rw [scR hx', scR hy']
           obtain ⟨r, hr, hK⟩ := ok_max (P := P) h argTypes o.type G.w
           exact value_same hR ⟨r, hr, _, by simp [Rv], hK⟩
         · exact h.elim
       · rename_i x y z e1
         have e1 := l3 e1
         subst e1
         refine bv (Builtin.max_ argTypes o.type #[ρ x, ρ y, ρ z]) (by simp [resolve, invoke, builtin]) ?_
         simp only [Option.bind_eq_bind, Option.bind_eq_some_iff, Option.pure_def, Option.some.injEq] at hs
         obtain ⟨x', hx, y', hy, z', hz, rfl⟩ := hs
         have hx' := hop x x' (by simp [Op.operands, Call.operands]) hx
         have hy' := hop y y' (by simp [Op.operands, Call.operands]) hy
         have hz' := hop z z' (by simp [Op.operands, Call.operands]) hz
         simp only [swp] at h
         split at h
         · rename_i u v w hu hv hw
           rw [hu] at hx'
           rw [hv] at hy'
           rw [hw] at hz'
           rw [scR hx', scR hy', scR hz']
           obtain ⟨r, hr, hK⟩ := ok_max3 (P := P) h argTypes o.type G.w
           exact value_same hR ⟨r, hr, _, by simp [Rv], hK⟩
         · exact h.elim
       · cases hs
  | makeMap t r =>
    cases r with
    | none =>
      simp only [sop0, Option.some.injEq] at hs
      subst hs
      exact value_run (ok_mkmap hR t h)
    | some r => simp [sop0] at hs
  | mapUpdate t m k x =>
    simp only [sop0] at hs
    split at hs
    · rename_i kt e hu
      simp only [Option.bind_eq_bind, Option.bind_eq_some_iff, Option.pure_def, Option.some.injEq] at hs
      obtain ⟨kd, hk, m', hm, k', hk', x', hx, rfl⟩ := hs
      obtain ⟨w', hr, hl⟩ := ok_mupd hR hu hk h (hop m m' (by simp [Op.operands]) hm) (hop k k' (by simp [Op.operands]) hk') (hop x x' (by simp [Op.operands]) hx)
      exact .inl ⟨undef, w', .inr ⟨by simp [hr], rfl⟩, hl⟩
    · cases hs
  | lookup t m k ok =>
    simp only [sop0] at hs
    split at hs
    · rename_i kt e hu
      simp only [Option.bind_eq_bind, Option.bind_eq_some_iff, Option.pure_def, Option.some.injEq] at hs
      obtain ⟨i, hi, kd, hk, z, hz, m', hm, k', hk', rfl⟩ := hs
      exact value_same hR (ok_look hR hu hk hi hz h (hop m m' (by simp [Op.operands]) hm) (hop k k' (by simp [Op.operands]) hk'))
    · cases hs
  | _ => simp [sop0] at hs

theorem sop_ok (hR : Rel G) {op : Op} {s : SOp} {o : Oper} (ho : o.op = op) {ρ : Operand → Value} {fr : Fr} (hs : sop P op = s) (hop : ∀ x q, x ∈ op.operands → sa x = some q → Rv G (evS fr q) (ρ x)) (h : swp P s fr G.S K) : OpRun P (execOp ρ o) G K := by
  unfold sop at hs
  cases h0 : sop0 P op with
  | none => rw [h0] at hs; subst hs; exact h.elim
  | some s' => rw [h0] at hs; subst hs; exact sop0_ok hR ho h0 hop h
end
end Go.Proofs.Ytkedbkdbnmmkhaa.Ev
