/- All operations, joined: what the program's operation does is what its short form says. -/
import Derived.Test.YtfihpbeihlpfcaaZEvF
import Derived.MapKept
import Derived.Laws.StructEq
import Derived.ChangeKeysEq
set_option linter.unusedVariables false
set_option linter.unusedSimpArgs false
namespace Go.Proofs.Ytfihpbeihlpfcaa.Ev
open Go Go.RowKit
section
variable {P : Program} {G : Ctx} {K : AV → St → Prop}

theorem rvs_take {cs : List AV} {vs : List Value} (h : Rvs G cs vs) (n : Nat) : Rvs G (cs.take n) (vs.take n) := by
  obtain ⟨h1, h2⟩ := rvs_iff.1 h
  refine rvs_iff.2 ⟨by simp [h1], fun j x hx => ?_⟩
  rw [List.getElem?_take] at hx ⊢
  split at hx
  · rename_i hj; simp only [hj, if_true]; exact h2 j x hx
  · cases hx

theorem ok_copy (hR : Rel G) {t e ty : TypeId} {x y : AV} {u v : Value} {src : Nat × List AV} (ht : P.underlying t = some (.slice e)) (hh : has P e = true)
    (hx : Rv G x u) (hy : Rv G y v) (hk : 0 < P.cellsOf e) (hsrc : srcOf G.S (P.cellsOf e) y = some src)
    (h : (match (generalizing := false) x with
    | .ref l tot off n => orK (G.S.row? l tot) fun r => src.2.all AV.one = true ∧ off + Nat.min src.1 n * P.cellsOf e ≤ tot ∧
        K (.sc (.int .i64 (Nat.min src.1 n : Nat))) (G.S.set l (.row r.1 r.2.1 (r.2.2.take off ++ src.2.take (Nat.min src.1 n * P.cellsOf e) ++ r.2.2.drop (off + Nat.min src.1 n * P.cellsOf e))))
    | _ => False)) : ∃ v' w', (Builtin.copy_ #[t, t] ty #[u, v]).run P G.w = .ok v' w' ∧ Left G K v' w' := by
  obtain ⟨hsl, av, cv, rfl, hsv⟩ := src_ok hR hk hsrc hy
  cases x with
  | ref l tot off n =>
    simp only at h
    obtain ⟨r, hr, hone, hfit, hK⟩ := orK_elim h
    obtain ⟨hm, htot⟩ := row?_some hr
    simp only [Rv] at hx
    have none_ : ∀ (a : Option Addr) (cap : Nat), Nat.min src.1 n = 0 → u = .slice a n cap → (Builtin.copy_ #[t, t] ty #[u, .slice av src.1 cv]).run P G.w = .ok (goInt (0 : Nat)) G.w := by
      rintro a cap h0 rfl
      have hf : (Builtin.firstCells (P.cellsOf e) 0 (.slice av src.1 cv)).run P G.w = .ok #[] G.w := by
        cases av <;> simp [Builtin.firstCells, loadCells, loadCellsFrom]
      have h0' : min src.1 n = 0 := h0
      cases a <;> simp [Builtin.copy_, run_underlying ht, run_sizeOf' hh, Builtin.lenOf, h0, h0', hf, storeCells]
    by_cases h0 : Nat.min src.1 n = 0
    · have hsame : G.S.set l (.row r.1 r.2.1 (r.2.2.take off ++ src.2.take (Nat.min src.1 n * P.cellsOf e) ++ r.2.2.drop (off + Nat.min src.1 n * P.cellsOf e))) = G.S := by
        rw [h0]
        simp only [Nat.zero_mul, List.take_zero, List.append_nil, Nat.add_zero, List.take_append_drop]
        exact St.set_self hm
      rw [hsame, h0] at hK
      have hle : ∃ a cap, u = .slice a n cap := by
        rcases ref_real hx hr with ⟨_, _, _, rfl, rfl⟩ | ⟨b, c, cap, _, _, hu, hn, _⟩
        · exact ⟨none, 0, rfl⟩
        · rcases hu with rfl | ⟨rfl, rfl, _, o', rfl⟩
          · exact ⟨_, _, rfl⟩
          · exact ⟨_, _, rfl⟩
      obtain ⟨a, cap, hu⟩ := hle
      exact ⟨_, _, none_ a cap h0 hu, left_same hR (r := .sc (.int .i64 (0 : Nat))) (by simp [Rv, goInt]) hK⟩
    · have hmin : Nat.min src.1 n = min src.1 n := rfl
      rw [hmin] at h0 hfit hK
      rcases hsv with h00 | ⟨ad, rfl, vs, hvs, hcell⟩
      · omega
      rcases ref_real hx hr with ⟨m0, e0, _, rfl, rfl⟩ | ⟨b, c, cap, hbl, hc, hu, hn, hf, hf2⟩
      · omega
      · rcases hu with rfl | ⟨_, rfl, _⟩
        · obtain ⟨c', hc', hsz, hat⟩ := row_block hR hm hbl
          rw [hc] at hc'; cases hc'
          have hvl := (rvs_iff.1 hvs).1
          have hvs2 := rvs_take hvs (min src.1 n * P.cellsOf e)
          have hle : min src.1 n * P.cellsOf e ≤ vs.length := by rw [← hvl, hsl]; exact Nat.mul_le_mul_right _ (by omega)
          have hl2 : (vs.take (min src.1 n * P.cellsOf e)).length = min src.1 n * P.cellsOf e := by simp; omega
          have hl3 : (src.2.take (min src.1 n * P.cellsOf e)).length = min src.1 n * P.cellsOf e := by simp; omega
          have hone2 : (src.2.take (min src.1 n * P.cellsOf e)).all AV.one = true := List.all_eq_true.2 fun x hx => List.all_eq_true.1 hone x (List.mem_of_mem_take hx)
          have hfc := run_firstCells_some (P := P) G.w (P.cellsOf e) (min src.1 n) ad src.1 cv (vs.take (min src.1 n * P.cellsOf e)) hl2 (fun j v hv => hcell j v (by
            rw [List.getElem?_take] at hv
            split at hv
            · exact hv
            · cases hv))
          have hst := run_storeCells_at P b off r.1 (vs.take (min src.1 n * P.cellsOf e)) 0 c G.w hc (by rw [hl2]; omega) (oneAll hvs2 hone2)
          simp only [Nat.add_zero] at hst
          have hpre := pre_splice (off := off) (hat.pre hc) hvs2 (by omega) hsz
          rw [hl3] at hpre
          have hlen : (r.2.2.take off ++ src.2.take (min src.1 n * P.cellsOf e) ++ r.2.2.drop (off + min src.1 n * P.cellsOf e)).length = r.2.2.length := by simp; omega
          have hw := write_row (c' := (c.toList.take off ++ vs.take (min src.1 n * P.cellsOf e) ++ c.toList.drop (off + (vs.take (min src.1 n * P.cellsOf e)).length)).toArray) hR hm hbl hc (by simp; omega) (by omega) (by have := (hR.ok l _ hm).1; omega) (by rw [hlen]; simp; omega) hpre
          refine ⟨goInt (min src.1 n : Nat), _, ?_, _, _, rfl, hw.1, hw.2, by simp [Rv, goInt], hK⟩
          have hmm : Nat.min src.1 n = min src.1 n := rfl
          simp only [Builtin.copy_]
          simp [run_underlying ht, run_sizeOf' hh, Builtin.lenOf, hmm, hfc, hst, Ctx.put, goInt]
        · omega
  | _ => exact h.elim

theorem ok_sl3 (hR : Rel G) {ρ : Operand → Value} {lo hi mx : Operand} {t e : TypeId} {u : Value} {x : AV} {sl sh sm : SA} {fr : Fr} (ht : P.underlying t = some (.slice e)) (hh : has P e = true) (hx : Rv G x u)
    (hrl : Rv G (evS fr sl) (ρ lo)) (hrh : Rv G (evS fr sh) (ρ hi)) (hrm : Rv G (evS fr sm) (ρ mx))
    (h : orK (intOfAV (evS fr sl)) fun l => orK (intOfAV (evS fr sh)) fun h => orK (intOfAV (evS fr sm)) fun m => match (generalizing := false) x with
    | .ref q tot off n => orK (G.S.row? q tot) fun r => 0 ≤ l ∧ l ≤ h ∧ h ≤ m ∧ m ≤ n ∧ K .junk G.S
    | .ro n cs => 0 ≤ l ∧ l ≤ h ∧ h ≤ m ∧ m ≤ n ∧ K (.ro (h.toNat - l.toNat) ((cs.drop (l.toNat * P.cellsOf e)).take ((h.toNat - l.toNat) * P.cellsOf e))) G.S
    | _ => False) : ∃ v, (Instr.sliceAt t u (some (ρ lo)) (some (ρ hi)) (some (ρ mx))).run P G.w = .ok v G.w ∧ ∃ r, Rv G r v ∧ K r G.S := by
  obtain ⟨l, hl, h⟩ := orK_elim h
  obtain ⟨h', hh', h⟩ := orK_elim h
  obtain ⟨m, hm, h⟩ := orK_elim h
  obtain ⟨k1, e1⟩ := intOf_some hl hrl
  obtain ⟨k2, e2⟩ := intOf_some hh' hrh
  obtain ⟨k3, e3⟩ := intOf_some hm hrm
  have run : ∀ (a : Option Addr) (len cap : Nat), 0 ≤ l → l ≤ h' → h' ≤ m → m ≤ len → len ≤ cap →
      (Instr.sliceAt t (.slice a len cap) (some (ρ lo)) (some (ρ hi)) (some (ρ mx))).run P G.w = .ok (.slice (if m.toNat = l.toNat then a else a.map (·.add (l.toNat * P.cellsOf e))) (h'.toNat - l.toNat) (m.toNat - l.toNat)) G.w := by
    intro a len cap h0 h1 h2 h3 h4
    have b3 := run_bound (P := P) (k := k3) (y := cap) (c := .slice3Acap) G.w (by omega : 0 ≤ m) (by omega)
    have b2 := run_bound (P := P) (k := k2) (y := m.toNat) (c := .slice3B) G.w (by omega : 0 ≤ h') (by omega)
    have b1 := run_bound (P := P) (k := k1) (y := h'.toNat) (c := .slice3C) G.w h0 (by omega)
    simp [Instr.sliceAt, Instr.slice, Instr.sliceBounds, run_underlying ht, e1, e2, e3, b1, b2, b3, run_sizeOf' hh]
  cases x with
  | ref q tot off n =>
    obtain ⟨r, hr, h0, h1, h2, h3, hK⟩ := orK_elim h
    simp only [Rv] at hx
    have hle : ∃ a cap, u = .slice a n cap ∧ n ≤ cap := by
      rcases ref_real hx hr with ⟨_, _, _, rfl, rfl⟩ | ⟨b, c, cap, _, _, hu, hn, _⟩
      · exact ⟨none, 0, rfl, Nat.le_refl _⟩
      · rcases hu with rfl | ⟨rfl, rfl, _, o', rfl⟩
        · exact ⟨_, _, rfl, hn.1⟩
        · exact ⟨_, _, rfl, Nat.le_refl _⟩
    obtain ⟨a, cap, rfl, hc⟩ := hle
    exact ⟨_, run a n cap h0 h1 h2 h3 hc, .junk, by simp only [Rv], hK⟩
  | ro n cs =>
    obtain ⟨h0, h1, h2, h3, hK⟩ := h
    simp only [Rv] at hx
    obtain ⟨a, c, rfl, hc, hn, hc0, hcs⟩ := hx
    refine ⟨_, run a n c h0 h1 h2 h3 hc, _, ?_, hK⟩
    simp only [Rv]
    refine ⟨_, _, rfl, by omega, by omega, fun hn => ?_, ?_⟩
    · split at hn
      · omega
      · cases a with
        | none => have := hc0 rfl; omega
        | some a => simp at hn
    · rcases hcs with rfl | ⟨b, off, rfl, ho, hat⟩
      · exact .inl (by simp)
      · by_cases e0 : m.toNat = l.toNat
        · left
          have : h'.toNat - l.toNat = 0 := by omega
          rw [this]; simp
        · exact .inr ⟨b, off + l.toNat * P.cellsOf e, by simp [e0, add_lit'], ho, rat_take (rat_drop hat)⟩
  | _ => exact h.elim

theorem ok_clr (hR : Rel G) {t e ty : TypeId} {x : AV} {u : Value} {zs : List Value} (ht : P.underlying t = some (.slice e)) (hh : has P e = true) (hz : zeroCellsOf P e = some zs) (hzs : ∀ i z, P.info? e = some i → i.zero = some z → z.cells.size = P.cellsOf e)
    (hx : Rv G x u) (hk : 0 < P.cellsOf e)
    (h : (match (generalizing := false) x with
    | .ref l tot off n => orK (G.S.row? l tot) fun r => (zcells zs (n * P.cellsOf e)).all AV.one = true ∧ off + n * P.cellsOf e ≤ tot ∧ K (.tup []) (G.S.set l (.row r.1 r.2.1 (r.2.2.take off ++ zcells zs (n * P.cellsOf e) ++ r.2.2.drop (off + n * P.cellsOf e))))
    | .sc (.slice none 0 0) => K (.tup []) G.S
    | _ => False)) : ∃ v' w', (Builtin.clear_ #[t] ty #[u]).run P G.w = .ok v' w' ∧ Left G K v' w' := by
  split at h
  · rename_i l tot off n
    obtain ⟨r, hr, hone, hfit, hK⟩ := orK_elim h
    obtain ⟨hm, htot⟩ := row?_some hr
    simp only [Rv] at hx
    by_cases h0 : n = 0
    · have hsame : G.S.set l (.row r.1 r.2.1 (r.2.2.take off ++ zcells zs (n * P.cellsOf e) ++ r.2.2.drop (off + n * P.cellsOf e))) = G.S := by
        rw [h0]
        simp only [Nat.zero_mul, zcells, List.range_zero, List.map_nil, List.append_nil, Nat.add_zero, List.take_append_drop]
        exact St.set_self hm
      rw [hsame] at hK
      have hle : ∃ a cap, u = .slice a n cap := by
        rcases ref_real hx hr with ⟨_, _, _, rfl, rfl⟩ | ⟨b, c, cap, _, _, hu, hn, _⟩
        · exact ⟨none, 0, rfl⟩
        · rcases hu with rfl | ⟨rfl, rfl, _, o', rfl⟩
          · exact ⟨_, _, rfl⟩
          · exact ⟨_, _, rfl⟩
      obtain ⟨a, cap, rfl⟩ := hle
      subst h0
      refine ⟨_, _, ?_, left_same hR (r := .tup []) (v := .tuple #[]) (by simp only [Rv]; exact ⟨[], rfl, rfl⟩) hK⟩
      cases a <;> simp [Builtin.clear_, run_underlying ht]
    · rcases ref_real hx hr with ⟨m0, e0, rfl, rfl, rfl⟩ | ⟨b, c, cap, hbl, hc, hu, hn, hf, hf2⟩
      · exact absurd rfl h0
      · rcases hu with rfl | ⟨_, rfl, _⟩
        · obtain ⟨c', hc', hsz, hat⟩ := row_block hR hm hbl
          rw [hc] at hc'; cases hc'
          obtain ⟨z, hz1, hz2⟩ := zeros_ok hz G.w
          obtain ⟨vs, hv1, hv2⟩ := zcells_ok (G := G) zs (n * P.cellsOf e)
          have hvl := (rvs_iff.1 hv2).1
          have hlz : (zcells zs (n * P.cellsOf e)).length = n * P.cellsOf e := by simp [zcells]
          have hvl' : vs.length = n * P.cellsOf e := by rw [← hvl, hlz]
          have hzc : z.cells.size = P.cellsOf e := by
            obtain ⟨i, hi⟩ := Option.isSome_iff_exists.1 hh
            unfold zeroCellsOf at hz
            rw [hi] at hz
            simp only [Option.bind_eq_bind, Option.bind_some, Option.bind_eq_some_iff, Option.pure_def, Option.some.injEq] at hz
            obtain ⟨z', q1, q2⟩ := hz
            have := hzs i z' hi q1
            rw [hz2, ← q2]; simpa using this
          have e1 : Builtin.zeroCells z.cells n = vs.toArray := by
            rw [← hv1]; simp only [Builtin.zeroCells, hz2, ← hzc]
          have hst := run_storeCells_at P b off r.1 vs 0 c G.w hc (by rw [hvl']; omega) (oneAll hv2 hone)
          simp only [Nat.add_zero] at hst
          have hpre := pre_splice (off := off) (hat.pre hc) hv2 (by omega) hsz
          rw [hlz] at hpre
          have hlen : (r.2.2.take off ++ zcells zs (n * P.cellsOf e) ++ r.2.2.drop (off + n * P.cellsOf e)).length = r.2.2.length := by simp [hlz]; omega
          have hw := write_row (c' := (c.toList.take off ++ vs ++ c.toList.drop (off + vs.length)).toArray) hR hm hbl hc (by simp; omega) (by omega) (by have := (hR.ok l _ hm).1; omega) (by rw [hlen]; simp; omega) hpre
          refine ⟨.tuple #[], _, ?_, _, .tup [], rfl, hw.1, hw.2, by simp only [Rv]; exact ⟨[], rfl, rfl⟩, hK⟩
          have hn0 : ∃ n', n = n' + 1 := ⟨n - 1, by omega⟩
          obtain ⟨n', rfl⟩ := hn0
          simp only [Builtin.clear_]
          simp [run_underlying ht, hz1, e1, hst, Ctx.put]
        · exact absurd rfl h0
  · rw [scR hx]
    refine ⟨_, _, ?_, left_same hR (r := .tup []) (v := .tuple #[]) (by simp only [Rv]; exact ⟨[], rfl, rfl⟩) h⟩
    simp [Builtin.clear_, run_underlying ht]
  · exact h.elim

theorem ok_min {a b : Value} {K : Value → Prop} (h : minV a b K) (at_ : Array TypeId) (ty : TypeId) (w : World) : ∃ r, (Builtin.min_ at_ ty #[a, b]).run P w = .ok r w ∧ K r := by
  cases a <;> cases b <;> simp only [minV] at h <;> first | exact h.elim | exact ⟨_, by simp [Builtin.min_, List.foldlM, Builtin.min2], h⟩
theorem ok_max {a b : Value} {K : Value → Prop} (h : maxV a b K) (at_ : Array TypeId) (ty : TypeId) (w : World) : ∃ r, (Builtin.max_ at_ ty #[a, b]).run P w = .ok r w ∧ K r := by
  cases a <;> cases b <;> simp only [maxV] at h <;> first | exact h.elim | exact ⟨_, by simp [Builtin.max_, List.foldlM, Builtin.max2], h⟩

theorem ok_max3 {a b c : Value} {K : Value → Prop} (h : max3V a b c K) (at_ : Array TypeId) (ty : TypeId) (w : World) : ∃ r, (Builtin.max_ at_ ty #[a, b, c]).run P w = .ok r w ∧ K r := by
  cases a <;> cases b <;> cases c <;> simp only [max3V] at h <;> first | exact h.elim | exact ⟨_, by simp [Builtin.max_, List.foldlM, Builtin.max2], h⟩

theorem rvs_map {fr : Fr} {ρ : Operand → Value} : ∀ {xs : List Operand} {ss : List SA}, xs.mapM sa = some ss → (∀ x s, x ∈ xs → sa x = some s → Rv G (evS fr s) (ρ x)) → Rvs G (ss.map (evS fr)) (xs.map ρ)
  | [], ss, h, _ => by simp at h; subst h; simp [Rvs]
  | x :: xs, ss, h, hr => by
    simp only [List.mapM_cons, Option.bind_eq_bind, Option.bind_eq_some_iff, Option.pure_def, Option.some.injEq] at h
    obtain ⟨s, hs, ss', hss, rfl⟩ := h
    simp only [List.map_cons, Rvs]
    exact ⟨_, _, rfl, hr x s (by simp) hs, rvs_map hss fun x' s' hx' => hr x' s' (by simp [hx'])⟩

theorem avOf_ok (v : Value) : Rv G (avOf v) v := by
  cases v with
  | agg cs =>
    simp only [avOf, Rv]
    exact ⟨cs.toList, by simp, rvs_sc _⟩
  | _ => simp [avOf, Rv]

theorem value_run {x : Sem Value} (h : ∃ v w', x.run P G.w = .ok v w' ∧ Left G K v w') : OpRun P (do pure (Next.value (← x)) : Sem Next) G K := by
  obtain ⟨v, w', hr, hl⟩ := h
  exact .inl ⟨v, w', .inl (by simp [hr]), hl⟩
theorem value_same {x : Sem Value} (hR : Rel G) (h : ∃ v, x.run P G.w = .ok v G.w ∧ ∃ r, Rv G r v ∧ K r G.S) : OpRun P (do pure (Next.value (← x)) : Sem Next) G K := by
  obtain ⟨v, hr, r, h1, h2⟩ := h
  exact value_run ⟨v, _, hr, left_same hR h1 h2⟩

/-! ### maps -/
theorem ents_iff {G : Ctx} : ∀ {es : List (Value × AV)} {us : List MapEntry}, Ents G es us ↔ us.map (·.key) = es.map (·.1) ∧ Rvs G (es.map (·.2)) (us.map (·.val))
  | [], us => by
    simp only [Ents, List.map_nil, Rvs, List.map_eq_nil_iff, and_self]
  | x :: xs, us => by
    simp only [Ents, List.map_cons, Rvs]
    constructor
    · rintro ⟨e, us', rfl, h1, h2, h3⟩
      obtain ⟨h4, h5⟩ := ents_iff.1 h3
      exact ⟨by simp [h1, h4], e.val, us'.map (·.val), by simp, h2, h5⟩
    · rintro ⟨h1, v, vs, h2, h3, h4⟩
      cases us with
      | nil => simp at h2
      | cons e us' =>
        simp only [List.map_cons, List.cons.injEq] at h1 h2
        exact ⟨e, us', rfl, h1.1, by rw [h2.1]; exact h3, ents_iff.2 ⟨h1.2, by rw [h2.2]; exact h4⟩⟩
theorem ents_zip {G : Ctx} : ∀ {vs : List AV} {us : List MapEntry}, Rvs G vs (us.map (·.val)) → Ents G ((us.map (·.key)).zip vs) us
  | [], us, h => by
    simp only [Rvs, List.map_eq_nil_iff] at h
    subst h; simp [Ents]
  | x :: xs, [], h => by simp [Rvs] at h
  | x :: xs, u :: us, h => by
    simp only [Rvs, List.map_cons, List.cons.injEq] at h
    obtain ⟨v, vs, ⟨rfl, rfl⟩, h2, h3⟩ := h
    simp only [List.map_cons, List.zip_cons_cons, Ents]
    exact ⟨u, us, rfl, rfl, h2, ents_zip h3⟩
def descOf : KeyKd → TypeDesc
  | .str => .string
  | .int k => .int k
  | .bool => .bool
  | .flds _ => .bool
def KeyKd.simple : KeyKd → Bool
  | .flds _ => false
  | _ => true
theorem keyKd_simple {P : Program} {t : TypeId} {kd : KeyKd} (h : keyKd P t = some kd) : kd.simple = true := by
  unfold keyKd at h
  split at h <;> (first | (cases h; rfl) | cases h)
def descOf1 : K1 → TypeDesc
  | .str => .string
  | .int k => .int k
  | .bool => .bool
theorem k1_some {P : Program} {t : TypeId} {k : K1} (h : k1Of P t = some k) : P.underlying t = some (descOf1 k) := by
  unfold k1Of at h
  split at h <;> (first | (cases h; assumption) | cases h)
theorem keyKd_some {P : Program} {t : TypeId} {kd : KeyKd} (h : keyKd P t = some kd) : P.underlying t = some (descOf kd) := by
  unfold keyKd at h
  split at h <;> (first | (cases h; assumption) | cases h)
theorem ba_beq (a b : ByteArray) : (a == b) = decide (a = b) := by
  cases a with | mk x => cases b with | mk y =>
    have : (ByteArray.mk x == ByteArray.mk y) = (x == y) := rfl
    rw [this]
    by_cases h : x = y
    · subst h; simp
    · simp [h]
theorem same_now {kd : KeyKd} {a b : Value} (hs : kd.simple = true) (ha : kd.is a = true) (hb : kd.is b = true) : Instr.sameNow (descOf kd) a b = some (keyEq a b) := by
  cases kd <;> simp [KeyKd.simple] at hs <;> cases a <;> simp [KeyKd.is] at ha <;> cases b <;> simp [KeyKd.is] at hb <;> simp_all [Instr.sameNow, descOf, keyEq]
theorem same_bits {kd : KeyKd} {a b : Value} (hs : kd.simple = true) (ha : kd.is a = true) (hb : kd.is b = true) (h : keyEq b a = true) (n : Nat) : Instr.sameBits n a b = true := by
  cases kd <;> simp [KeyKd.simple] at hs <;> cases a <;> simp [KeyKd.is] at ha <;> cases b <;> simp [KeyKd.is] at hb <;> simp_all [keyEq] <;> (unfold Instr.sameBits) <;> (try simp) <;> (try (rw [ba_beq] at *; simpa using (of_decide_eq_true h).symm))
theorem find_now {G : Ctx} {kd : KeyKd} {v : Value} (hsm : kd.simple = true) (hv : kd.is v = true) : ∀ {es : List (Value × AV)} {us : List MapEntry} (i : Nat), Ents G es us → keysOk kd es = true →
    (findE es v = none ∧ Instr.findNow (descOf kd) v us i = some none ∧ updE es v = fun y => es ++ [(v, y)]) ∨
    ∃ (j : Nat) (x : AV) (u : MapEntry), findE es v = some x ∧ us[j]? = some u ∧ Rv G x u.val ∧ Instr.findNow (descOf kd) v us i = some (some (i + j, u.val)) ∧ kd.is u.key = true ∧ keyEq v u.key = true ∧ ∀ y, updE es v y = es.set j (v, y)
  | [], us, i, h, hk => by
    simp only [Ents] at h
    subst h
    exact .inl ⟨rfl, rfl, by funext y; rfl⟩
  | (k, x) :: es, us, i, h, hk => by
    simp only [Ents] at h
    obtain ⟨u, us', rfl, h1, h2, h3⟩ := h
    simp only [keysOk, List.all_cons, Bool.and_eq_true] at hk
    have hs : Instr.sameNow (descOf kd) v u.key = some (keyEq v k) := by rw [h1]; exact same_now hsm hv hk.1
    by_cases he : keyEq v k = true
    · refine .inr ⟨0, x, u, by simp [findE, he], rfl, h2, ?_, by rw [h1]; exact hk.1, by rw [h1]; exact he, fun y => by simp [updE, he]⟩
      unfold Instr.findNow; rw [hs, he]; rfl
    · have he' : keyEq v k = false := by simpa using he
      rcases find_now hsm hv (i + 1) h3 hk.2 with ⟨a1, a2, a3⟩ | ⟨j, x', u', a1, a2, a3, a4, a5, a6, a7⟩
      · refine .inl ⟨by simp [findE, he', a1], ?_, ?_⟩
        · unfold Instr.findNow; rw [hs, he']; exact a2
        · funext y; simp [updE, he', a3]
      · refine .inr ⟨j + 1, x', u', by simp [findE, he', a1], by simpa using a2, a3, ?_, a5, a6, fun y => by simp [updE, he', a7]⟩
        unfold Instr.findNow; rw [hs, he']
        rw [show i + (j + 1) = i + 1 + j by omega]; exact a4
theorem ents_len {G : Ctx} {es : List (Value × AV)} {us : List MapEntry} (h : Ents G es us) : us.length = es.length := by
  have := congrArg List.length (ents_iff.1 h).1
  simpa using this
theorem get_map {P : Program} {w : World} {r : Nat} {es : Array MapEntry} {clock : Nat} (h : w.heap[r]? = some (.map es clock)) : (getObj r).run P w = .ok (.map es clock) w := by simp [getObj, Sem.run, h]
theorem set_map {P : Program} {w : World} {r : Nat} {es : Array MapEntry} {clock : Nat} (o : Obj) (h : w.heap[r]? = some (.map es clock)) : (setObj r o).run P w = .ok () { w with heap := w.heap.setIfInBounds r o } := by simp [setObj, Sem.run, h]
theorem check_key {P : Program} {t : TypeId} {kd : KeyKd} {v : Value} (hs : kd.simple = true) (ht : P.underlying t = some (descOf kd)) (hv : kd.is v = true) (e : Bool) (w : World) : (Instr.checkKey e 10000 t v).run P w = .ok () w := by
  cases kd <;> simp [KeyKd.simple] at hs <;> cases v <;> simp [KeyKd.is] at hv <;> unfold Instr.checkKey <;> simp [run_underlying ht, descOf]
theorem find_key {P : Program} {t : TypeId} {kd : KeyKd} {v : Value} {us : List MapEntry} {r : Option (Nat × Value)} (ht : P.underlying t = some (descOf kd)) (h : Instr.findNow (descOf kd) v us 0 = some r) (w : World) : (Instr.findKey t v us).run P w = .ok r w := by
  unfold Instr.findKey
  simp [run_underlying ht, h]
/-- A map's value reads as these entries. -/
theorem map_real {G : Ctx} (hR : Rel G) {x : AV} {u : Value} {es : List (Value × AV)} (hx : Rv G x u) (hm : mapOf G.S x = some es) :
    (u = .map none ∧ es = []) ∨ ∃ (b : Nat) (ents : Array MapEntry) (clock : Nat), u = .map (some b) ∧ G.w.heap[b]? = some (.map ents clock) ∧ Ents G es ents.toList := by
  unfold mapOf at hm
  split at hm
  · rename_i l
    unfold St.map? at hm
    split at hm
    · rename_i es' ho
      cases hm
      simp only [Rv] at hx
      obtain ⟨b, hb, rfl⟩ := hx.2.2 _ ho
      obtain ⟨b', en, cl, h1, h2, h3, _⟩ := hR.ok _ _ ho
      rw [hb] at h1; cases h1
      exact .inr ⟨b, en, cl, rfl, h2, h3⟩
    · cases hm
  · rename_i ks vs
    cases hm
    simp only [Rv] at hx
    rcases hx with ⟨rfl, rfl, rfl⟩ | ⟨b, en, cl, rfl, ho, hb, rfl, hs⟩
    · exact .inl ⟨rfl, rfl⟩
    · exact .inr ⟨b, en, cl, rfl, hb, ents_zip hs.1⟩
  · cases hm
    have := scR hx
    exact .inl ⟨this, rfl⟩
  · cases hm

theorem run_key1 {k : K1} {t : TypeId} {u v : Value} (ht : k1Of P t = some k) (hu : k.is u = true) (hv : k.is v = true) (d : Nat) (w : World) : (Op.equalIn (d + 1) t u v).run P w = .ok (keyEq1 u v) w := by
  have hd := k1_some ht
  cases k <;> cases u <;> simp [K1.is] at hu <;> cases v <;> simp [K1.is] at hv
  · rw [run_equalIn_string w d t _ _ hd, ← beq_toListBytes]; rfl
  · subst hu; subst hv
    rw [run_equalIn_int w d t _ _ _ _ hd]; rfl
  · rw [run_equalIn_bool' w d t _ _ hd]; rfl
theorem k1_agg {t : TypeId} {k : K1} (h : k1Of P t = some k) : isAggT P t = some false := by
  have := k1_some h
  unfold isAggT
  rw [this]
  cases k <;> rfl
theorem is1s_cons {k : K1} {ks : List K1} {vs : Array Value} {i : Nat} (h : is1s (k :: ks) (vs.toList.drop i) = true) : ∃ v, vs[i]? = some v ∧ vs.toList.drop i = v :: vs.toList.drop (i + 1) ∧ k.is v = true ∧ is1s ks (vs.toList.drop (i + 1)) = true := by
  rcases Nat.lt_or_ge i vs.toList.length with hi | hi
  · rw [← List.getElem_cons_drop hi] at h ⊢
    simp only [is1s, Bool.and_eq_true] at h
    exact ⟨_, by simp at hi; simp [hi], rfl, h.1, h.2⟩
  · rw [List.drop_eq_nil_of_le hi] at h; simp [is1s] at h
theorem part_1 {k : K1} {t : TypeId} (hk : k1Of P t = some k) {vs : Array Value} {i : Nat} {v : Value} (h : vs[i]? = some v) (w : World) : (part t vs i).run P w = .ok v w := by
  simp [part, run_isAggT (k1_agg hk), h]
theorem run_eqK (us vs : Array Value) (d : Nat) (w : World) : ∀ (fs : List Field) (ks : List K1) (i : Nat), fs.mapM (fun f => k1Of P f.type) = some ks → (∀ f ∈ fs, f.name ≠ "_") → fs.map (·.offset) = List.range' i fs.length →
    is1s ks (us.toList.drop i) = true → is1s ks (vs.toList.drop i) = true → (Op.eqFields (d + 1) us vs fs).run P w = .ok (keyEqs (us.toList.drop i) (vs.toList.drop i)) w
  | [], ks, i, h1, _, _, h2, h3 => by
    simp at h1; subst h1
    have e : ∀ l : List Value, is1s [] l = true → l = [] := fun l h => by cases l <;> simp [is1s] at h ⊢
    rw [e _ h2, e _ h3]
    simp [Op.eqFields, keyEqs]
  | f :: fs, ks, i, h1, hn, ho, h2, h3 => by
    simp only [List.mapM_cons, Option.bind_eq_bind, Option.bind_eq_some_iff, Option.pure_def, Option.some.injEq] at h1
    obtain ⟨k, hk, ks', h4, rfl⟩ := h1
    obtain ⟨u, u1, u2, u3, u4⟩ := is1s_cons h2
    obtain ⟨v, v1, v2, v3, v4⟩ := is1s_cons h3
    simp only [List.map_cons, List.length_cons, List.range'_succ, List.cons.injEq] at ho
    have pa := part_1 (P := P) hk u1 w
    have pb := part_1 (P := P) hk v1 w
    have ih := run_eqK us vs d w fs ks' (i + 1) h4 (fun f hf => hn f (by simp [hf])) ho.2 u4 v4
    rw [u2, v2, keyEqs]
    have hname := hn f (by simp)
    simp only [Op.eqFields, hname, ne_eq, not_false_eq_true, if_true, Sem.run_bind, ho.1, pa, pb, Result.andThen_ok, run_key1 hk u3 v3]
    cases hke : keyEq1 u v
    · simp
    · simp [ih]
theorem run_checkK (e : Bool) (us : Array Value) (d : Nat) (w : World) : ∀ (fs : List Field) (ks : List K1) (i : Nat), fs.mapM (fun f => k1Of P f.type) = some ks → (∀ f ∈ fs, f.name ≠ "_") → fs.map (·.offset) = List.range' i fs.length →
    is1s ks (us.toList.drop i) = true → (forIn (m := Sem) fs PUnit.unit fun f _ => if f.name ≠ "_" then (do Instr.checkKey e (d + 1) f.type (← part f.type us f.offset); pure (ForInStep.yield PUnit.unit)) else pure (ForInStep.yield PUnit.unit)).run P w = .ok PUnit.unit w
  | [], ks, i, h1, _, _, h2 => by simp
  | f :: fs, ks, i, h1, hn, ho, h2 => by
    simp only [List.mapM_cons, Option.bind_eq_bind, Option.bind_eq_some_iff, Option.pure_def, Option.some.injEq] at h1
    obtain ⟨k, hk, ks', h4, rfl⟩ := h1
    obtain ⟨u, u1, u2, u3, u4⟩ := is1s_cons h2
    simp only [List.map_cons, List.length_cons, List.range'_succ, List.cons.injEq] at ho
    have pa := part_1 (P := P) hk u1 w
    have ih := run_checkK e us d w fs ks' (i + 1) h4 (fun f hf => hn f (by simp [hf])) ho.2 u4
    have hname := hn f (by simp)
    have hu := k1_some hk
    have hc : (Instr.checkKey e (d + 1) f.type u).run P w = .ok () w := by
      unfold Instr.checkKey
      cases k <;> cases u <;> simp [K1.is] at u3 <;> simp [run_underlying hu, descOf1]
    simp only [List.forIn_cons, hname, ne_eq, not_false_eq_true, if_true, Sem.run_bind, ho.1, pa, hc, Result.andThen_ok, Sem.run_pure]
    exact ih
theorem keyKdM_cases {t : TypeId} {kd : KeyKd} (h : keyKdM P t = some kd) : (keyKd P t = some kd) ∨ ∃ fs ks, P.underlying t = some (.struct fs) ∧ kd = .flds ks ∧ P.stoodInHeld t = false ∧ fs.toList.map (·.offset) = List.range' 0 fs.toList.length ∧ (∀ f ∈ fs.toList, f.name ≠ "_") ∧ fs.toList.mapM (fun f => k1Of P f.type) = some ks := by
  unfold keyKdM at h
  split at h
  · rename_i fs hu
    right
    split at h
    · rename_i hc
      simp only [Bool.and_eq_true, Bool.not_eq_true', beq_iff_eq] at hc
      obtain ⟨ks, hk, rfl⟩ := Option.map_eq_some_iff.1 h
      refine ⟨fs, ks, hu, rfl, hc.1.1, by rw [hc.1.2, List.range_eq_range']; simp, fun f hf => ?_, hk⟩
      have := List.all_eq_true.1 hc.2 f hf
      simpa using this
    · cases h
  · exact .inl h
theorem keyEqs_eq : ∀ {ks : List K1} {a b : List Value}, is1s ks a = true → is1s ks b = true → keyEqs a b = true → a = b
  | [], [], [], _, _, _ => rfl
  | [], _ :: _, _, h, _, _ => by simp [is1s] at h
  | [], [], _ :: _, _, h, _ => by simp [is1s] at h
  | k :: ks, [], _, h, _, _ => by simp [is1s] at h
  | k :: ks, _ :: _, [], _, h, _ => by simp [is1s] at h
  | k :: ks, a :: as, b :: bs, h1, h2, h3 => by
    simp only [is1s, keyEqs, Bool.and_eq_true] at h1 h2 h3
    rw [keyEqs_eq h1.2 h2.2 h3.2]
    congr 1
    have q1 := h1.1; have q2 := h2.1; have q3 := h3.1
    cases k <;> cases a <;> simp [K1.is] at q1 <;> cases b <;> simp [K1.is] at q2 <;> simp [keyEq1] at q3 <;> simp_all
    all_goals (rw [ba_beq] at q3; simpa using q3)
theorem bits_list : ∀ {ks : List K1} {a : List Value} (n : Nat), is1s ks a = true → ((a.zip a).all fun (x, y) => Instr.sameBits n x y) = true
  | [], [], n, _ => rfl
  | [], _ :: _, n, h => by simp [is1s] at h
  | k :: ks, [], n, h => by simp [is1s] at h
  | k :: ks, a :: as, n, h => by
    simp only [is1s, Bool.and_eq_true] at h
    simp only [List.zip_cons_cons, List.all_cons, bits_list n h.2, Bool.and_true]
    have q := h.1
    cases k <;> cases a <;> simp [K1.is] at q <;> (unfold Instr.sameBits) <;> (try simp)
    all_goals (rw [ba_beq]; simp)
theorem findAsk_ok {G : Ctx} {t : TypeId} {ks : List K1} {fs : Array Field} (hu : P.underlying t = some (.struct fs)) (hst : P.stoodInHeld t = false) (ho : fs.toList.map (·.offset) = List.range' 0 fs.toList.length) (hn : ∀ f ∈ fs.toList, f.name ≠ "_")
    (hks : fs.toList.mapM (fun f => k1Of P f.type) = some ks) {v : Value} (hv : (KeyKd.flds ks).is v = true) (w : World) : ∀ {es : List (Value × AV)} {us : List MapEntry} (i : Nat), Ents G es us → keysOk (.flds ks) es = true →
    (findE es v = none ∧ (Instr.findAsking t v us i).run P w = .ok none w ∧ updE es v = fun y => es ++ [(v, y)]) ∨
    ∃ (j : Nat) (x : AV) (u : MapEntry), findE es v = some x ∧ us[j]? = some u ∧ Rv G x u.val ∧ (Instr.findAsking t v us i).run P w = .ok (some (i + j, u.val)) w ∧ (KeyKd.flds ks).is u.key = true ∧ keyEq v u.key = true ∧ ∀ y, updE es v y = es.set j (v, y)
  | [], us, i, h, hk => by
    simp only [Ents] at h
    subst h
    exact .inl ⟨rfl, by simp [Instr.findAsking], by funext y; rfl⟩
  | (k, x) :: es, us, i, h, hk => by
    simp only [Ents] at h
    obtain ⟨u, us', rfl, h1, h2, h3⟩ := h
    simp only [keysOk, List.all_cons, Bool.and_eq_true] at hk
    have hq : (Op.equal t v u.key).run P w = .ok (keyEq v k) w := by
      rw [h1]
      have hv1 := hv
      have hk1 := hk.1
      cases v <;> simp [KeyKd.is] at hv1
      cases k <;> simp [KeyKd.is] at hk1
      rename_i a b
      have hfs : P.fieldsOf t = fs := by simp [Program.fieldsOf, hu]
      have := run_eqK (P := P) a b 9998 w fs.toList ks 0 hks hn ho (by simpa using hv1) (by simpa using hk1)
      rw [List.drop_zero, List.drop_zero] at this
      show (Op.equalIn 10000 t (.agg a) (.agg b)).run P w = _
      rw [run_equalIn_struct w 9999 t _ _ (by rw [hfs]; exact hu) hst, hfs]
      exact this
    by_cases he : keyEq v k = true
    · refine .inr ⟨0, x, u, by simp [findE, he], rfl, h2, ?_, by rw [h1]; exact hk.1, by rw [h1]; exact he, fun y => by simp [updE, he]⟩
      simp [Instr.findAsking, hq, he]
    · have he' : keyEq v k = false := by simpa using he
      rcases findAsk_ok hu hst ho hn hks hv w (i + 1) h3 hk.2 with ⟨a1, a2, a3⟩ | ⟨j, x', u', a1, a2, a3, a4, a5, a6, a7⟩
      · refine .inl ⟨by simp [findE, he', a1], ?_, ?_⟩
        · simp [Instr.findAsking, hq, he', a2]
        · funext y; simp [updE, he', a3]
      · refine .inr ⟨j + 1, x', u', by simp [findE, he', a1], by simpa using a2, a3, ?_, a5, a6, fun y => by simp [updE, he', a7]⟩
        simp only [Instr.findAsking, Sem.run_bind, hq, he', Result.andThen_ok, Bool.false_eq_true, if_false]
        rw [show i + (j + 1) = i + 1 + j by omega]; exact a4
theorem key_same {kd : KeyKd} (hs : kd.simple = true) {a b : Value} (ha : kd.is a = true) (hb : kd.is b = true) (h : keyEq a b = true) : a = b := by
  cases kd <;> simp [KeyKd.simple] at hs <;> cases a <;> simp [KeyKd.is] at ha <;> cases b <;> simp [KeyKd.is] at hb <;> simp [keyEq] at h <;> simp_all
  all_goals (rw [ba_beq] at h; simpa using h)
/-- A key is looked for. -/
theorem find_any {G : Ctx} {t : TypeId} {kd : KeyKd} {v : Value} (hk : keyKdM P t = some kd) (hv : kd.is v = true) (w : World) {es : List (Value × AV)} {us : List MapEntry} (h : Ents G es us) (hks : keysOk kd es = true) :
    (findE es v = none ∧ (Instr.findKey t v us).run P w = .ok none w ∧ updE es v = fun y => es ++ [(v, y)]) ∨
    ∃ (j : Nat) (x : AV) (u : MapEntry), findE es v = some x ∧ us[j]? = some u ∧ Rv G x u.val ∧ (Instr.findKey t v us).run P w = .ok (some (j, u.val)) w ∧ Instr.sameBits 10000 u.key v = true ∧ u.key = v ∧ ∀ y, updE es v y = es.set j (v, y) := by
  rcases keyKdM_cases hk with h0 | ⟨fs, ks, hu, rfl, hst, ho, hn, hks2⟩
  · have hs := keyKd_simple h0
    have hd := keyKd_some h0
    rcases find_now hs hv 0 h hks with ⟨a1, a2, a3⟩ | ⟨j, x', u', a1, a2, a3, a4, a5, a6, a7⟩
    · exact .inl ⟨a1, find_key hd a2 w, a3⟩
    · refine .inr ⟨j, x', u', a1, a2, a3, ?_, same_bits hs a5 hv a6 10000, (key_same hs hv a5 a6).symm, a7⟩
      rw [Nat.zero_add] at a4
      exact find_key hd a4 w
  · have hfind : (Instr.findKey t v us).run P w = (Instr.findAsking t v us).run P w := by
      unfold Instr.findKey
      cases us with
      | nil => simp [run_underlying hu, Instr.findNow, Instr.findAsking]
      | cons u us =>
        have : Instr.findNow (.struct fs) v (u :: us) 0 = none := by simp [Instr.findNow, Instr.sameNow]
        simp [run_underlying hu, this]
    rw [hfind]
    rcases findAsk_ok hu hst ho hn hks2 hv w 0 h hks with ⟨a1, a2, a3⟩ | ⟨j, x', u', a1, a2, a3, a4, a5, a6, a7⟩
    · exact .inl ⟨a1, a2, a3⟩
    · refine .inr ⟨j, x', u', a1, a2, a3, by rw [Nat.zero_add] at a4; exact a4, ?_, ?_, a7⟩
      rotate_left
      · have h5 := a5
        cases hv0 : v <;> simp [hv0, KeyKd.is] at hv
        cases hk0 : u'.key <;> simp [hk0, KeyKd.is] at h5
        rw [hv0, hk0] at a6
        rw [Array.toList_inj.1 (keyEqs_eq hv h5 a6)]
      have h5 := a5
      cases hv0 : v <;> simp [hv0, KeyKd.is] at hv
      cases hk0 : u'.key <;> simp [hk0, KeyKd.is] at h5
      rw [hv0, hk0] at a6
      have e := keyEqs_eq hv h5 a6
      unfold Instr.sameBits
      have e2 := Array.toList_inj.1 e
      subst e2
      simpa using bits_list 9999 hv
theorem check_any {t : TypeId} {kd : KeyKd} {v : Value} (hk : keyKdM P t = some kd) (hv : kd.is v = true) (e : Bool) (w : World) : (Instr.checkKey e 10000 t v).run P w = .ok () w := by
  rcases keyKdM_cases hk with h0 | ⟨fs, ks, hu, rfl, hst, ho, hn, hks2⟩
  · exact check_key (keyKd_simple h0) (keyKd_some h0) hv e w
  · cases v <;> simp [KeyKd.is] at hv
    rename_i cs
    unfold Instr.checkKey
    simp only [Sem.run_bind, run_underlying hu, Result.andThen_ok]
    rw [← Array.forIn_toList]
    have := run_checkK (P := P) e cs 9998 w fs.toList ks 0 hks2 hn ho (by simpa using hv)
    erw [this]
    rfl
theorem scs_rv {G : Ctx} : ∀ {cs : List AV} {vs : List Value} {us : List Value}, scs cs = some vs → Rvs G cs us → us = vs
  | [], vs, us, h, hr => by
    simp [scs] at h; subst h
    simpa only [Rvs] using hr
  | .sc v :: cs, vs, us, h, hr => by
    simp only [scs, Option.map_eq_some_iff] at h
    obtain ⟨vs', h1, rfl⟩ := h
    simp only [Rvs, Rv] at hr
    obtain ⟨u, us', rfl, rfl, h2⟩ := hr
    rw [scs_rv h1 h2]
  | .ro .. :: _, _, _, h, _ | .ref .. :: _, _, _, h, _ | .ptr .. :: _, _, _, h, _ | .rop .. :: _, _, _, h, _ | .clo .. :: _, _, _, h, _ | .bnd .. :: _, _, _, h, _ | .mp .. :: _, _, _, h, _ | .rom .. :: _, _, _, h, _ | .it .. :: _, _, _, h, _ | .agg .. :: _, _, _, h, _ | .tup .. :: _, _, _, h, _ | .ifc .. :: _, _, _, h, _ | .junk :: _, _, _, h, _ => by simp [scs] at h
theorem keyV_rv {G : Ctx} {x : AV} {v u : Value} (h : keyV x = some v) (hr : Rv G x u) : u = v := by
  unfold keyV at h
  split at h
  · cases h; exact scR hr
  · obtain ⟨vs, h1, rfl⟩ := Option.map_eq_some_iff.1 h
    simp only [Rv] at hr
    obtain ⟨us, rfl, h2⟩ := hr
    rw [scs_rv h1 h2]
  · cases h

theorem ok_look (hR : Rel G) {t kt e : TypeId} {kd : KeyKd} {i : TypeInfo} {z : Value} {ok : Bool} {x y : AV} {u v : Value} (ht : P.underlying t = some (.map kt e)) (hk : keyKdM P kt = some kd) (hi : P.info? e = some i) (hz : i.zero = some z)
    (h : match keyV y with
      | some v => orK (mapOf G.S x) fun es => keysOk kd es = true ∧ kd.is v = true ∧
        K (if ok then .tup [(findE es v).getD (avOf z), .sc (.bool (findE es v).isSome)] else (findE es v).getD (avOf z)) G.S
      | _ => False) (hx : Rv G x u) (hy : Rv G y v) : ∃ v', (Instr.lookup t u v ok).run P G.w = .ok v' G.w ∧ ∃ r, Rv G r v' ∧ K r G.S := by
  cases hkv : keyV y with
  | some kv =>
    rw [hkv] at h
    have hvk := keyV_rv hkv hy
    subst hvk
    obtain ⟨es, hm, h1, h2, h3⟩ := orK_elim h
    have hzr : (zeroValue e).run P G.w = .ok z G.w := by simp [zeroValue, typeInfo, hi, hz]
    have fin : ∀ (vv : Value) (xx : AV) (b : Bool), Rv G xx vv → (findE es v).getD (avOf z) = xx → (findE es v).isSome = b → ∃ r, Rv G r (if ok = true then .tuple #[vv, .bool b] else vv) ∧ K r G.S := fun vv xx b hr he hb => by
      rw [he, hb] at h3
      cases ok
      · exact ⟨_, hr, h3⟩
      · refine ⟨_, ?_, h3⟩
        simp only [if_true, Rv]
        exact ⟨[vv, .bool b], rfl, by simp only [Rvs]; exact ⟨vv, _, rfl, hr, .bool b, [], rfl, by simp only [Rv], rfl⟩⟩
    rcases map_real hR hx hm with ⟨rfl, rfl⟩ | ⟨b, en, cl, rfl, hb, hent⟩
    · refine ⟨if ok = true then .tuple #[z, .bool false] else z, ?_, fin z (avOf z) false (avOf_ok z) rfl rfl⟩
      have hf : (Instr.findKey kt v []).run P G.w = .ok none G.w := by
        rcases find_any (G := G) (es := []) (us := []) hk h2 G.w (by simp [Ents]) rfl with ⟨_, a2, _⟩ | ⟨j, x', u', _, a2, _⟩
        · exact a2
        · simp at a2
      simp [Instr.lookup, run_underlying ht, check_any hk h2, hf, hzr]
    · rcases find_any hk h2 G.w hent h1 with ⟨a1, hf, _⟩ | ⟨j, x', u', a1, a2, a3, hf, _, _, _⟩
      · refine ⟨if ok = true then .tuple #[z, .bool false] else z, ?_, fin z (avOf z) false (avOf_ok z) (by rw [a1]; rfl) (by rw [a1]; rfl)⟩
        simp [Instr.lookup, run_underlying ht, get_map hb, check_any hk h2, hf, hzr]
      · refine ⟨if ok = true then .tuple #[u'.val, .bool true] else u'.val, ?_, fin u'.val x' true a3 (by rw [a1]; rfl) (by rw [a1]; rfl)⟩
        simp [Instr.lookup, run_underlying ht, get_map hb, check_any hk h2, hf]
  | none => rw [hkv] at h; exact h.elim

theorem run_key {kd : KeyKd} {t : TypeId} {u v : Value} (ht : keyKd P t = some kd) (hu : kd.is u = true) (hv : kd.is v = true) (d : Nat) (w : World) : (Op.equalIn (d + 1) t u v).run P w = .ok (keyEq u v) w := by
  have hd := keyKd_some ht
  have hs := keyKd_simple ht
  cases kd <;> simp [KeyKd.simple] at hs <;> cases u <;> simp [KeyKd.is] at hu <;> cases v <;> simp [KeyKd.is] at hv
  · rw [run_equalIn_string w d t _ _ hd, ← beq_toListBytes]; rfl
  · subst hu; subst hv
    rw [run_equalIn_int w d t _ _ _ _ hd]; rfl
  · rw [run_equalIn_bool' w d t _ _ hd]; rfl
theorem keyKd_agg {t : TypeId} {kd : KeyKd} (h : keyKd P t = some kd) : isAggT P t = some false := by
  have := keyKd_some h
  have hs := keyKd_simple h
  unfold isAggT
  rw [this]
  cases kd <;> first | rfl | simp [KeyKd.simple] at hs
theorem run_eqFs (hR : Rel G) {xs ys : List AV} {us vs : List Value} (hx : Rvs G xs us) (hy : Rvs G ys vs) (d : Nat) : ∀ (fs : List Field) (ks : List (KeyKd × Nat)) (b : Bool),
    fs.mapM (fun f => if f.name != "_" && has P f.type then (keyKd P f.type).map fun k => (k, f.offset) else none) = some ks → eqFs ks xs ys = some b → (Op.eqFields (d + 1) us.toArray vs.toArray fs).run P G.w = .ok b G.w
  | [], ks, b, h1, h2 => by simp at h1; subst h1; simp [eqFs] at h2; subst h2; simp [Op.eqFields]
  | f :: fs, ks, b, h1, h2 => by
    simp only [List.mapM_cons, Option.bind_eq_bind, Option.bind_eq_some_iff, Option.pure_def, Option.some.injEq] at h1
    obtain ⟨k, hk, ks', h3, rfl⟩ := h1
    split at hk
    · rename_i hn
      simp only [Bool.and_eq_true, bne_iff_ne, ne_eq] at hn
      simp only [Option.map_eq_some_iff] at hk
      obtain ⟨kd, hkd, rfl⟩ := hk
      simp only [eqFs] at h2
      split at h2
      · rename_i u v hu hv
        split at h2
        · rename_i hi
          simp only [Bool.and_eq_true] at hi
          simp only [Option.map_eq_some_iff] at h2
          obtain ⟨b', hb', rfl⟩ := h2
          obtain ⟨u', e1, e2⟩ := (rvs_iff.1 hx).2 _ _ hu
          obtain ⟨v', e3, e4⟩ := (rvs_iff.1 hy).2 _ _ hv
          have := scR e2; subst this
          have := scR e4; subst this
          have hag := keyKd_agg hkd
          have pa : (part f.type us.toArray f.offset).run P G.w = .ok u' G.w := by simp [part, run_isAggT hag, e1]
          have pb : (part f.type vs.toArray f.offset).run P G.w = .ok v' G.w := by simp [part, run_isAggT hag, e3]
          have ih := run_eqFs hR hx hy d fs ks' b' h3 hb'
          simp only [Op.eqFields, hn.1, ne_eq, not_false_eq_true, if_true, Sem.run_bind, pa, pb, Result.andThen_ok, run_key hkd hi.1 hi.2]
          cases hke : keyEq u' v'
          · simp
          · simp [ih]
        · cases h2
      · cases h2
    · cases hk
theorem ok_eqS (hR : Rel G) {neg : Bool} {t : TypeId} {fs : Array Field} {ks : List (KeyKd × Nat)} {x y : AV} {u v : Value} (ht : P.underlying t = some (.struct fs)) (hk : eqFields P t fs = some ks)
    (h : match x, y with
      | .agg xs, .agg ys => orK (eqFs ks xs ys) fun b => K (boolK neg b) G.S
      | _, _ => False) (hx : Rv G x u) (hy : Rv G y v) (ox oy : Operand) :
    ∃ r, ((do eqGuard (if neg then .neq else .eql) t ox oy u v; binOp (if neg then .neq else .eql) t u v) : Sem Value).run P G.w = .ok r G.w ∧ ∃ z, Rv G z r ∧ K z G.S := by
  split at h
  · rename_i xs ys
    obtain ⟨b, hb, hK⟩ := orK_elim h
    simp only [Rv] at hx hy
    obtain ⟨us, rfl, h1⟩ := hx
    obtain ⟨vs, rfl, h2⟩ := hy
    unfold eqFields at hk
    split at hk
    · rename_i hc
      simp only [Bool.and_eq_true, Bool.not_eq_true'] at hc
      have hfs : P.fieldsOf t = fs := by simp [Program.fieldsOf, ht]
      have hrun := run_eqFs hR h1 h2 9998 fs.toList ks b hk hb
      have he : (Op.equalIn 10000 t (.agg us.toArray) (.agg vs.toArray)).run P G.w = .ok b G.w := by
        rw [run_equalIn_struct G.w 9999 t _ _ (by rw [hfs]; exact ht) hc.1, hfs]; exact hrun
      refine ⟨.bool (if neg then !b else b), ?_, boolK neg b, by simp only [Rv, boolK], hK⟩
      simp only [Sem.run_bind, run_eqGuard_agg G.w _ t ox oy _ _ hc.2, Result.andThen_ok]
      cases neg
      · simp only [Bool.false_eq_true, if_false, run_eql_struct, he, Result.andThen_ok]
      · simp only [if_true, run_neq_struct, he, Result.andThen_ok]
    · cases hk
  · exact h.elim

theorem run_eqEs (hR : Rel G) {xs ys : List AV} {us vs : List Value} (hx : Rvs G xs us) (hy : Rvs G ys vs) (d : Nat) {e : TypeId} {kd : KeyKd} (hkd : keyKd P e = some kd) : ∀ (is : List Nat) (b : Bool),
    eqFs (is.map fun i => (kd, i)) xs ys = some b → (Op.eqItems (d + 1) e 1 us.toArray vs.toArray is).run P G.w = .ok b G.w
  | [], b, h2 => by simp [eqFs] at h2; subst h2; simp [Op.eqItems]
  | i :: is, b, h2 => by
    simp only [List.map_cons, eqFs] at h2
    split at h2
    · rename_i u v hu hv
      split at h2
      · rename_i hi
        simp only [Bool.and_eq_true] at hi
        simp only [Option.map_eq_some_iff] at h2
        obtain ⟨b', hb', rfl⟩ := h2
        obtain ⟨u', e1, e2⟩ := (rvs_iff.1 hx).2 _ _ hu
        obtain ⟨v', e3, e4⟩ := (rvs_iff.1 hy).2 _ _ hv
        have := scR e2; subst this
        have := scR e4; subst this
        have hag := keyKd_agg hkd
        have pa : (part e us.toArray (i * 1)).run P G.w = .ok u' G.w := by simp [part, run_isAggT hag, e1]
        have pb : (part e vs.toArray (i * 1)).run P G.w = .ok v' G.w := by simp [part, run_isAggT hag, e3]
        have ih := run_eqEs hR hx hy d hkd is b' hb'
        simp only [Op.eqItems, Sem.run_bind, pa, pb, Result.andThen_ok, run_key hkd hi.1 hi.2]
        cases hke : keyEq u' v'
        · simp
        · simp [ih]
      · cases h2
    · cases h2
theorem ok_eqArr (hR : Rel G) {neg : Bool} {t : TypeId} {n : Nat} {e : TypeId} {ks : List (KeyKd × Nat)} {x y : AV} {u v : Value} (ht : P.underlying t = some (.array n e)) (hk : eqElems P t n e = some ks)
    (h : match x, y with
      | .agg xs, .agg ys => orK (eqFs ks xs ys) fun b => K (boolK neg b) G.S
      | _, _ => False) (hx : Rv G x u) (hy : Rv G y v) (ox oy : Operand) :
    ∃ r, ((do eqGuard (if neg then .neq else .eql) t ox oy u v; binOp (if neg then .neq else .eql) t u v) : Sem Value).run P G.w = .ok r G.w ∧ ∃ z, Rv G z r ∧ K z G.S := by
  split at h
  · rename_i xs ys
    obtain ⟨b, hb, hK⟩ := orK_elim h
    simp only [Rv] at hx hy
    obtain ⟨us, rfl, h1⟩ := hx
    obtain ⟨vs, rfl, h2⟩ := hy
    unfold eqElems at hk
    split at hk
    · rename_i hc
      simp only [Bool.and_eq_true, Bool.not_eq_true', beq_iff_eq] at hc
      obtain ⟨⟨⟨hg, hh⟩, hce⟩, _⟩ := hc
      simp only [Option.map_eq_some_iff] at hk
      obtain ⟨kd, hkd, rfl⟩ := hk
      obtain ⟨i, hi⟩ := Option.isSome_iff_exists.1 hh
      have hrun := run_eqEs hR h1 h2 9998 hkd (List.range n) b hb
      have he : (Op.equalIn 10000 t (.agg us.toArray) (.agg vs.toArray)).run P G.w = .ok b G.w := by
        rw [run_equalIn_array G.w 9999 _ _ ht hi, hce]; exact hrun
      refine ⟨.bool (if neg then !b else b), ?_, boolK neg b, by simp only [Rv, boolK], hK⟩
      simp only [Sem.run_bind, run_eqGuard_agg G.w _ t ox oy _ _ hg, Result.andThen_ok]
      cases neg
      · simp only [Bool.false_eq_true, if_false, run_eql_struct, he, Result.andThen_ok]
      · simp only [if_true, run_neq_struct, he, Result.andThen_ok]
    · cases hk
  · exact h.elim

theorem ok_mkmap (hR : Rel G) (t : TypeId) (h : K (.mp G.S.n) (G.S.add (.map []))) : ∃ v w', (Instr.makeMap t none).run P G.w = .ok v w' ∧ Left G K v w' := by
  have hR' : Rel (G.add (.map #[] 0) (.map [])) := add_rel hR ⟨G.w.heap.size, #[], 0, by simp [Ctx.add], heap_alloc_eq _ _, by simp [Ents], by simp [Borns]⟩
  refine ⟨_, _, by simp [Instr.makeMap]; exact ⟨rfl, rfl⟩, G.add (.map #[] 0) (.map []), .mp G.S.n, rfl, hR', add_step hR _ _, ?_, h⟩
  simp only [Rv]
  exact ⟨by simp [Ctx.add, St.add], ⟨_, rfl⟩, fun es hm => ⟨G.w.heap.size, by simp [Ctx.add], rfl⟩⟩

theorem ents_snoc {G : Ctx} {es : List (Value × AV)} {us : List MapEntry} {k : Value} {x : AV} {v : Value} {c : Nat} (h : Ents G es us) (hx : Rv G x v) : Ents G (es ++ [(k, x)]) (us ++ [{ key := k, val := v, born := c }]) := by
  obtain ⟨h1, h2⟩ := ents_iff.1 h
  refine ents_iff.2 ⟨by simp [h1], ?_⟩
  simp only [List.map_append, List.map_cons, List.map_nil]
  exact rvs_append h2 (by simp only [Rvs]; exact ⟨v, [], rfl, hx, rfl⟩)
theorem ents_set {G : Ctx} {k : Value} {x : AV} {v : Value} (hx : Rv G x v) : ∀ {es : List (Value × AV)} {us : List MapEntry} (j : Nat), Ents G es us → Ents G (es.set j (k, x)) (us.modify j fun e => { e with key := k, val := v })
  | [], us, j, h => by simp only [Ents] at h; subst h; simp [Ents]
  | y :: es, us, j, h => by
    simp only [Ents] at h
    obtain ⟨u, us', rfl, h1, h2, h3⟩ := h
    cases j with
    | zero => simp only [List.set_cons_zero, List.modify_zero_cons, Ents]; exact ⟨_, us', rfl, rfl, hx, h3⟩
    | succ j => simp only [List.set_cons_succ, List.modify_succ_cons, Ents]; exact ⟨u, _, rfl, h1, h2, ents_set hx j h3⟩
theorem borns_push {en : Array MapEntry} {cl : Nat} (h : Borns en cl) (k v : Value) : Borns (en.push { key := k, val := v, born := cl }) (cl + 1) := by
  obtain ⟨h1, h2⟩ := h
  refine ⟨fun e he => ?_, ?_⟩
  · rcases List.mem_append.1 (by simpa using he : e ∈ en.toList ++ [{ key := k, val := v, born := cl }]) with h | h
    · have := h1 e h; omega
    · rw [List.mem_singleton] at h; subst h; exact Nat.lt_succ_self _
  · simp only [Array.toList_push, List.map_append, List.map_cons, List.map_nil]
    refine List.nodup_append.2 ⟨h2, by simp, fun a ha b hb => ?_⟩
    rw [List.mem_singleton] at hb
    obtain ⟨e, he, rfl⟩ := List.mem_map.1 ha
    have := h1 e he
    omega
theorem borns_set {en : Array MapEntry} {cl : Nat} (h : Borns en cl) (j : Nat) (k v : Value) : Borns (en.modify j fun e => { e with key := k, val := v }) cl := by
  have e : ((en.modify j fun e => { e with key := k, val := v }).toList.map (·.born)) = en.toList.map (·.born) := by
    rw [Array.toList_modify]
    generalize en.toList = l
    induction l generalizing j with
    | nil => simp
    | cons x l ih =>
      cases j with
      | zero => simp
      | succ j => simp [ih]
  refine ⟨fun x hx => ?_, by rw [e]; exact h.2⟩
  have : x.born ∈ en.toList.map (·.born) := by rw [← e]; exact List.mem_map_of_mem hx
  obtain ⟨y, hy, h3⟩ := List.mem_map.1 this
  rw [← h3]; exact h.1 y hy
theorem grown_push (en : Array MapEntry) (x : MapEntry) : Grown en (en.push x) := fun i e h => ⟨e, by rw [Array.getElem?_push]; have := (Array.getElem?_eq_some_iff.1 h).1; rw [if_neg (by omega)]; exact h, rfl, rfl⟩
theorem grown_set (en : Array MapEntry) (j : Nat) (k v : Value) (hk : ∀ u, en[j]? = some u → u.key = k) : Grown en (en.modify j fun e => { e with key := k, val := v }) := fun i e h => by
  rw [Array.getElem?_modify]
  by_cases hij : j = i
  · subst hij
    rw [if_pos rfl, h]
    exact ⟨_, rfl, rfl, (hk e h).symm⟩
  · rw [if_neg hij]; exact ⟨e, h, rfl, rfl⟩
theorem ok_mupd (hR : Rel G) {t kt e : TypeId} {kd : KeyKd} {x y z : AV} {u v a : Value} (ht : P.underlying t = some (.map kt e)) (hk : keyKdM P kt = some kd)
    (h : match x, keyV y with
      | .mp l, some v => orK (G.S.map? l) fun es => keysOk kd es = true ∧ kd.is v = true ∧ K (.sc undef) (G.S.set l (.map (updE es v z)))
      | _, _ => False) (hx : Rv G x u) (hy : Rv G y v) (hz : Rv G z a) : ∃ w', (Instr.mapUpdate t u v a).run P G.w = .ok () w' ∧ Left G K undef w' := by
  split at h
  · rename_i l kv hkv
    have hvk := keyV_rv hkv hy
    subst hvk
    obtain ⟨es, hm, h1, h2, h3⟩ := orK_elim h
    unfold St.map? at hm
    split at hm
    · rename_i es' ho
      cases hm
      simp only [Rv] at hx
      obtain ⟨b, hb, rfl⟩ := hx.2.2 _ ho
      obtain ⟨b', en, cl, g1, g2, g3, g4⟩ := hR.ok _ _ ho
      rw [hb] at g1; cases g1
      have hlive : G.live l b := ⟨⟨_, ho⟩, hb⟩
      have fin : ∀ (en' : Array MapEntry) (cl' : Nat) (es' : List (Value × AV)), Ents G es' en'.toList → Borns en' cl' → Grown en en' → Left G (fun _ S => S = G.S.set l (.map es')) undef { G.w with heap := G.w.heap.setIfInBounds b (.map en' cl') } := fun en' cl' es' hen hbo hgr => by
        have hoth : ∀ b', b' ≠ b → ({ G.w with heap := G.w.heap.setIfInBounds b (.map en' cl') } : World).heap[b']? = G.w.heap[b']? := fun b' hb' => by
          simp [Array.getElem?_setIfInBounds, Ne.symm hb']
        have hst : Step G (G.put { G.w with heap := G.w.heap.setIfInBounds b (.map en' cl') } l (.map es')) := put_step hR hlive rfl rfl (Nat.le_refl _) rfl (by simp) hoth ⟨es, ho⟩ (fun en0 cl0 h => by
          rw [g2] at h; cases h
          have hlt : b < G.w.heap.size := (Array.getElem?_eq_some_iff.1 g2).1
          exact ⟨en', cl', by show (G.w.heap.setIfInBounds b _)[b]? = _; simp [hlt], hgr⟩)
        have hlt : b < G.w.heap.size := (Array.getElem?_eq_some_iff.1 g2).1
        refine ⟨_, .sc undef, rfl, put_rel hR hlive hst hoth ⟨b, en', cl', hb, ?_, hen.step hst, hbo⟩, hst, by simp only [Rv], rfl⟩
        show (G.w.heap.setIfInBounds b (.map en' cl'))[b]? = _
        simp [hlt]
      rcases find_any hk h2 G.w g3 h1 with ⟨a1, hf, a3⟩ | ⟨j, x', u', a1, a2, a3, hf, hsb, hkv, a7⟩
      · refine ⟨{ G.w with heap := G.w.heap.setIfInBounds b (.map (en.push { key := v, val := a, born := cl }) (cl + 1)) }, ?_, ?_⟩
        · simp [Instr.mapUpdate, run_underlying ht, get_map g2, check_any hk h2, hf, set_map _ g2]
        · obtain ⟨G', r, b1, b2, b3, b4, b5⟩ := fin (en.push { key := v, val := a, born := cl }) (cl + 1) (updE es v z) (by rw [a3]; simpa using ents_snoc g3 hz) (borns_push g4 v a) (grown_push en _)
          exact ⟨G', .sc undef, b1, b2, b3, by simp only [Rv], by rw [b5]; exact h3⟩
      · have hju : en[j]? = some u' := by simpa using a2
        refine ⟨{ G.w with heap := G.w.heap.setIfInBounds b (.map (en.modify j fun e => { e with key := v, val := a }) cl) }, ?_, ?_⟩
        · simp [Instr.mapUpdate, run_underlying ht, get_map g2, check_any hk h2, hf, Instr.keyThatStays, hju, hsb, set_map _ g2]
        · obtain ⟨G', r, b1, b2, b3, b4, b5⟩ := fin (en.modify j fun e => { e with key := v, val := a }) cl (updE es v z) (by rw [a7]; simpa using ents_set hz j g3) (borns_set g4 j v a) (grown_set en j v a fun u hu => by rw [show en[j]? = some u' by simpa using a2] at hu; cases hu; exact hkv)
          exact ⟨G', .sc undef, b1, b2, b3, by simp only [Rv], by rw [b5]; exact h3⟩
    · cases hm
  · exact h.elim

/-! ### maps gone through -/
theorem ents_erase {G : Ctx} : ∀ {es : List (Value × AV)} {us : List MapEntry} (i : Nat), Ents G es us → Ents G (es.eraseIdx i) (us.eraseIdx i)
  | [], us, i, h => by simp only [Ents] at h; subst h; simp [Ents]
  | y :: es, us, i, h => by
    simp only [Ents] at h
    obtain ⟨u, us', rfl, h1, h2, h3⟩ := h
    cases i with
    | zero => simpa using h3
    | succ i => simp only [List.eraseIdx_cons_succ, Ents]; exact ⟨u, _, rfl, h1, h2, ents_erase i h3⟩
theorem ents_at {G : Ctx} : ∀ {es : List (Value × AV)} {us : List MapEntry} (i : Nat) (h : i < es.length), Ents G es us → ∃ u, us[i]? = some u ∧ u.key = es[i].1 ∧ Rv G es[i].2 u.val
  | [], us, i, h, _ => by simp at h
  | y :: es, us, i, h, he => by
    simp only [Ents] at he
    obtain ⟨u, us', rfl, h1, h2, h3⟩ := he
    cases i with
    | zero => exact ⟨u, by simp, h1, h2⟩
    | succ i => simpa using ents_at i (by simpa using h) h3
theorem filter_erase : ∀ (L : List MapEntry) (i : Nat) (u : MapEntry), (L.map (·.born)).Nodup → L[i]? = some u → L.filter (fun e => !(e.born == u.born)) = L.eraseIdx i
  | [], i, u, _, h => by simp at h
  | x :: L, 0, u, hn, h => by
    simp at h; subst h
    simp only [List.map_cons, List.nodup_cons] at hn
    simp only [List.eraseIdx_cons_zero, List.filter_cons, beq_self_eq_true, Bool.not_true, Bool.false_eq_true, if_false]
    rw [List.filter_eq_self]
    intro e he
    have : e.born ≠ x.born := fun hq => hn.1 (by rw [← hq]; exact List.mem_map_of_mem he)
    simpa using this
  | x :: L, i + 1, u, hn, h => by
    simp only [List.map_cons, List.nodup_cons] at hn
    have h' : L[i]? = some u := by simpa using h
    have : x.born ≠ u.born := fun hq => hn.1 (by rw [hq]; exact List.mem_map_of_mem (List.mem_of_getElem? h'))
    simp only [List.eraseIdx_cons_succ, List.filter_cons]
    rw [if_pos (by simpa using this), filter_erase L i u hn.2 h']
theorem find_born {en : Array MapEntry} {e : MapEntry} (hn : (en.toList.map (·.born)).Nodup) (he : e ∈ en.toList) : en.find? (fun x => x.born == e.born) = some e := by
  rw [← Array.find?_toList]
  generalize en.toList = l at hn he
  induction l with
  | nil => simp at he
  | cons x l ih =>
    simp only [List.map_cons, List.nodup_cons] at hn
    rcases List.mem_cons.1 he with rfl | he
    · simp
    · have : x.born ≠ e.born := fun h => hn.1 (by rw [h]; exact List.mem_map_of_mem he)
      rw [List.find?_cons_of_neg (by simpa using this)]
      exact ih hn.2 he
theorem ok_range (hR : Rel G) {t kt e : TypeId} {x : AV} {u : Value} (ht : P.underlying t = some (.map kt e)) (h : orK (romOf x) fun es => K (.it G.S.n) (G.S.add (.iter (.map none es)))) (hx : Rv G x u) : ∃ v w', (Instr.range t u).run P G.w = .ok v w' ∧ Left G K v w' := by
  obtain ⟨es, he, hK⟩ := orK_elim h
  have key : ∀ (o : Obj), (Instr.range t u).run P G.w = .ok (.pointer (some ⟨G.w.heap.size, 0, none⟩)) (G.w.alloc o) → ObOk (G.add o (.iter (.map none es))) G.S.n (.iter (.map none es)) → ∃ v w', (Instr.range t u).run P G.w = .ok v w' ∧ Left G K v w' := fun o hr ho => by
    refine ⟨_, _, hr, G.add o (.iter (.map none es)), .it G.S.n, rfl, add_rel hR ho, add_step hR _ _, ?_, hK⟩
    simp only [Rv]
    exact ⟨by simp [Ctx.add, St.add], ⟨_, rfl⟩, fun i hm => ⟨G.w.heap.size, by simp [Ctx.add], rfl⟩⟩
  have hnil : u = .map none → es = [] → ∃ v w', (Instr.range t u).run P G.w = .ok v w' ∧ Left G K v w' := fun e1 e2 => by
    subst e1 e2
    refine key (.mapIter none 0 #[] 0) (by simp [Instr.range, run_underlying ht]) ⟨G.w.heap.size, by simp [Ctx.add], .inl ⟨0, #[], 0, heap_alloc_eq _ _, rfl, rfl⟩⟩
  unfold romOf at he
  split at he
  · rename_i ks vs
    cases he
    simp only [Rv] at hx
    rcases hx with ⟨rfl, rfl, rfl⟩ | ⟨b, en, cl, rfl, hold, hb, hk, hs, hbo⟩
    · exact hnil rfl rfl
    · refine key (.mapIter (some b) cl #[] cl) (by simp [Instr.range, run_underlying ht, get_map hb]) ?_
      have hst := add_step hR (.mapIter (some b) cl #[] cl) (.iter (.map none (ks.zip vs)))
      refine ⟨G.w.heap.size, by simp [Ctx.add], .inr ⟨b, cl, #[], cl, en, cl, heap_alloc_eq _ _, hst.old hold, (hst.keep b hold).trans hb, Nat.le_refl _, Nat.le_refl _, hbo.1, hbo.2, ?_, fun c h => by cases h⟩⟩
      have h2 : Ents G (ks.zip vs) en.toList := by rw [← hk]; exact ents_zip hs
      have e3 : (en.toList.filter fun e => !(#[] : Array Nat).contains e.born) = en.toList := by simp
      rw [e3]
      exact h2.step hst
  · cases he
    exact hnil (scR hx) rfl
  · cases he
theorem ok_next (hR : Rel G) {x : AV} {u : Value} {t : TypeId}
    (h : orK (itOf G.S x) fun p => (p.2 = [] → K (.tup [.sc (.bool false)]) G.S) ∧ ∀ i (h : i < p.2.length), K (.tup [.sc (.bool true), avOf p.2[i].1, p.2[i].2]) (G.S.set p.1 (.iter (.map (some p.2[i]) (p.2.eraseIdx i))))) (hx : Rv G x u) :
    ∃ v w', (Instr.next u false t).run P G.w = .ok v w' ∧ Left G K v w' := by
  obtain ⟨⟨l, left⟩, he, h1, h2⟩ := orK_elim h
  unfold itOf at he
  split at he
  · rename_i l'
    split at he
    · rename_i cur left' hm
      cases he
      simp only [Rv] at hx
      obtain ⟨b, hb, rfl⟩ := hx.2.2 _ hm
      obtain ⟨b', g1, g2⟩ := hR.ok _ _ hm
      rw [hb] at g1; cases g1
      have hlive : G.live l b := ⟨⟨_, hm⟩, hb⟩
      have over : left = [] → (Instr.next (.pointer (some ⟨b, 0, none⟩)) false t).run P G.w = .ok (.tuple #[.bool false]) G.w → ∃ v w', (Instr.next (.pointer (some ⟨b, 0, none⟩)) false t).run P G.w = .ok v w' ∧ Left G K v w' := fun e1 e2 =>
        ⟨_, _, e2, G, .tup [.sc (.bool false)], rfl, hR, Step.refl G, by simp only [Rv]; exact ⟨[.bool false], rfl, by simp only [Rvs, Rv]; exact ⟨_, _, rfl, rfl, rfl⟩⟩, h1 e1⟩
      rcases g2 with ⟨s, se, la, q1, q2, _⟩ | ⟨bm, s, se, la, en, cl, q1, q2, q3, q4, q5, q6, q7, q8, _⟩
      · refine over q2 ?_
        have hg : (getObj b).run P G.w = .ok (.mapIter none s se la) G.w := by simp [getObj, Sem.run, q1]
        simp [Instr.next, hg]
      · have hg : (getObj b).run P G.w = .ok (.mapIter (some bm) s se la) G.w := by simp [getObj, Sem.run, q1]
        have hgm := get_map (P := P) q3
        have hchk : (!se.isEmpty && !en.isEmpty && en.all (·.born ≥ la)) = false := by
          cases hen : en.isEmpty with
          | true => simp
          | false =>
            have hpos : 0 < en.size := by
              rcases Nat.eq_zero_or_pos en.size with h | h
              · rw [Array.isEmpty] at hen; simp [h] at hen
              · exact h
            have : en.all (fun e => decide (e.born ≥ la)) = false := by
              rw [Bool.eq_false_iff]
              intro hall
              have := Array.all_eq_true_iff_forall_mem.1 hall en[0] (by simp)
              have h3 := q6 en[0] (by simp)
              simp at this
              omega
            rw [this]; simp
        have hold : (en.filter fun e => !se.contains e.born).filter (fun e => decide (e.born < s)) = en.filter fun e => !se.contains e.born := by
          rw [Array.filter_eq_self]
          intro e hx
          have := q6 e (by simpa using (Array.mem_filter.1 hx).1)
          simpa using this
        have hnew : (en.filter fun e => !se.contains e.born).filter (fun e => decide (e.born ≥ s)) = #[] := by
          rw [Array.filter_eq_empty_iff]
          intro e hx
          have := q6 e (by simpa using (Array.mem_filter.1 hx).1)
          simp; omega
        generalize hL : (en.filter fun e => !se.contains e.born) = L at hold hnew
        have hLl : L.toList = en.toList.filter fun e => !se.contains e.born := by rw [← hL, Array.toList_filter]
        have hlen : L.size = left.length := by
          have := ents_len q8
          rw [← hLl] at this
          simpa using this
        rcases Nat.eq_zero_or_pos left.length with h0 | h0
        · have e1 : left = [] := List.eq_nil_of_length_eq_zero h0
          have e2 : L = #[] := Array.eq_empty_of_size_eq_zero (by omega)
          refine over e1 ?_
          unfold Instr.next
          simp only [Sem.run_bind, hg, hgm, Result.andThen_ok, hchk, hL, hold, hnew, e2, Bool.false_eq_true, if_false, Sem.run_pure]
          simp [Question.forced]
        · have hne : L.isEmpty = false := by
            rw [Bool.eq_false_iff]
            intro h
            have : L = #[] := by simpa using h
            rw [this] at hlen; simp at hlen; omega
          have go : ∀ (w1 : World) (i : Nat), i < left.length → (w1 = G.w ∨ w1 = { G.w with drawn := G.w.drawn + 1 }) → (choose (.mapNext L.size)).run P G.w = .ok i w1 → ∃ v w', (Instr.next (.pointer (some ⟨b, 0, none⟩)) false t).run P G.w = .ok v w' ∧ Left G K v w' := fun w1 i hi hw1 hch => by
            obtain ⟨e, a1, a2, a3⟩ := ents_at i hi q8
            rw [← hLl] at a1
            have a1' : L[i]? = some e := by simpa using a1
            have hh1 : w1.heap = G.w.heap := by rcases hw1 with rfl | rfl <;> rfl
            have hd1 : G.w.drawn ≤ w1.drawn := by rcases hw1 with rfl | rfl <;> simp
            have hset : (setObj b (.mapIter (some bm) s (se.push e.born) cl)).run P w1 = .ok () { w1 with heap := w1.heap.setIfInBounds b (.mapIter (some bm) s (se.push e.born) cl) } := by
              simp [setObj, Sem.run, hh1, q1]
            refine ⟨.tuple #[.bool true, e.key, e.val], { w1 with heap := w1.heap.setIfInBounds b (.mapIter (some bm) s (se.push e.born) cl) }, ?_, ?_⟩
            · have hcand : ((#[] : Array (Option MapEntry)) ++ (L ++ #[]).map some)[i]? = some (some e) := by simp [a1']
              unfold Instr.next
              simp only [Sem.run_bind, hg, hgm, Result.andThen_ok, hchk, hL, hold, hnew, hne, Bool.false_eq_true, if_false, Sem.run_pure, Array.append_empty, Array.empty_append, Array.size_map, hch]
              simp [a1', hset]
            · have hoth : ∀ b', b' ≠ b → ({ w1 with heap := w1.heap.setIfInBounds b (.mapIter (some bm) s (se.push e.born) cl) } : World).heap[b']? = G.w.heap[b']? := fun b' hb' => by
                show (w1.heap.setIfInBounds b _)[b']? = _
                rw [hh1]
                simp [Array.getElem?_setIfInBounds, Ne.symm hb']
              have hst : Step G (G.put { w1 with heap := w1.heap.setIfInBounds b (.mapIter (some bm) s (se.push e.born) cl) } l (.iter (.map (some left[i]) (left.eraseIdx i)))) :=
                put_step hR hlive (by rcases hw1 with rfl | rfl <;> rfl) (by rcases hw1 with rfl | rfl <;> rfl) hd1 (by rcases hw1 with rfl | rfl <;> rfl) (by show (w1.heap.setIfInBounds b _).size = _; rw [hh1]; simp) hoth ⟨_, hm⟩ (fun en0 cl0 h => by rw [q1] at h; cases h)
              have hlt : b < G.w.heap.size := (Array.getElem?_eq_some_iff.1 q1).1
              have hbm : bm ≠ b := fun e => q2.2 (e ▸ ⟨l, hlive⟩)
              refine ⟨_, .tup [.sc (.bool true), avOf left[i].1, left[i].2], rfl, put_rel hR hlive hst hoth ⟨b, hb, .inr ⟨bm, s, se.push e.born, cl, en, cl, ?_, hst.old q2, (hoth bm hbm).trans q3, q5, q5, q6, q7, ?_, ?_⟩⟩, hst, ?_, h2 i hi⟩
              · show (w1.heap.setIfInBounds b _)[b]? = _
                rw [hh1]; simp [hlt]
              · have hnd : (L.toList.map (·.born)).Nodup := by rw [hLl]; exact (List.filter_sublist.map _).nodup q7
                have e4 : (en.toList.filter fun x => !(se.push e.born).contains x.born) = L.toList.eraseIdx i := by
                  rw [← filter_erase L.toList i e hnd a1, hLl, List.filter_filter]
                  refine List.filter_congr fun x _ => ?_
                  by_cases hx : x.born = e.born <;> simp [hx]
                rw [e4]
                rw [← hLl] at q8
                exact (ents_erase i q8).step hst
              · intro c hc
                cases hc
                have hmem : e ∈ en.toList := by
                  have := List.mem_of_getElem? a1
                  rw [hLl] at this
                  exact (List.mem_filter.1 this).1
                refine ⟨rfl, e.born, e, by simp, ?_, a2, a3.step hst⟩
                exact find_born q7 hmem
              · simp only [Rv]
                refine ⟨[.bool true, e.key, e.val], rfl, ?_⟩
                simp only [Rvs]
                refine ⟨_, _, rfl, by simp only [Rv], _, _, rfl, ?_, _, _, rfl, a3.step hst, rfl⟩
                rw [← a2]; exact avOf_ok _
          by_cases hf : L.size ≤ 1
          · refine go G.w 0 h0 (.inl rfl) ?_
            simp [run_choose, Question.forced, hf]
          · refine go { G.w with drawn := G.w.drawn + 1 } ((Question.mapNext L.size).cut (G.w.tape G.w.drawn (.mapNext L.size))) ?_ (.inr rfl) ?_
            · show G.w.tape G.w.drawn (.mapNext L.size) % L.size < left.length
              rw [← hlen]; exact Nat.mod_lt _ (by omega)
            · have : (Question.mapNext L.size).forced = false := by simp [Question.forced]; omega
              rw [run_choose, this]; rfl
    · cases he
  · cases he

theorem ok_entry (hR : Rel G) {x : AV} {u : Value} (h : orK (curOf G.S x) fun c => K (.tup [avOf c.1, c.2]) G.S) (hx : Rv G x u) : ∃ v, (Instr.entry u).run P G.w = .ok v G.w ∧ ∃ r, Rv G r v ∧ K r G.S := by
  obtain ⟨c, he, hK⟩ := orK_elim h
  unfold curOf at he
  split at he
  · rename_i l
    split at he
    · rename_i cur left hm
      subst he
      simp only [Rv] at hx
      obtain ⟨b, hb, rfl⟩ := hx.2.2 _ hm
      obtain ⟨b', g1, g2⟩ := hR.ok _ _ hm
      rw [hb] at g1; cases g1
      rcases g2 with ⟨s, se, la, q1, q2, q3⟩ | ⟨bm, s, se, la, en, cl, q1, q2, q3, q4, q5, q6, q7, q8, q9⟩
      · cases q3
      · obtain ⟨r1, st, e, r2, r3, r4, r5⟩ := q9 c rfl
        have hg : (getObj b).run P G.w = .ok (.mapIter (some bm) s se la) G.w := by simp [getObj, Sem.run, q1]
        have hgm := get_map (P := P) q3
        refine ⟨.tuple #[e.key, e.val], ?_, .tup [avOf c.1, c.2], ?_, hK⟩
        · unfold Instr.entry
          simp only [Sem.run_bind, hg, Result.andThen_ok, r2, hgm, r1, bne_self_eq_false, Bool.false_eq_true, if_false, Sem.run_pure, r3]
        · simp only [Rv]
          refine ⟨[e.key, e.val], rfl, ?_⟩
          simp only [Rvs]
          exact ⟨_, _, rfl, by rw [← r4]; exact avOf_ok _, _, _, rfl, r5, rfl⟩
    · cases he
  · cases he
theorem first_not {G : Ctx} {v : Value} : ∀ {es : List (Value × AV)} {us : List MapEntry}, Ents G es us → ∀ (j : Nat) (x : AV), findE es v = some x → (∀ y, updE es v y = es.set j (v, y)) → j < es.length → ∀ i e, i < j → us[i]? = some e → keyEq v e.key = false
  | [], us, h, j, x, hf, _, _, i, e, _, _ => by simp [findE] at hf
  | (k, x0) :: es, us, h, j, x, hf, hu, hj, i, e, hij, he => by
    simp only [Ents] at h
    obtain ⟨u, us', rfl, h1, h2, h3⟩ := h
    obtain ⟨j, rfl⟩ : ∃ m, j = m + 1 := ⟨j - 1, by omega⟩
    by_cases hk : keyEq v k = true
    · exfalso
      have := hu .junk
      simp only [updE, hk, if_true, List.set_cons_succ, List.cons.injEq] at this
      -- the first entry would stay as it was: ask with two values
      have h4 := hu (.tup [])
      simp only [updE, hk, if_true, List.set_cons_succ, List.cons.injEq] at h4
      have e1 := this.1.trans h4.1.symm
      simp at e1
    · have hk' : keyEq v k = false := by simpa using hk
      cases i with
      | zero => simp at he; subst he; rw [h1]; exact hk'
      | succ i =>
        refine first_not h3 j x (by simpa [findE, hk'] using hf) (fun y => ?_) (by simpa using hj) i e (by omega) (by simpa using he)
        have := hu y
        simpa [updE, hk'] using this
theorem none_not {G : Ctx} {v : Value} : ∀ {es : List (Value × AV)} {us : List MapEntry}, Ents G es us → findE es v = none → ∀ (i : Nat) (e : MapEntry), us[i]? = some e → keyEq v e.key = false
  | [], us, h, _, i, e, he => by simp only [Ents] at h; subst h; simp at he
  | (k, x0) :: es, us, h, hf, i, e, he => by
    simp only [Ents] at h
    obtain ⟨u, us', rfl, h1, h2, h3⟩ := h
    by_cases hk : keyEq v k = true
    · simp [findE, hk] at hf
    · have hk' : keyEq v k = false := by simpa using hk
      cases i with
      | zero => simp at he; subst he; rw [h1]; exact hk'
      | succ i => exact none_not h3 (by simpa [findE, hk'] using hf) i e (by simpa using he)
theorem findE_at {G : Ctx} {v : Value} {x : AV} : ∀ {es : List (Value × AV)} {us : List MapEntry} {j : Nat}, Ents G es us → findE es v = some x → (∀ y, updE es v y = es.set j (v, y)) → (hj : j < es.length) → (es[j]).2 = x
  | [], us, j, h, hf, _, hj => by simp at hj
  | (k, x0) :: es, us, j, h, hf, hu, hj => by
    simp only [Ents] at h
    obtain ⟨u, us', rfl, h1, h2, h3⟩ := h
    by_cases hk : keyEq v k = true
    · cases j with
      | zero => simpa [findE, hk] using hf
      | succ j =>
        exfalso
        have a := hu .junk
        have b := hu (.tup [])
        simp only [updE, hk, if_true, List.set_cons_succ, List.cons.injEq] at a b
        have e1 := a.1.trans b.1.symm
        simp at e1
    · have hk' : keyEq v k = false := by simpa using hk
      cases j with
      | zero =>
        exfalso
        have a := hu .junk
        have b := hu (.tup [])
        simp only [updE, hk', Bool.false_eq_true, if_false, List.set_cons_zero, List.cons.injEq] at a b
        have e1 := a.1.symm.trans b.1
        simp at e1
      | succ j =>
        refine findE_at h3 (by simpa [findE, hk'] using hf) (fun y => ?_) (by simpa using hj)
        have := hu y
        simpa [updE, hk'] using this
theorem upd_at {G : Ctx} {k : Value} (hkk : keyEq k k = true) {z : AV} : ∀ {es : List (Value × AV)} {us : List MapEntry}, Ents G es us → ∀ (i : Nat) (e : MapEntry), us[i]? = some e → e.key = k → (∀ (j : Nat) (e' : MapEntry), j < i → us[j]? = some e' → keyEq k e'.key = false) → updE es k z = es.set i (k, z)
  | [], us, h, i, e, he, _, _ => by simp only [Ents] at h; subst h; simp at he
  | (k0, x0) :: es, us, h, i, e, he, hk, hf => by
    simp only [Ents] at h
    obtain ⟨u, us', rfl, h1, h2, h3⟩ := h
    cases i with
    | zero =>
      simp at he; subst he
      rw [← h1, hk] at *
      simp [updE, hkk]
    | succ i =>
      have h0 := hf 0 u (by omega) (by simp)
      rw [h1] at h0
      simp only [updE, h0, Bool.false_eq_true, if_false, List.set_cons_succ]
      rw [upd_at hkk h3 i e (by simpa using he) hk (fun j e' hj hx => hf (j + 1) e' (by omega) (by simpa using hx))]
theorem ok_mentry (hR : Rel G) {t kt e : TypeId} {kd : KeyKd} {ti : TypeInfo} {z : Value} {x y : AV} {u v : Value} (ht : P.underlying t = some (.map kt e)) (hk : keyKdM P kt = some kd) (hi : P.info? e = some ti) (hz : ti.zero = some z)
    (h : match x, keyV y with
      | .mp l, some v => orK (G.S.map? l) fun es => keysOk kd es = true ∧ kd.is v = true ∧ K (.tup [(findE es v).getD (avOf z), .stamp l v]) (G.S.set l (.map (updE es v ((findE es v).getD (avOf z)))))
      | _, _ => False) (hx : Rv G x u) (hy : Rv G y v) : ∃ r w', (Instr.mapEntry t u v).run P G.w = .ok r w' ∧ Left G K r w' := by
  split at h
  · rename_i l kv hkv
    have hvk := keyV_rv hkv hy
    subst hvk
    obtain ⟨es, hm, h1, h2, h3⟩ := orK_elim h
    have hzr : (zeroValue e).run P G.w = .ok z G.w := by simp [zeroValue, typeInfo, hi, hz]
    unfold St.map? at hm
    split at hm
    · rename_i es' ho
      cases hm
      simp only [Rv] at hx
      obtain ⟨b, hb, rfl⟩ := hx.2.2 _ ho
      obtain ⟨b', en, cl, g1, g2, g3, g4⟩ := hR.ok _ _ ho
      rw [hb] at g1; cases g1
      have hlive : G.live l b := ⟨⟨_, ho⟩, hb⟩
      have hlt : b < G.w.heap.size := (Array.getElem?_eq_some_iff.1 g2).1
      have fin : ∀ (en' : Array MapEntry) (cl' : Nat) (es' : List (Value × AV)) (i : Nat) (ee : MapEntry) (vv : Value) (xx : AV), Ents G es' en'.toList → Borns en' cl' → Grown en en' → en'[i]? = some ee → ee.key = v → (∀ (j : Nat) (e' : MapEntry), j < i → en'[j]? = some e' → keyEq v e'.key = false) → Rv G xx vv →
          K (.tup [xx, .stamp l v]) (G.S.set l (.map es')) → Left G K (.tuple #[vv, .int .i64 (ee.born : Nat)]) { G.w with heap := G.w.heap.setIfInBounds b (.map en' cl') } := fun en' cl' es' i ee vv xx hen hbo hgr hie hke hfst hxx hK => by
        have hoth : ∀ b', b' ≠ b → ({ G.w with heap := G.w.heap.setIfInBounds b (.map en' cl') } : World).heap[b']? = G.w.heap[b']? := fun b' hb' => by
          simp [Array.getElem?_setIfInBounds, Ne.symm hb']
        have hnew : ({ G.w with heap := G.w.heap.setIfInBounds b (.map en' cl') } : World).heap[b]? = some (.map en' cl') := by
          show (G.w.heap.setIfInBounds b _)[b]? = _
          simp [hlt]
        have hst : Step G (G.put { G.w with heap := G.w.heap.setIfInBounds b (.map en' cl') } l (.map es')) := put_step hR hlive rfl rfl (Nat.le_refl _) rfl (by simp) hoth ⟨es, ho⟩ (fun en0 cl0 h => by
          rw [g2] at h; cases h
          exact ⟨en', cl', hnew, hgr⟩)
        refine ⟨_, .tup [xx, .stamp l v], rfl, put_rel hR hlive hst hoth ⟨b, en', cl', hb, hnew, hen.step hst, hbo⟩, hst, ?_, hK⟩
        simp only [Rv]
        refine ⟨[vv, .int .i64 (ee.born : Nat)], rfl, ?_⟩
        simp only [Rvs, Rv]
        refine ⟨_, _, rfl, hxx.step hst, _, _, rfl, ⟨live_lt hR ho, ee.born, rfl, fun es2 hm2 => ⟨b, en', cl', i, ee, hb, hnew, hie, rfl, hke, hfst⟩⟩, rfl⟩
      rcases find_any hk h2 G.w g3 h1 with ⟨a1, hf, a3⟩ | ⟨j, x', u', a1, a2, a3, hf, hsb, hkv2, a7⟩
      · refine ⟨.tuple #[z, .int .i64 (cl : Nat)], { G.w with heap := G.w.heap.setIfInBounds b (.map (en.push { key := v, val := z, born := cl }) (cl + 1)) }, ?_, ?_⟩
        · simp [Instr.mapEntry, run_underlying ht, get_map g2, check_any hk h2, hf, hzr, set_map _ g2, goInt]
        · refine fin (en.push { key := v, val := z, born := cl }) (cl + 1) (updE es v (avOf z)) en.size { key := v, val := z, born := cl } z (avOf z) (by rw [a3]; simpa using ents_snoc g3 (avOf_ok z)) (borns_push g4 v z) (grown_push en _) (by simp) rfl (fun j e' hj he => ?_) (avOf_ok z) ?_
          · rw [Array.getElem?_push, if_neg (by omega)] at he
            exact none_not g3 a1 j e' (by simpa using he)
          · rw [a1] at h3; exact h3
      · have hju : en[j]? = some u' := by simpa using a2
        have hjl : j < es.length := by
          have := (Array.getElem?_eq_some_iff.1 hju).1
          have := ents_len g3
          simp at this; omega
        refine ⟨.tuple #[u'.val, .int .i64 (u'.born : Nat)], { G.w with heap := G.w.heap.setIfInBounds b (.map (en.modify j fun e => { e with key := v }) cl) }, ?_, ?_⟩
        · simp [Instr.mapEntry, run_underlying ht, get_map g2, check_any hk h2, hf, Instr.keyThatStays, hju, hsb, set_map _ g2, goInt]
        · have hmod : (en.modify j fun e => { e with key := v }) = en := by
            apply Array.ext_getElem?
            intro i
            rw [Array.getElem?_modify]
            by_cases hij : j = i
            · subst hij; rw [if_pos rfl, hju, Option.map_some, ← hkv2]
            · rw [if_neg hij]
          rw [hmod]
          have hup : updE es v x' = es := by
            rw [a7]
            obtain ⟨u2, p1, p2, p3⟩ := ents_at j hjl g3
            have : u2 = u' := by rw [a2] at p1; cases p1; rfl
            subst this
            have e3 : es[j] = (v, x') := by
              have hfx := findE_at g3 a1 a7 hjl
              rw [hkv2] at p2
              exact Prod.ext p2.symm hfx
            rw [← e3]; simp
          refine fin en cl (updE es v x') j u' u'.val x' (by rw [hup]; exact g3) g4 (Grown.refl en) hju hkv2 (fun i e' hi he => first_not g3 j x' a1 a7 hjl i e' hi (by simpa using he)) a3 ?_
          rw [a1] at h3; exact h3
    · cases hm
  · exact h.elim
theorem ok_mstore (hR : Rel G) {t : TypeId} {x y z : AV} {u v a : Value}
    (h : match x, y with
      | .mp l, .stamp l' v => l = l' ∧ keyEq v v = true ∧ orK (G.S.map? l) fun es => K (.sc undef) (G.S.set l (.map (updE es v z)))
      | _, _ => False) (hx : Rv G x u) (hy : Rv G y v) (hz : Rv G z a) : ∃ w', (Instr.entryStore t u v a).run P G.w = .ok () w' ∧ Left G K undef w' := by
  split at h
  · rename_i l l' k
    obtain ⟨rfl, hkk, h⟩ := h
    obtain ⟨es, hm, h3⟩ := orK_elim h
    unfold St.map? at hm
    split at hm
    · rename_i es' ho
      cases hm
      simp only [Rv] at hx hy
      obtain ⟨b, hb, rfl⟩ := hx.2.2 _ ho
      obtain ⟨b', en, cl, g1, g2, g3, g4⟩ := hR.ok _ _ ho
      rw [hb] at g1; cases g1
      obtain ⟨_, n, rfl, hst⟩ := hy
      obtain ⟨b2, en2, cl2, i, e, q1, q2, q3, q4, q5, q6⟩ := hst es ho
      rw [hb] at q1; cases q1
      rw [g2] at q2; cases q2
      have hlive : G.live l b := ⟨⟨_, ho⟩, hb⟩
      have hlt : b < G.w.heap.size := (Array.getElem?_eq_some_iff.1 g2).1
      have hil : i < en.size := (Array.getElem?_eq_some_iff.1 q3).1
      have hidx : en.findIdx? (fun x => ((x.born : Nat) : Int) == ((n : Nat) : Int)) = some i := by
        rw [Array.findIdx?_eq_some_iff_getElem]
        refine ⟨hil, ?_, fun j hj => ?_⟩
        · have : en[i] = e := by rw [Array.getElem?_eq_getElem hil] at q3; exact Option.some.inj q3
          rw [this, q4]; simp
        · have : en[i] = e := by rw [Array.getElem?_eq_getElem hil] at q3; exact Option.some.inj q3
          have hne : en[j].born ≠ n := fun hq => by
            have h5 := List.pairwise_iff_getElem.1 g4.2 j i (by simp; omega) (by simpa using hil) hj
            refine h5 ?_
            simp only [List.getElem_map, Array.getElem_toList]
            rw [this, hq, q4]
          simp
          omega
      have hup : updE es k z = es.set i (k, z) := upd_at hkk g3 i e (by simpa using q3) q5 (fun j e' hj he => q6 j e' hj (by simpa using he))
      refine ⟨{ G.w with heap := G.w.heap.setIfInBounds b (.map (en.modify i fun e => { e with val := a }) cl) }, ?_, ?_⟩
      · simp [Instr.entryStore, get_map g2, asInt, asIntOf, hidx, set_map _ g2]
      · have hmod : (en.modify i fun e => { e with val := a }) = en.modify i fun e => { e with key := k, val := a } := by
          apply Array.ext_getElem?
          intro j
          rw [Array.getElem?_modify, Array.getElem?_modify]
          by_cases hij : i = j
          · subst hij; rw [if_pos rfl, if_pos rfl, q3, Option.map_some, Option.map_some, ← q5]
          · rw [if_neg hij, if_neg hij]
        rw [hmod]
        have hoth : ∀ b', b' ≠ b → ({ G.w with heap := G.w.heap.setIfInBounds b (.map (en.modify i fun e => { e with key := k, val := a }) cl) } : World).heap[b']? = G.w.heap[b']? := fun b' hb' => by
          simp [Array.getElem?_setIfInBounds, Ne.symm hb']
        have hnew : ({ G.w with heap := G.w.heap.setIfInBounds b (.map (en.modify i fun e => { e with key := k, val := a }) cl) } : World).heap[b]? = some (.map (en.modify i fun e => { e with key := k, val := a }) cl) := by
          show (G.w.heap.setIfInBounds b _)[b]? = _
          simp [hlt]
        have hst2 : Step G (G.put { G.w with heap := G.w.heap.setIfInBounds b (.map (en.modify i fun e => { e with key := k, val := a }) cl) } l (.map (updE es k z))) := put_step hR hlive rfl rfl (Nat.le_refl _) rfl (by simp) hoth ⟨es, ho⟩ (fun en0 cl0 h => by
          rw [g2] at h; cases h
          exact ⟨_, cl, hnew, grown_set en i k a fun u hu => by rw [q3] at hu; cases hu; exact q5⟩)
        refine ⟨_, .sc undef, rfl, put_rel hR hlive hst2 hoth ⟨b, _, cl, hb, hnew, ?_, borns_set g4 i k a⟩, hst2, by simp only [Rv], h3⟩
        have h6 : Ents G (es.set i (k, z)) (en.modify i fun e => { e with key := k, val := a }).toList := by simpa using ents_set hz i g3
        rw [hup]
        rw [hup] at hst2
        exact h6.step hst2
    · cases hm
  · exact h.elim

theorem places_ok {t : TypeId} {ps : List (Nat × Operand)} {qs : List (Nat × Nat × SA)} {ρ : Operand → Value} {fr : Fr} (hq : places P t ps = some qs)
    (hop : ∀ p s, p ∈ ps → sa p.2 = some s → Rv G (evS fr s) (ρ p.2)) :
    (ps.map fun p => (p.1, ρ p.2)).length = (qs.map fun p => (p.1, p.2.1, evS fr p.2.2)).length ∧
    match P.underlying t with
    | some (.struct fs) => fs.toList.all (fun f => has P f.type) = true ∧ ∀ (j : Nat) (p : Nat × Value) (q : Nat × Nat × AV), (ps.map fun p => (p.1, ρ p.2))[j]? = some p → (qs.map fun p => (p.1, p.2.1, evS fr p.2.2))[j]? = some q → (∃ f, fs[p.1]? = some f ∧ q.1 = f.offset ∧ q.2.1 = P.cellsOf f.type) ∧ Rv G q.2.2 p.2
    | some (.array _ e) | some (.slice e) => has P e = true ∧ ∀ (j : Nat) (p : Nat × Value) (q : Nat × Nat × AV), (ps.map fun p => (p.1, ρ p.2))[j]? = some p → (qs.map fun p => (p.1, p.2.1, evS fr p.2.2))[j]? = some q → (q.1 = p.1 * P.cellsOf e ∧ q.2.1 = P.cellsOf e) ∧ Rv G q.2.2 p.2
    | _ => False := by
  have gen : ∀ (e : TypeId) (ps : List (Nat × Operand)) (qs : List (Nat × Nat × SA)), (ps.mapM fun (p : Nat × Operand) => (do pure (p.1 * P.cellsOf e, P.cellsOf e, ← sa p.2) : Option (Nat × Nat × SA))) = some qs → (∀ p s, p ∈ ps → sa p.2 = some s → Rv G (evS fr s) (ρ p.2)) →
      ps.length = qs.length ∧ ∀ (j : Nat) (p : Nat × Value) (q : Nat × Nat × AV), (ps.map fun p => (p.1, ρ p.2))[j]? = some p → (qs.map fun p => (p.1, p.2.1, evS fr p.2.2))[j]? = some q → (q.1 = p.1 * P.cellsOf e ∧ q.2.1 = P.cellsOf e) ∧ Rv G q.2.2 p.2 := by
    intro e ps
    induction ps with
    | nil => intro qs h _; simp at h; subst h; exact ⟨rfl, fun j p q h => by simp at h⟩
    | cons p ps ih =>
      intro qs h hop
      simp only [List.mapM_cons, Option.bind_eq_bind, Option.bind_eq_some_iff, Option.pure_def, Option.some.injEq] at h
      obtain ⟨q, ⟨s, hs, rfl⟩, qs', hq, rfl⟩ := h
      obtain ⟨i1, i2⟩ := ih qs' hq fun p' s' hp' => hop p' s' (by simp [hp'])
      refine ⟨by simp [i1], fun j p' q' h1 h2 => ?_⟩
      cases j with
      | zero => simp at h1 h2; subst h1; subst h2; exact ⟨⟨rfl, rfl⟩, hop p s (by simp) hs⟩
      | succ j => exact i2 j p' q' (by simpa using h1) (by simpa using h2)
  have genS : ∀ (fs : Array Field) (ps : List (Nat × Operand)) (qs : List (Nat × Nat × SA)), (ps.mapM fun (p : Nat × Operand) => (do
        let f ← fs[p.1]?
        pure (f.offset, P.cellsOf f.type, ← sa p.2) : Option (Nat × Nat × SA))) = some qs → (∀ p s, p ∈ ps → sa p.2 = some s → Rv G (evS fr s) (ρ p.2)) →
      ps.length = qs.length ∧ ∀ (j : Nat) (p : Nat × Value) (q : Nat × Nat × AV), (ps.map fun p => (p.1, ρ p.2))[j]? = some p → (qs.map fun p => (p.1, p.2.1, evS fr p.2.2))[j]? = some q → (∃ f, fs[p.1]? = some f ∧ q.1 = f.offset ∧ q.2.1 = P.cellsOf f.type) ∧ Rv G q.2.2 p.2 := by
    intro fs ps
    induction ps with
    | nil => intro qs h _; simp at h; subst h; exact ⟨rfl, fun j p q h => by simp at h⟩
    | cons p ps ih =>
      intro qs h hop
      simp only [List.mapM_cons, Option.bind_eq_bind, Option.bind_eq_some_iff, Option.pure_def, Option.some.injEq] at h
      obtain ⟨q, ⟨f, hf, s, hs, rfl⟩, qs', hq, rfl⟩ := h
      obtain ⟨i1, i2⟩ := ih qs' hq fun p' s' hp' => hop p' s' (by simp [hp'])
      refine ⟨by simp [i1], fun j p' q' h1 h2 => ?_⟩
      cases j with
      | zero => simp at h1 h2; subst h1; subst h2; exact ⟨⟨f, hf, rfl, rfl⟩, hop p s (by simp) hs⟩
      | succ j => exact i2 j p' q' (by simpa using h1) (by simpa using h2)
  unfold places at hq
  split at hq
  · rename_i fs hu
    rw [hu]
    split at hq
    · rename_i hall
      obtain ⟨h1, h3⟩ := genS fs ps qs hq hop
      exact ⟨by simpa using h1, hall, h3⟩
    · cases hq
  · rename_i n e hu
    rw [hu]
    split at hq
    · rename_i hh
      obtain ⟨h1, h2⟩ := gen e ps qs hq hop
      exact ⟨by simpa using h1, hh, h2⟩
    · cases hq
  · rename_i e hu
    rw [hu]
    split at hq
    · rename_i hh
      obtain ⟨h1, h2⟩ := gen e ps qs hq hop
      exact ⟨by simpa using h1, hh, h2⟩
    · cases hq
  · cases hq

theorem enter_ok {f : FuncId} {fn : Func} (hf : P.funcs[f]? = some fn) (h1 : (fn.name == "runtime.NumGoroutine") = false) (h2 : fn.body.isNone = false) (args : Array Value) (w : World) : (callFunc f args).run P w = .ok (.enter f args) w := by
  simp only [callFunc, Sem.run_bind, run_program, Result.andThen_ok, hf, h1, h2, Bool.false_eq_true, if_false]
  rfl

theorem sop0_ok (hR : Rel G) {op : Op} {s : SOp} {o : Oper} (ho : o.op = op) {ρ : Operand → Value} {fr : Fr} (hs : sop0 P op = some s) (hop : ∀ x q, x ∈ op.operands → sa x = some q → Rv G (evS fr q) (ρ x)) (h : swp P s fr G.S K) : OpRun P (execOp ρ o) G K := by
  unfold execOp
  rw [ho]
  cases op with
  | move x =>
    simp only [sop0, Option.bind_eq_bind, Option.bind_eq_some_iff, Option.pure_def, Option.some.injEq] at hs
    obtain ⟨a, ha, rfl⟩ := hs
    exact opRun_same hR rfl (hop x a (by simp [Op.operands]) ha) h
  | assign x =>
    simp only [sop0, Option.bind_eq_bind, Option.bind_eq_some_iff, Option.pure_def, Option.some.injEq] at hs
    obtain ⟨a, ha, rfl⟩ := hs
    exact opRun_same hR rfl (hop x a (by simp [Op.operands]) ha) h
  | pick c a b =>
    simp only [sop0, Option.bind_eq_bind, Option.bind_eq_some_iff, Option.pure_def, Option.some.injEq] at hs
    obtain ⟨c', hc, a', ha, b', hb, rfl⟩ := hs
    have h1 := hop c c' (by simp [Op.operands]) hc
    simp only [swp] at h
    split at h
    · rename_i t ht
      rw [ht] at h1
      have h2 : ρ c = .bool t := scR h1
      cases t with
      | true => exact opRun_same hR (by simp [h2, asBool]) (hop a a' (by simp [Op.operands]) ha) (h.1 rfl)
      | false => exact opRun_same hR (by simp [h2, asBool]) (hop b b' (by simp [Op.operands]) hb) (h.2 rfl)
    · exact h.elim
  | load t a =>
    simp only [sop0, Option.bind_eq_bind, Option.bind_eq_some_iff, Option.pure_def, Option.some.injEq] at hs
    obtain ⟨g, hg, hs⟩ := hs
    split at hs
    · rename_i hh
      obtain ⟨a', ha, hs⟩ := Option.bind_eq_some_iff.1 hs
      cases hs
      exact value_same hR (ok_load hR hg hh (hop a a' (by simp [Op.operands]) ha) h)
    · cases hs
  | store t a x =>
    simp only [sop0] at hs
    split at hs
    · rename_i hh
      simp only [Option.bind_eq_bind, Option.bind_eq_some_iff, Option.pure_def, Option.some.injEq] at hs
      obtain ⟨a', ha, x', hx, rfl⟩ := hs
      obtain ⟨w', hr, hl⟩ := ok_store hR hh (hop a a' (by simp [Op.operands]) ha) (hop x x' (by simp [Op.operands]) hx) h
      exact .inl ⟨undef, w', .inr ⟨by simp [hr], rfl⟩, hl⟩
    · cases hs
  | alloc e =>
    simp only [sop0] at hs
    split at hs
    · rename_i hz
      cases hs
      exact value_run (ok_alloc hR (zerosAt_eq hz) h.1 h.2)
    · cases hs
  | box e x =>
    simp only [sop0, Option.bind_eq_bind, Option.bind_eq_some_iff, Option.pure_def, Option.some.injEq] at hs
    obtain ⟨x', hx, rfl⟩ := hs
    exact value_run (ok_box hR (hop x x' (by simp [Op.operands]) hx) h)
  | build t ps =>
    simp only [sop0, Option.bind_eq_bind, Option.bind_eq_some_iff] at hs
    obtain ⟨d, hd, hs⟩ := hs
    have key : ∃ zs qs, zeroCellsOf P t = some zs ∧ places P t ps.toList = some qs ∧ s = .build zs qs ∧ ((∃ fs, d = .struct fs) ∨ ∃ n e, d = .array n e) := by
      split at hs
      · simp only [Option.bind_eq_some_iff, Option.pure_def, Option.some.injEq] at hs
        obtain ⟨zs, hz, qs, hq, rfl⟩ := hs
        exact ⟨zs, qs, hz, hq, rfl, .inl ⟨_, rfl⟩⟩
      · simp only [Option.bind_eq_some_iff, Option.pure_def, Option.some.injEq] at hs
        obtain ⟨zs, hz, qs, hq, rfl⟩ := hs
        exact ⟨zs, qs, hz, hq, rfl, .inr ⟨_, _, rfl⟩⟩
      · cases hs
    obtain ⟨zs, qs, hz, hq, rfl, hd2⟩ := key
    obtain ⟨cs, hf, hK⟩ := orK_elim h
    obtain ⟨z, hz1, hz2⟩ := zeros_ok hz G.w
    obtain ⟨p1, p2⟩ := places_ok (ρ := ρ) (fr := fr) hq (fun p q hp hs => hop p.2 q (by simp only [Op.operands, Array.mem_def, List.mem_map]; exact ⟨p, hp, rfl⟩) hs)
    have pl : ∀ fs : List Field, fs.all (fun f => has P f.type) = true → fs.mapM (fun f => (P.info? f.type).map fun i => (f.offset, i.size)) = some (fs.map fun f => (f.offset, P.cellsOf f.type)) := by
      intro fs
      induction fs with
      | nil => intro _; rfl
      | cons f fs ih =>
        intro ha
        simp only [List.all_cons, Bool.and_eq_true] at ha
        obtain ⟨i, hi⟩ := Option.isSome_iff_exists.1 ha.1
        simp [List.mapM_cons, hi, ih ha.2, Program.cellsOf]
    have hz' := hz
    unfold zeroCellsOf at hz'
    obtain ⟨it, hit, hz'⟩ := Option.bind_eq_some_iff.1 hz'
    obtain ⟨z2, hz2', hz'⟩ := Option.bind_eq_some_iff.1 hz'
    have hzc : z2.cells = zs.toArray := by simp at hz'; rw [← hz']
    refine value_same hR ?_
    rw [hd] at p2
    rcases hd2 with ⟨fs, rfl⟩ | ⟨n, e, rfl⟩
    · obtain ⟨hall, p3⟩ := p2
      obtain ⟨vs', f1, f2⟩ := fill_ok (place := fun i => (fs.toList.map fun f => (f.offset, P.cellsOf f.type)).toArray[i]?) _ _ _ _ zs p1 (fun j p q a b => by
        obtain ⟨⟨f, x0, x1, x2⟩, x3⟩ := p3 j p q a b
        refine ⟨?_, x3⟩
        simp [x0, x1, x2]) (rvs_sc zs) hf
      refine ⟨.agg vs'.toArray, run_build G.w t _ _ ?_, _, by simp only [Rv]; exact ⟨_, rfl, f2⟩, hK⟩
      simp only [Program.built, hit, hd, hz2', pl fs.toList hall, hzc, Array.toList_map]
      exact f1
    · obtain ⟨hh, p3⟩ := p2
      obtain ⟨vs', f1, f2⟩ := fill_ok (place := fun i => some (i * P.cellsOf e, P.cellsOf e)) _ _ _ _ zs p1 (fun j p q a b => by obtain ⟨⟨x1, x2⟩, x3⟩ := p3 j p q a b; exact ⟨by rw [x1, x2], x3⟩) (rvs_sc zs) hf
      refine ⟨.agg vs'.toArray, run_build G.w t _ _ ?_, _, by simp only [Rv]; exact ⟨_, rfl, f2⟩, hK⟩
      obtain ⟨ie, hie⟩ := Option.isSome_iff_exists.1 hh
      have hs' : P.cellsOf e = ie.size := by simp [Program.cellsOf, hie]
      simp only [Program.built, hit, hd, hz2', hie, hzc, Array.toList_map]
      rw [hs'] at f1
      exact f1
  | buildSlice t len ps =>
    simp only [sop0] at hs
    split at hs
    · rename_i e hu
      split at hs
      · rename_i hc
        simp only [Bool.and_eq_true, decide_eq_true_eq] at hc
        simp only [Option.bind_eq_bind, Option.bind_eq_some_iff, Option.pure_def, Option.some.injEq] at hs
        obtain ⟨zs, hz, qs, hq, rfl⟩ := hs
        obtain ⟨cs, hf, hK⟩ := orK_elim h
        obtain ⟨p1, p2⟩ := places_ok (ρ := ρ) (fr := fr) hq (fun p q hp hs => hop p.2 q (by simp only [Op.operands, Array.mem_def, List.mem_map]; exact ⟨p, hp, rfl⟩) hs)
        rw [hu] at p2
        obtain ⟨hh, p3⟩ := p2
        obtain ⟨z, hz1, hz2⟩ := zeros_ok hz G.w
        obtain ⟨ie, hie⟩ := Option.isSome_iff_exists.1 hh
        have hs' : P.cellsOf e = ie.size := by simp [Program.cellsOf, hie]
        obtain ⟨us, hv1, hv2⟩ := zcells_ok (G := G) zs (len * P.cellsOf e)
        have hul : us.length = len * P.cellsOf e := by rw [← (rvs_iff.1 hv2).1]; simp [zcells]
        obtain ⟨vs', f1, f2⟩ := fill_ok (place := fun i => some (i * P.cellsOf e, P.cellsOf e)) _ _ _ _ us p1 (fun j p q a b => by obtain ⟨⟨x1, x2⟩, x3⟩ := p3 j p q a b; exact ⟨by rw [x1, x2], x3⟩) hv2 hf
        have fl : ∀ (qs : List (Nat × Nat × AV)) (cs cs' : List AV), fillA cs qs = some cs' → cs'.length = cs.length := by
          intro qs
          induction qs with
          | nil => intro cs cs' h; simp [fillA] at h; rw [h]
          | cons q qs ih =>
            intro cs cs' h
            obtain ⟨off, k, x⟩ := q
            simp only [fillA] at h
            split at h
            · rename_i xs hxs
              split at h
              · rename_i hc
                rw [ih _ _ h]
                simp
                omega
              · cases h
            · cases h
        have hlen : cs.length = len * P.cellsOf e := by rw [fl _ _ _ hf]; simp [zcells]
        have hvl := (rvs_iff.1 f2).1
        have hR' := add_row (k := P.cellsOf e) (e := e) hR vs'.toArray cs (by omega) f2.pre (by simp; omega)
        refine value_run ⟨.slice (some ⟨G.w.heap.size, 0, none⟩) len len, G.w.alloc (.cells vs'.toArray e), ?_, _, _, rfl, hR', add_step hR _ _, ?_, hK⟩
        · have r0 : ∀ f : Nat → Value, (Array.range 0).map f = #[] := fun f => by apply Array.eq_empty_of_size_eq_zero; simp
          have hsm : ¬ (16777216 < len * ie.size) := by rw [← hs']; omega
          rw [hs'] at f1 hv1
          simp only [Instr.buildSlice, Sem.run_bind, run_underlying hu, Result.andThen_ok, run_sizeOf' hh, hs']
          rw [if_neg (by simp; omega)]
          by_cases h0 : len * ie.size = 0
          · have hus : us = [] := List.eq_nil_of_length_eq_zero (by rw [hul, hs']; exact h0)
            subst hus
            have f1' : Instr.fill (fun i => some (i * ie.size, ie.size)) #[] (ps.toList.map fun p => (p.1, ρ p.2)) = some vs'.toArray := f1
            simp [h0, r0, f1', newRow]
            try rfl
          · have f1' : Instr.fill (fun i => some (i * ie.size, ie.size)) us.toArray (ps.toList.map fun p => (p.1, ρ p.2)) = some vs'.toArray := f1
            simp only [Sem.run_bind, run_program, Result.andThen_ok, Sem.run_pure, h0, if_false, hz1, hz2, hv1, Array.toList_map, f1', newRow, run_newObj]
            rfl
        · simp only [Rv]
          have := ref_new (n := len) (cap := len) hR hR' hlen.symm (by omega) (Nat.le_refl _) (by simp; omega)
          rw [hlen] at this
          exact this
      · cases hs
    · cases hs
  | nilCheck x =>
    simp only [sop0, Option.bind_eq_bind, Option.bind_eq_some_iff, Option.pure_def, Option.some.injEq] at hs
    obtain ⟨x', hx, rfl⟩ := hs
    have h1 := hop x x' (by simp [Op.operands]) hx
    simp only [swp] at h
    split at h
    · rename_i l tot off he
      obtain ⟨r, hr, hK⟩ := orK_elim h
      rw [he] at h1 hK
      have h2 := h1
      simp only [Rv] at h2
      obtain ⟨b, hb, hu⟩ := ptr_real h2 hr
      exact opRun_same hR (by simp [hu]) h1 hK
    · rename_i cs he
      rw [he] at h1 h
      have h2 := h1
      simp only [Rv] at h2
      obtain ⟨b, off, hu, _⟩ := h2
      exact opRun_same hR (by simp [hu]) h1 h
    · rename_i f cs he
      rw [he] at h1 h
      have h2 := h1
      simp only [Rv] at h2
      obtain ⟨vs, hu, _⟩ := h2
      exact opRun_same hR (by simp [hu]) h1 h
    · exact h.elim
  | binOp op t x y yt =>
    have hx : ∀ x', sa x = some x' → Rv G (evS fr x') (ρ x) := fun x' hx => hop x x' (by simp [Op.operands]) hx
    have hy : ∀ y', sa y = some y' → Rv G (evS fr y') (ρ y) := fun y' hy => hop y y' (by simp [Op.operands]) hy
    have plain : ∀ x' y', sa x = some x' → sa y = some y' → s = .bin op x' y' → OpRun P (((do eqGuard op t x y (ρ x) (ρ y); binOp op t (ρ x) (ρ y)) : Sem Value) >>= fun a => pure (Next.value a)) G K := by
      intro x' y' h1 h2 he
      subst he
      simp only [swp] at h
      have hx' := hx x' h1
      have hy' := hy y' h2
      split at h
      · rename_i u v hu hv
        rw [hu] at hx'
        rw [hv] at hy'
        rw [scR hx', scR hy']
        obtain ⟨⟨r, hr, hK⟩, g1, g2⟩ := ok_binV (P := P) (t := t) h G.w
        exact value_same hR ⟨r, by simp [run_eqGuard_ne (P := P) G.w g1 g2, hr], _, by simp [Rv], hK⟩
      · exact h.elim
    have eqs : ∀ (k : EqK) x' y', (op == .eql || op == .neq) = true → sa x = some x' → sa y = some y' → s = .eq (op == .neq) k x' y' →
        (match k with | .bool => P.underlying t = some .bool | .slice => ∃ e, P.underlying t = some (.slice e) | .func => ∃ a b c, P.underlying t = some (.func a b c) | .map => ∃ a b, P.underlying t = some (.map a b) | .ptr => ∃ e, P.underlying t = some (.pointer e)) →
        OpRun P (((do eqGuard op t x y (ρ x) (ρ y); binOp op t (ρ x) (ρ y)) : Sem Value) >>= fun a => pure (Next.value a)) G K := by
      intro k x' y' h0 h1 h2 he ht
      subst he
      simp only [swp] at h
      have hop2 : op = if (op == .neq) = true then .neq else .eql := by
        cases op <;> first | rfl | simp at h0
      obtain ⟨⟨r, hr, hK⟩, g1, g2⟩ := ok_eqO (P := P) hR (hx x' h1) (hy y' h2) ht h
      rw [← hop2] at hr
      exact value_same hR ⟨r, by simp [run_eqGuard_ne (P := P) G.w g1 g2, hr], hK⟩
    simp only [sop0] at hs
    split at hs
    · rename_i h0
      split at hs
      · obtain ⟨a, ha, hs⟩ := Option.bind_eq_some_iff.1 hs
        obtain ⟨b, hb, hs⟩ := Option.bind_eq_some_iff.1 hs
        exact plain a b ha hb (by cases hs; rfl)
      · obtain ⟨a, ha, hs⟩ := Option.bind_eq_some_iff.1 hs
        obtain ⟨b, hb, hs⟩ := Option.bind_eq_some_iff.1 hs
        exact plain a b ha hb (by cases hs; rfl)
      · rename_i ht
        obtain ⟨a, ha, hs⟩ := Option.bind_eq_some_iff.1 hs
        obtain ⟨b, hb, hs⟩ := Option.bind_eq_some_iff.1 hs
        exact eqs .bool a b h0 ha hb (by cases hs; rfl) ht
      · rename_i ht
        obtain ⟨a, ha, hs⟩ := Option.bind_eq_some_iff.1 hs
        obtain ⟨b, hb, hs⟩ := Option.bind_eq_some_iff.1 hs
        exact eqs .slice a b h0 ha hb (by cases hs; rfl) ⟨_, ht⟩
      · rename_i ht
        obtain ⟨a, ha, hs⟩ := Option.bind_eq_some_iff.1 hs
        obtain ⟨b, hb, hs⟩ := Option.bind_eq_some_iff.1 hs
        exact eqs .func a b h0 ha hb (by cases hs; rfl) ⟨_, _, _, ht⟩
      · rename_i ht
        obtain ⟨a, ha, hs⟩ := Option.bind_eq_some_iff.1 hs
        obtain ⟨b, hb, hs⟩ := Option.bind_eq_some_iff.1 hs
        exact eqs .map a b h0 ha hb (by cases hs; rfl) ⟨_, _, ht⟩
      · rename_i ht
        obtain ⟨a, ha, hs⟩ := Option.bind_eq_some_iff.1 hs
        obtain ⟨b, hb, hs⟩ := Option.bind_eq_some_iff.1 hs
        exact eqs .ptr a b h0 ha hb (by cases hs; rfl) ⟨_, ht⟩
      · rename_i fs ht
        obtain ⟨ks, hk, hs⟩ := Option.bind_eq_some_iff.1 hs
        obtain ⟨a, ha, hs⟩ := Option.bind_eq_some_iff.1 hs
        obtain ⟨b, hb, hs⟩ := Option.bind_eq_some_iff.1 hs
        cases hs
        have hop2 : op = if (op == .neq) = true then .neq else .eql := by
          cases op <;> first | rfl | simp at h0
        have := ok_eqS (P := P) hR ht hk h (hx a ha) (hy b hb) x y
        rw [← hop2] at this
        exact value_same hR this
      · rename_i n e ht
        obtain ⟨ks, hk, hs⟩ := Option.bind_eq_some_iff.1 hs
        obtain ⟨a, ha, hs⟩ := Option.bind_eq_some_iff.1 hs
        obtain ⟨b, hb, hs⟩ := Option.bind_eq_some_iff.1 hs
        cases hs
        have hop2 : op = if (op == .neq) = true then .neq else .eql := by
          cases op <;> first | rfl | simp at h0
        have := ok_eqArr (P := P) hR ht hk h (hx a ha) (hy b hb) x y
        rw [← hop2] at this
        exact value_same hR this
      · cases hs
    · obtain ⟨a, ha, hs⟩ := Option.bind_eq_some_iff.1 hs
      obtain ⟨b, hb, hs⟩ := Option.bind_eq_some_iff.1 hs
      exact plain a b ha hb (by cases hs; rfl)
  | unOp op t x =>
    show OpRun P (Op.unary op (ρ x) >>= fun a => pure (Next.value a)) G K
    simp only [sop0, Option.bind_eq_bind, Option.bind_eq_some_iff, Option.pure_def, Option.some.injEq] at hs
    obtain ⟨x', hx, rfl⟩ := hs
    have h1 := hop x x' (by simp [Op.operands]) hx
    simp only [swp] at h
    split at h
    · rename_i u he
      rw [he] at h1
      rw [scR h1]
      obtain ⟨r, hr, hK⟩ := ok_unV (P := P) h G.w
      exact value_same hR ⟨r, hr, _, by simp [Rv], hK⟩
    · exact h.elim
  | convert src dst x =>
    show OpRun P (convert src dst (ρ x) >>= fun a => pure (Next.value a)) G K
    simp only [sop0] at hs
    split at hs
    · rename_i k1 k2 hu1 hu2
      simp only [Option.bind_eq_bind, Option.bind_eq_some_iff, Option.pure_def, Option.some.injEq] at hs
      obtain ⟨x', hx, rfl⟩ := hs
      have h1 := hop x x' (by simp [Op.operands]) hx
      simp only [swp] at h
      split at h
      · rename_i k n he
        rw [he] at h1
        rw [scR h1]
        exact value_same hR ⟨_, by simp [convert, run_underlying hu1, run_underlying hu2, Conv.intToInt]; rfl, _, by simp [Rv], h⟩
      · exact h.elim
    · rename_i hu1 hu2
      simp only [Option.bind_eq_bind, Option.bind_eq_some_iff, Option.pure_def, Option.some.injEq] at hs
      obtain ⟨x', hx, rfl⟩ := hs
      have h1 := hop x x' (by simp [Op.operands]) hx
      simp only [swp] at h
      split at h
      · rename_i q he
        rw [he] at h1
        rw [scR h1]
        exact value_same hR ⟨_, by simp [convert, run_underlying hu1, run_underlying hu2]; rfl, _, by simp [Rv], h⟩
      · exact h.elim
    · cases hs
  | makeFunc fn first caps =>
    cases fn <;> simp only [sop0] at hs <;> try (cases hs; done)
    rename_i f
    split at hs
    · rename_i he
      simp only [Option.bind_eq_bind, Option.bind_eq_some_iff, Option.pure_def, Option.some.injEq] at hs
      obtain ⟨cs, hc, rfl⟩ := hs
      have hf : first = #[] := by simpa using he
      subst hf
      have hcs := rvs_map (G := G) (ρ := ρ) (fr := fr) hc (fun x q hx => hop x q (by show x ∈ (#[] ++ caps : Array Operand); exact Array.mem_append.2 (.inr (Array.mem_def.2 hx))))
      refine value_same hR ⟨.func (.func f) #[] (caps.toList.map ρ).toArray, ?_, .clo f (cs.map (evS fr)), by simp only [Rv]; exact ⟨_, rfl, hcs⟩, h⟩
      have e1 : (caps.toList.map ρ).toArray = caps.map ρ := by rw [← Array.toList_map]
      rw [e1]
      simp [Instr.makeFunc]
    · split at hs
      · rename_i he
        simp only [Option.bind_eq_bind, Option.bind_eq_some_iff, Option.pure_def, Option.some.injEq] at hs
        obtain ⟨cs, hc, rfl⟩ := hs
        have hf : caps = #[] := by simpa using he
        subst hf
        have hcs := rvs_map (G := G) (ρ := ρ) (fr := fr) hc (fun x q hx => hop x q (by show x ∈ (first ++ #[] : Array Operand); exact Array.mem_append.2 (.inl (Array.mem_def.2 hx))))
        refine value_same hR ⟨.func (.func f) (first.toList.map ρ).toArray #[], ?_, .bnd f (cs.map (evS fr)), by simp only [Rv]; exact ⟨_, rfl, hcs⟩, h⟩
        have e1 : (first.toList.map ρ).toArray = first.map ρ := by rw [← Array.toList_map]
        rw [e1]
        simp [Instr.makeFunc]
      · cases hs
  | makeInterface t x =>
    simp only [sop0] at hs
    split at hs
    · cases hs
    · rename_i d hni hu
      simp only [Option.bind_eq_bind, Option.bind_eq_some_iff, Option.pure_def, Option.some.injEq] at hs
      obtain ⟨x', hx, rfl⟩ := hs
      have h1 := hop x x' (by simp [Op.operands]) hx
      refine value_same hR ⟨.iface t (ρ x), ?_, .ifc t (evS fr x'), by simp only [Rv]; exact ⟨_, rfl, h1⟩, h⟩
      simp only [Instr.makeInterface, Sem.run_bind, run_underlying hu, Result.andThen_ok]
      cases d <;> first | rfl | exact absurd rfl (hni _)
    · cases hs
  | makeSlice t l c =>
    simp only [sop0] at hs
    split at hs
    · rename_i e hu
      split at hs
      · rename_i hh
        simp only [Option.bind_eq_bind, Option.bind_eq_some_iff, Option.pure_def, Option.some.injEq] at hs
        obtain ⟨zs, hz, l', hl, c', hc, rfl⟩ := hs
        simp only [swp] at h
        obtain ⟨n, hn, h⟩ := orK_elim h
        obtain ⟨m, hm, h0, h1, h2, h3, h4, hK⟩ := orK_elim h
        exact value_run (ok_mksl hR hu hh hz (hop l l' (by simp [Op.operands]) hl) (hop c c' (by simp [Op.operands]) hc) hn hm h0 h1 h2 h3 h4 hK)
      · cases hs
    · cases hs
  | slice t x lo hi mx =>
    cases mx with
    | some m =>
      cases lo with
      | none => simp [sop0] at hs
      | some lo => cases hi with
        | none => simp [sop0] at hs
        | some hi =>
          simp only [sop0] at hs
          split at hs
          · rename_i e hu
            split at hs
            · rename_i hh
              simp only [Option.bind_eq_bind, Option.bind_eq_some_iff, Option.pure_def, Option.some.injEq] at hs
              obtain ⟨x', hx, l', hl, h', hh', m', hm', rfl⟩ := hs
              exact value_same hR (ok_sl3 hR hu hh (hop x x' (by simp [Op.operands]) hx) (hop lo l' (by simp [Op.operands]) hl) (hop hi h' (by simp [Op.operands]) hh') (hop m m' (by simp [Op.operands]) hm') h)
            · cases hs
          · cases hs
    | none =>
      have hlo : ∀ y q, lo = some y → sa y = some q → Rv G (evS fr q) (ρ y) := fun y q h1 h2 => hop y q (by subst h1; simp [Op.operands]) h2
      have hhi : ∀ y q, hi = some y → sa y = some q → Rv G (evS fr q) (ρ y) := fun y q h1 h2 => hop y q (by subst h1; simp [Op.operands]) h2
      have hxx : ∀ q, sa x = some q → Rv G (evS fr q) (ρ x) := fun q h2 => hop x q (by simp [Op.operands]) h2
      simp only [sop0] at hs
      split at hs
      · rename_i hu
        simp only [Option.bind_eq_bind, Option.bind_eq_some_iff, Option.pure_def, Option.some.injEq] at hs
        obtain ⟨x', hx, l', hl, h', hh', rfl⟩ := hs
        exact value_same hR (ok_sls hR hu (hxx x' hx) hl hh' hlo hhi h)
      · rename_i e hu
        split at hs
        · rename_i hh
          simp only [Option.bind_eq_bind, Option.bind_eq_some_iff, Option.pure_def, Option.some.injEq] at hs
          obtain ⟨x', hx, l', hl, h', hh', rfl⟩ := hs
          exact value_same hR (ok_sl hR hu hh (hxx x' hx) hl hh' hlo hhi h)
        · cases hs
      · rename_i n e hu
        split at hs
        · rename_i hh
          simp only [Option.bind_eq_bind, Option.bind_eq_some_iff, Option.pure_def, Option.some.injEq] at hs
          obtain ⟨x', hx, l', hl, h', hh', rfl⟩ := hs
          exact value_same hR (ok_slA hR hu hh (hxx x' hx) hl hh' hlo hhi h)
        · cases hs
      · cases hs
  | fieldAddr t x f =>
    simp only [sop0] at hs
    split at hs
    · rename_i fs hu
      simp only [Option.bind_eq_bind, Option.bind_eq_some_iff] at hs
      obtain ⟨fd, hf, hs⟩ := hs
      split at hs
      · rename_i hh
        simp only [Bool.and_eq_true] at hh
        obtain ⟨x', hx, hs⟩ := Option.bind_eq_some_iff.1 hs
        cases hs
        exact value_same hR (ok_faddr hR hu hf hh.1 hh.2 (hop x x' (by simp [Op.operands]) hx) h)
      · cases hs
    · cases hs
  | field t x f =>
    simp only [sop0] at hs
    split at hs
    · rename_i fs hu
      simp only [Option.bind_eq_bind, Option.bind_eq_some_iff] at hs
      obtain ⟨fd, hf, g, hg, hs⟩ := hs
      split at hs
      · rename_i hh
        obtain ⟨x', hx, hs⟩ := Option.bind_eq_some_iff.1 hs
        cases hs
        exact value_same hR (ok_fld hR hu hf hg hh (hop x x' (by simp [Op.operands]) hx) h)
      · cases hs
    · cases hs
  | indexAddr t x i =>
    simp only [sop0] at hs
    split at hs
    · rename_i e hu
      split at hs
      · rename_i hh
        simp only [Option.bind_eq_bind, Option.bind_eq_some_iff, Option.pure_def, Option.some.injEq] at hs
        obtain ⟨x', hx, i', hi, rfl⟩ := hs
        simp only [swp] at h
        obtain ⟨j, hj, h⟩ := orK_elim h
        exact value_same hR (ok_iaddr hR hu hh (hop x x' (by simp [Op.operands]) hx) (hop i i' (by simp [Op.operands]) hi) hj h)
      · cases hs
    · rename_i n e hu
      split at hs
      · rename_i hh
        simp only [Option.bind_eq_bind, Option.bind_eq_some_iff, Option.pure_def, Option.some.injEq] at hs
        obtain ⟨x', hx, i', hi, rfl⟩ := hs
        simp only [swp] at h
        obtain ⟨j, hj, h⟩ := orK_elim h
        exact value_same hR (ok_iaddrA hR hu hh (hop x x' (by simp [Op.operands]) hx) (hop i i' (by simp [Op.operands]) hi) hj h)
      · cases hs
    · cases hs
  | index t x i =>
    simp only [sop0] at hs
    split at hs
    · rename_i hu
      simp only [Option.bind_eq_bind, Option.bind_eq_some_iff, Option.pure_def, Option.some.injEq] at hs
      obtain ⟨x', hx, i', hi, rfl⟩ := hs
      simp only [swp] at h
      obtain ⟨j, hj, h⟩ := orK_elim h
      exact value_same hR (ok_ixs hR hu (hop x x' (by simp [Op.operands]) hx) (hop i i' (by simp [Op.operands]) hi) hj h)
    · rename_i n e hu
      simp only [Option.bind_eq_bind, Option.bind_eq_some_iff] at hs
      obtain ⟨g, hg, hs⟩ := hs
      split at hs
      · rename_i hh
        obtain ⟨x', hx, hs⟩ := Option.bind_eq_some_iff.1 hs
        obtain ⟨i', hi, hs⟩ := Option.bind_eq_some_iff.1 hs
        cases hs
        simp only [swp] at h
        obtain ⟨j, hj, h⟩ := orK_elim h
        exact value_same hR (ok_ixa hR hu hg hh (hop x x' (by simp [Op.operands]) hx) (hop i i' (by simp [Op.operands]) hi) hj h)
      · cases hs
    · cases hs
  | extract x i =>
    simp only [sop0, Option.bind_eq_bind, Option.bind_eq_some_iff, Option.pure_def, Option.some.injEq] at hs
    obtain ⟨x', hx, rfl⟩ := hs
    have h1 := hop x x' (by simp [Op.operands]) hx
    simp only [swp] at h
    split at h
    · rename_i vs he
      rw [he] at h1
      simp only [Rv] at h1
      obtain ⟨us, hu, hvs⟩ := h1
      obtain ⟨c, hc, hK⟩ := orK_elim h
      obtain ⟨v, hv, hr⟩ := (rvs_iff.1 hvs).2 i c hc
      exact value_same hR ⟨v, by simp [Instr.extract, hu, hv], c, hr, hK⟩
    · exact h.elim
  | call c =>
    obtain ⟨callee, args, argTypes⟩ := c
    cases callee with
    | value f =>
      simp only [sop0, Option.bind_eq_bind, Option.bind_eq_some_iff, Option.pure_def, Option.some.injEq] at hs
      obtain ⟨f', hf, as, has_, rfl⟩ := hs
      have h1 := hop f f' (by simp [Op.operands, Call.operands]) hf
      have h2 := rvs_map (G := G) (ρ := ρ) (fr := fr) has_ (fun x q hx => hop x q (by simp only [Op.operands, Call.operands]; exact Array.mem_append.2 (.inr (Array.mem_def.2 hx))))
      simp only [swp] at h
      split at h
      · rename_i g caps he
        rw [he] at h1
        simp only [Rv] at h1
        obtain ⟨vs, hu, hvs⟩ := h1
        obtain ⟨⟨fn, hfn, n1, n2⟩, hc⟩ := h
        have hcall := hc G _ rfl hR (rvs_append h2 hvs)
        refine .inr ⟨g, (args.toList.map ρ ++ vs).toArray, ?_, ?_⟩
        · have e1 : (args.toList.map ρ ++ vs).toArray = args.map ρ ++ vs.toArray := by simp
          rw [e1, ← enter_ok hfn n1 n2 (args.map ρ ++ vs.toArray) G.w]
          simp [resolve, hu, Deferred.ofValue, invoke]
        · exact hcall.mono fun e w' ⟨G', r, v, h1, h2, h3, h4, h5, h6⟩ => ⟨v, h1, G', r, h2, h3, h4, h5, h6⟩
      · rename_i g caps he
        rw [he] at h1
        simp only [Rv] at h1
        obtain ⟨vs, hu, hvs⟩ := h1
        obtain ⟨⟨fn, hfn, n1, n2⟩, hc⟩ := h
        have hcall := hc G _ rfl hR (rvs_append hvs h2)
        refine .inr ⟨g, (vs ++ args.toList.map ρ).toArray, ?_, ?_⟩
        · have e1 : (vs ++ args.toList.map ρ).toArray = vs.toArray ++ args.map ρ := by simp
          rw [e1, ← enter_ok hfn n1 n2 (vs.toArray ++ args.map ρ) G.w]
          simp [resolve, hu, Deferred.ofValue, invoke]
        · exact hcall.mono fun e w' ⟨G', r, v, h1, h2, h3, h4, h5, h6⟩ => ⟨v, h1, G', r, h2, h3, h4, h5, h6⟩
      · exact h.elim
    | invoke a b => simp [sop0] at hs
    | builtin b =>
      have bv : ∀ (x : Sem Value), (do let d ← resolve ρ ⟨.builtin b, args, argTypes⟩ o.type; invoke d.target d.args : Sem Next) = (do pure (Next.value (← x)) : Sem Next) → OpRun P (do pure (Next.value (← x)) : Sem Next) G K → OpRun P (do let d ← resolve ρ ⟨.builtin b, args, argTypes⟩ o.type; invoke d.target d.args : Sem Next) G K := fun x e h => by rw [e]; exact h
      have l1 : ∀ {α : Type} {a : Array α} {x : α}, a.toList = [x] → a = #[x] := fun {α a} => by intros; cases a; simp_all
      have l3 : ∀ {α : Type} {a : Array α} {x y z : α}, a.toList = [x, y, z] → a = #[x, y, z] := fun {α a} => by intros; cases a; simp_all
      have l2 : ∀ {α : Type} {a : Array α} {x y : α}, a.toList = [x, y] → a = #[x, y] := fun {α a} => by intros; cases a; simp_all
      have hb : sopB P b args.toList argTypes.toList = some s := hs
      clear hs
      have hs := hb
      clear hb
      cases b <;> simp only [sopB] at hs <;> try (cases hs; done)
      case cap =>
       split at hs
       · rename_i x t e1 e2
         have e1 := l1 e1
         have e2 := l1 e2
         subst e1
         subst e2
         have hxx : ∀ q, sa x = some q → Rv G (evS fr q) (ρ x) := fun q h2 => hop x q (by simp [Op.operands, Call.operands]) h2
         refine bv (Builtin.cap_ #[t] o.type #[ρ x]) (by simp [resolve, invoke, builtin]) ?_
         split at hs
         · rename_i e hu
           simp only [Option.bind_eq_bind, Option.bind_eq_some_iff, Option.pure_def, Option.some.injEq] at hs
           obtain ⟨x', hx, rfl⟩ := hs
           have h1 := hxx x' hx
           simp only [swp] at h
           split at h
           · rename_i he
             rw [he] at h1
             rw [scR h1]
             exact value_same hR ⟨_, by simp [Builtin.cap_, run_underlying hu]; rfl, _, by simp [Rv, goInt], h⟩
           · exact h.elim
         · cases hs
       · cases hs
      case len =>
       split at hs
       · rename_i x t e1 e2
         have e1 := l1 e1
         have e2 := l1 e2
         subst e1
         subst e2
         have hxx : ∀ q, sa x = some q → Rv G (evS fr q) (ρ x) := fun q h2 => hop x q (by simp [Op.operands, Call.operands]) h2
         refine bv (Builtin.len_ #[t] o.type #[ρ x]) (by simp [resolve, invoke, builtin]) ?_
         split at hs
         · rename_i hu
           simp only [Option.bind_eq_bind, Option.bind_eq_some_iff, Option.pure_def, Option.some.injEq] at hs
           obtain ⟨x', hx, rfl⟩ := hs
           have h1 := hxx x' hx
           simp only [swp] at h
           split at h
           · rename_i q he
             rw [he] at h1
             rw [scR h1]
             exact value_same hR ⟨_, by simp [Builtin.len_, run_underlying hu]; rfl, _, by simp [Rv, goInt], h⟩
           · exact h.elim
         · rename_i e hu
           simp only [Option.bind_eq_bind, Option.bind_eq_some_iff, Option.pure_def, Option.some.injEq] at hs
           obtain ⟨x', hx, rfl⟩ := hs
           have h1 := hxx x' hx
           simp only [swp] at h
           split at h
           · rename_i n cs he
             rw [he] at h1
             simp only [Rv] at h1
             obtain ⟨a, c, hv, _, hn, _⟩ := h1
             rw [hv]
             exact value_same hR ⟨_, by simp [Builtin.len_, run_underlying hu]; rfl, _, by simp [Rv, goInt], h hn⟩
           · rename_i l tot off n he
             obtain ⟨r, hr, hK⟩ := orK_elim h
             rw [he] at h1
             simp only [Rv] at h1
             obtain ⟨hm, htot⟩ := row?_some hr
             have hle : ∃ a cap, ρ x = .slice a n cap ∧ n ≤ 9223372036854775807 := by
               rcases ref_real h1 hr with ⟨_, _, _, rfl, hv⟩ | ⟨b, c, cap, hbl, hc, hv, hn, hf, _⟩
               · exact ⟨none, 0, hv, by omega⟩
               · rcases hv with hv | ⟨_, rfl, _, o', hv⟩
                 · exact ⟨_, _, hv, hn.2⟩
                 · exact ⟨_, _, hv, by omega⟩
             obtain ⟨a, cap, hv, hn⟩ := hle
             rw [hv]
             exact value_same hR ⟨_, by simp [Builtin.len_, run_underlying hu]; rfl, _, by simp [Rv, goInt], hK hn⟩
           · rename_i c he
             rw [he] at h1
             rw [scR h1]
             exact value_same hR ⟨_, by simp [Builtin.len_, run_underlying hu]; rfl, _, by simp [Rv, goInt], h⟩
           · exact h.elim
         · rename_i ky e hu
           simp only [Option.bind_eq_bind, Option.bind_eq_some_iff, Option.pure_def, Option.some.injEq] at hs
           obtain ⟨x', hx, rfl⟩ := hs
           have h1 := hxx x' hx
           simp only [swp] at h
           obtain ⟨es, hm, hK⟩ := orK_elim h
           rcases map_real hR h1 hm with ⟨hv, rfl⟩ | ⟨b, en, cl, hv, hb, hent⟩
           · rw [hv]
             exact value_same hR ⟨_, by simp [Builtin.len_, run_underlying hu]; rfl, _, by simp [Rv, goInt], hK⟩
           · rw [hv]
             have hl := ents_len hent
             exact value_same hR ⟨_, by simp [Builtin.len_, run_underlying hu, get_map hb]; rfl, _, by simp [Rv, goInt, ← hl], hK⟩
         · cases hs
       · cases hs
      case append =>
       split at hs
       · rename_i x y t u e1 e2
         have e1 := l2 e1
         have e2 := l2 e2
         subst e1
         subst e2
         have hxx : ∀ q, sa x = some q → Rv G (evS fr q) (ρ x) := fun q h2 => hop x q (by simp [Op.operands, Call.operands]) h2
         have hyy : ∀ q, sa y = some q → Rv G (evS fr q) (ρ y) := fun q h2 => hop y q (by simp [Op.operands, Call.operands]) h2
         refine bv (Builtin.append_ #[t, u] o.type #[ρ x, ρ y]) (by simp [resolve, invoke, builtin]) ?_
         split at hs
         · rename_i e hu
           split at hs
           · rename_i hc
             simp only [Bool.and_eq_true, decide_eq_true_eq, beq_iff_eq] at hc
             obtain ⟨⟨⟨hh, rfl⟩, hz⟩, hk⟩ := hc
             simp only [Option.bind_eq_bind, Option.bind_eq_some_iff, Option.pure_def, Option.some.injEq] at hs
             obtain ⟨x', hx, y', hy, rfl⟩ := hs
             simp only [swp] at h
             obtain ⟨src, hsrc, h⟩ := orK_elim h
             have hz1 : ((P.info? e).bind (·.zero)).isSome = true ∧ ∀ i z, P.info? e = some i → i.zero = some z → z.cells.size = P.cellsOf e := by
               unfold zok at hz
               cases hi : P.info? e with
               | none => simp [hi] at hz
               | some i =>
                 cases hq : i.zero with
                 | none => simp [hi, hq] at hz
                 | some z =>
                   simp [hi, hq] at hz
                   refine ⟨by simp [hq], fun i' z' h1 h2 => ?_⟩
                   cases h1
                   rw [hq] at h2
                   cases h2
                   simp [Program.cellsOf, hi, hz]
             exact value_run (ok_app hR hu hh hz1.1 (hxx x' hx) (hyy y' hy) hk hsrc hz1.2 h)
           · split at hs
             · rename_i hc0 hc
               simp only [Bool.and_eq_true, decide_eq_true_eq] at hc
               obtain ⟨⟨⟨hint, hh⟩, hz⟩, hk⟩ := hc
               simp only [Option.bind_eq_bind, Option.bind_eq_some_iff, Option.pure_def, Option.some.injEq] at hs
               obtain ⟨zs, hzs, x', hx, y', hy, rfl⟩ := hs
               simp only [swp] at h
               obtain ⟨n, hn, h⟩ := orK_elim h
               obtain ⟨kn, hkn⟩ : ∃ kn, P.underlying u = some (.int kn) := by
                 unfold isIntT at hint
                 split at hint
                 · rename_i kn hk2; exact ⟨kn, hk2⟩
                 · cases hint
               have hz1 : ∀ i z, P.info? e = some i → i.zero = some z → z.cells.size = P.cellsOf e := by
                 unfold zok at hz
                 intro i z h1 h2
                 simp [h1, h2] at hz
                 simp [Program.cellsOf, h1, hz]
               exact value_run (ok_appZ hR hu hkn hh hzs hz1 (hxx x' hx) (hyy y' hy) hk hn h)
             · cases hs
         · cases hs
       · cases hs
      case copy =>
       split at hs
       · rename_i x y t u e1 e2
         have e1 := l2 e1
         have e2 := l2 e2
         subst e1
         subst e2
         have hxx : ∀ q, sa x = some q → Rv G (evS fr q) (ρ x) := fun q h2 => hop x q (by simp [Op.operands, Call.operands]) h2
         have hyy : ∀ q, sa y = some q → Rv G (evS fr q) (ρ y) := fun q h2 => hop y q (by simp [Op.operands, Call.operands]) h2
         refine bv (Builtin.copy_ #[t, u] o.type #[ρ x, ρ y]) (by simp [resolve, invoke, builtin]) ?_
         split at hs
         · rename_i e hu
           split at hs
           · rename_i hc
             simp only [Bool.and_eq_true, decide_eq_true_eq, beq_iff_eq] at hc
             obtain ⟨⟨hh, rfl⟩, hk⟩ := hc
             simp only [Option.bind_eq_bind, Option.bind_eq_some_iff, Option.pure_def, Option.some.injEq] at hs
             obtain ⟨x', hx, y', hy, rfl⟩ := hs
             simp only [swp] at h
             obtain ⟨src, hsrc, h⟩ := orK_elim h
             exact value_run (ok_copy hR hu hh (hxx x' hx) (hyy y' hy) hk hsrc h)
           · cases hs
         · cases hs
       · cases hs
      case clear =>
       split at hs
       · rename_i x t e1 e2
         have e1 := l1 e1
         have e2 := l1 e2
         subst e1
         subst e2
         have hxx : ∀ q, sa x = some q → Rv G (evS fr q) (ρ x) := fun q h2 => hop x q (by simp [Op.operands, Call.operands]) h2
         refine bv (Builtin.clear_ #[t] o.type #[ρ x]) (by simp [resolve, invoke, builtin]) ?_
         split at hs
         · rename_i e hu
           split at hs
           · rename_i hc
             simp only [Bool.and_eq_true, decide_eq_true_eq] at hc
             obtain ⟨⟨hh, hz⟩, hk⟩ := hc
             simp only [Option.bind_eq_bind, Option.bind_eq_some_iff, Option.pure_def, Option.some.injEq] at hs
             obtain ⟨zs, hzs, x', hx, rfl⟩ := hs
             have hz1 : ∀ i z, P.info? e = some i → i.zero = some z → z.cells.size = P.cellsOf e := by
               unfold zok at hz
               intro i z h1 h2
               simp [h1, h2] at hz
               simp [Program.cellsOf, h1, hz]
             simp only [swp] at h
             exact value_run (ok_clr hR hu hh hzs hz1 (hxx x' hx) hk h)
           · cases hs
         · cases hs
       · cases hs
      case min =>
       split at hs
       · rename_i x y e1
         have e1 := l2 e1
         subst e1
         refine bv (Builtin.min_ argTypes o.type #[ρ x, ρ y]) (by simp [resolve, invoke, builtin]) ?_
         simp only [Option.bind_eq_bind, Option.bind_eq_some_iff, Option.pure_def, Option.some.injEq] at hs
         obtain ⟨x', hx, y', hy, rfl⟩ := hs
         have hx' := hop x x' (by simp [Op.operands, Call.operands]) hx
         have hy' := hop y y' (by simp [Op.operands, Call.operands]) hy
         simp only [swp] at h
         split at h
         · rename_i u v hu hv
           rw [hu] at hx'
           rw [hv] at hy'
           rw [scR hx', scR hy']
           obtain ⟨r, hr, hK⟩ := ok_min (P := P) h argTypes o.type G.w
           exact value_same hR ⟨r, hr, _, by simp [Rv], hK⟩
         · exact h.elim
       · cases hs
      case max =>
       split at hs
       · rename_i x y e1
         have e1 := l2 e1
         subst e1
         refine bv (Builtin.max_ argTypes o.type #[ρ x, ρ y]) (by simp [resolve, invoke, builtin]) ?_
         simp only [Option.bind_eq_bind, Option.bind_eq_some_iff, Option.pure_def, Option.some.injEq] at hs
         obtain ⟨x', hx, y', hy, rfl⟩ := hs
         have hx' := hop x x' (by simp [Op.operands, Call.operands]) hx
         have hy' := hop y y' (by simp [Op.operands, Call.operands]) hy
         simp only [swp] at h
         split at h
         · rename_i u v hu hv
           rw [hu] at hx'
           rw [hv] at hy'
           rw [scR hx', scR hy']
           obtain ⟨r, hr, hK⟩ := ok_max (P := P) h argTypes o.type G.w
           exact value_same hR ⟨r, hr, _, by simp [Rv], hK⟩
         · exact h.elim
       · rename_i x y z e1
         have e1 := l3 e1
         subst e1
         refine bv (Builtin.max_ argTypes o.type #[ρ x, ρ y, ρ z]) (by simp [resolve, invoke, builtin]) ?_
         simp only [Option.bind_eq_bind, Option.bind_eq_some_iff, Option.pure_def, Option.some.injEq] at hs
         obtain ⟨x', hx, y', hy, z', hz, rfl⟩ := hs
         have hx' := hop x x' (by simp [Op.operands, Call.operands]) hx
         have hy' := hop y y' (by simp [Op.operands, Call.operands]) hy
         have hz' := hop z z' (by simp [Op.operands, Call.operands]) hz
         simp only [swp] at h
         split at h
         · rename_i u v w hu hv hw
           rw [hu] at hx'
           rw [hv] at hy'
           rw [hw] at hz'
           rw [scR hx', scR hy', scR hz']
           obtain ⟨r, hr, hK⟩ := ok_max3 (P := P) h argTypes o.type G.w
           exact value_same hR ⟨r, hr, _, by simp [Rv], hK⟩
         · exact h.elim
       · cases hs
  | makeMap t r =>
    cases r with
    | none =>
      simp only [sop0, Option.some.injEq] at hs
      subst hs
      exact value_run (ok_mkmap hR t h)
    | some r => simp [sop0] at hs
  | mapUpdate t m k x =>
    simp only [sop0] at hs
    split at hs
    · rename_i kt e hu
      simp only [Option.bind_eq_bind, Option.bind_eq_some_iff, Option.pure_def, Option.some.injEq] at hs
      obtain ⟨kd, hk, m', hm, k', hk', x', hx, rfl⟩ := hs
      obtain ⟨w', hr, hl⟩ := ok_mupd hR hu hk h (hop m m' (by simp [Op.operands]) hm) (hop k k' (by simp [Op.operands]) hk') (hop x x' (by simp [Op.operands]) hx)
      exact .inl ⟨undef, w', .inr ⟨by simp [hr], rfl⟩, hl⟩
    · cases hs
  | lookup t m k ok =>
    simp only [sop0] at hs
    split at hs
    · rename_i kt e hu
      simp only [Option.bind_eq_bind, Option.bind_eq_some_iff, Option.pure_def, Option.some.injEq] at hs
      obtain ⟨i, hi, kd, hk, z, hz, m', hm, k', hk', rfl⟩ := hs
      exact value_same hR (ok_look hR hu hk hi hz h (hop m m' (by simp [Op.operands]) hm) (hop k k' (by simp [Op.operands]) hk'))
    · cases hs
  | insert t m k x =>
    simp only [sop0] at hs
    split at hs
    · rename_i kt e hu
      simp only [Option.bind_eq_bind, Option.bind_eq_some_iff, Option.pure_def, Option.some.injEq] at hs
      obtain ⟨kd, hk, m', hm, k', hk', x', hx, rfl⟩ := hs
      obtain ⟨w', hr, hl⟩ := ok_mupd hR hu hk h (hop m m' (by simp [Op.operands]) hm) (hop k k' (by simp [Op.operands]) hk') (hop x x' (by simp [Op.operands]) hx)
      exact .inl ⟨undef, w', .inr ⟨by simp [hr], rfl⟩, hl⟩
    · cases hs
  | mapEntry t m k =>
    simp only [sop0] at hs
    split at hs
    · rename_i kt e hu
      simp only [Option.bind_eq_bind, Option.bind_eq_some_iff, Option.pure_def, Option.some.injEq] at hs
      obtain ⟨i, hi, kd, hk, z, hz, m', hm, k', hk', rfl⟩ := hs
      exact value_run (ok_mentry hR hu hk hi hz h (hop m m' (by simp [Op.operands]) hm) (hop k k' (by simp [Op.operands]) hk'))
    · cases hs
  | entryStore t m st x =>
    simp only [sop0, Option.bind_eq_bind, Option.bind_eq_some_iff, Option.pure_def, Option.some.injEq] at hs
    obtain ⟨m', hm, k', hk', x', hx, rfl⟩ := hs
    obtain ⟨w', hr, hl⟩ := ok_mstore (t := t) hR h (hop m m' (by simp [Op.operands]) hm) (hop st k' (by simp [Op.operands]) hk') (hop x x' (by simp [Op.operands]) hx)
    exact .inl ⟨undef, w', .inr ⟨by simp; rw [hr]; rfl, rfl⟩, hl⟩
  | entry x =>
    simp only [sop0, Option.bind_eq_bind, Option.bind_eq_some_iff, Option.pure_def, Option.some.injEq] at hs
    obtain ⟨x', hx, rfl⟩ := hs
    exact value_same hR (ok_entry hR h (hop x x' (by simp [Op.operands]) hx))
  | range t x =>
    simp only [sop0] at hs
    split at hs
    · rename_i kt e hu
      simp only [Option.bind_eq_bind, Option.bind_eq_some_iff, Option.pure_def, Option.some.injEq] at hs
      obtain ⟨x', hx, rfl⟩ := hs
      exact value_run (ok_range hR hu h (hop x x' (by simp [Op.operands]) hx))
    · cases hs
  | next x s =>
    cases s with
    | false =>
      simp only [sop0, Option.bind_eq_bind, Option.bind_eq_some_iff, Option.pure_def, Option.some.injEq] at hs
      obtain ⟨x', hx, rfl⟩ := hs
      exact value_run (ok_next hR h (hop x x' (by simp [Op.operands]) hx))
    | true => simp [sop0] at hs
  | _ => simp [sop0] at hs

theorem sop_ok (hR : Rel G) {op : Op} {s : SOp} {o : Oper} (ho : o.op = op) {ρ : Operand → Value} {fr : Fr} (hs : sop P op = s) (hop : ∀ x q, x ∈ op.operands → sa x = some q → Rv G (evS fr q) (ρ x)) (h : swp P s fr G.S K) : OpRun P (execOp ρ o) G K := by
  unfold sop at hs
  cases h0 : sop0 P op with
  | none => rw [h0] at hs; subst hs; exact h.elim
  | some s' => rw [h0] at hs; subst hs; exact sop0_ok hR ho h0 hop h
end
end Go.Proofs.Ytfihpbeihlpfcaa.Ev
