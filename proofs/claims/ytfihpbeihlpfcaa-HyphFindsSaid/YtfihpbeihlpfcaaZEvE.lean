/- Each operation does what 'swp' says (second half: comparisons, slices, what makes memory). -/
import Derived.Test.YtfihpbeihlpfcaaZEvD
set_option linter.unusedVariables false
set_option linter.unusedSimpArgs false
namespace Go.Proofs.Ytfihpbeihlpfcaa.Ev
open Go Go.RowKit
section
variable {P : Program} {G : Ctx} {K : AV → St → Prop}

theorem scR {u v : Value} (h : Rv G (.sc u) v) : v = u := by simpa only [Rv] using h

theorem run_eqGuard_ne {op : BinOp} {t : TypeId} {x y : Operand} {a b : Value} (w : World) (h : ∀ c d, ¬ (a = .agg c ∧ b = .agg d)) (h2 : ¬ (a = .nilIface ∧ b = .nilIface)) : (eqGuard op t x y a b).run P w = .ok () w := by
  have key : (match a, b with
      | .nilIface, .nilIface => (do
        if (x matches .const _) || (y matches .const _) then return
        if ← Op.eqGuardIn Op.maxDepth t a b then unsupported (.noEntry "binop/eql: two nil values of an interface type with methods, neither of them the literal nil") : Sem Unit)
      | .agg _, .agg _ => (do
        if !(← program).eqGuardType (← program).depth t then return
        if ← Op.eqGuardIn Op.maxDepth t a b then unsupported (.noEntry "binop/eql: two nil values of an interface type with methods, in a part of a struct or an array") : Sem Unit)
      | _, _ => pure ()).run P w = .ok () w := by
    split
    · exact absurd ⟨rfl, rfl⟩ h2
    · rename_i c d; exact absurd ⟨rfl, rfl⟩ (h c d)
    · rfl
  unfold eqGuard
  cases op <;> first | rfl | exact key

theorem ok_binV {op : BinOp} {t : TypeId} {a b : Value} {K : Value → Prop} (h : binV op a b K) (w : World) : (∃ r, (binOp op t a b).run P w = .ok r w ∧ K r) ∧ (∀ c d, ¬ (a = .agg c ∧ b = .agg d)) ∧ ¬ (a = .nilIface ∧ b = .nilIface) := by
  cases a <;> cases b <;> simp only [binV] at h <;> try exact h.elim
  · rename_i k x k' y
    refine ⟨?_, by simp, by simp⟩
    cases op <;> simp only at h
    case add => obtain ⟨rfl, hK⟩ := h; exact ⟨_, by rw [binOp_add]; rfl, hK⟩
    case sub => obtain ⟨rfl, hK⟩ := h; exact ⟨_, by rw [binOp_sub]; rfl, hK⟩
    case mul => obtain ⟨rfl, hK⟩ := h; exact ⟨_, by rw [binOp_mul]; rfl, hK⟩
    case quo => obtain ⟨rfl, h0, hK⟩ := h; exact ⟨_, by rw [binOp_quo]; simp only [Op.intDiv, if_neg h0]; rfl, hK⟩
    case rem => obtain ⟨rfl, h0, hK⟩ := h; exact ⟨_, by rw [binOp_rem]; simp only [Op.intDiv, if_neg h0]; rfl, hK⟩
    case and => obtain ⟨rfl, hK⟩ := h; exact ⟨_, by rw [binOp_and, intBits_and]; rfl, hK⟩
    case or => obtain ⟨rfl, hK⟩ := h; exact ⟨_, by rw [binOp_or, intBits_or]; rfl, hK⟩
    case xor => obtain ⟨rfl, hK⟩ := h; exact ⟨_, by rw [binOp_xor, intBits_xor]; rfl, hK⟩
    case andNot => obtain ⟨rfl, hK⟩ := h; exact ⟨_, by rw [binOp_andNot, intBits_andNot]; rfl, hK⟩
    case shl => obtain ⟨h0, hK⟩ := h; exact ⟨_, by rw [binOp_shl]; simp only [Op.shift]; rw [if_neg (by omega)]; rfl, hK⟩
    case shr => obtain ⟨h0, hK⟩ := h; exact ⟨_, by rw [binOp_shr]; simp only [Op.shift]; rw [if_neg (by omega)]; rfl, hK⟩
    case eql => obtain ⟨rfl, hK⟩ := h; exact ⟨_, by rw [binOp_eql]; rfl, hK⟩
    case neq => obtain ⟨rfl, hK⟩ := h; exact ⟨_, by rw [binOp_neq]; rfl, hK⟩
    case lss => obtain ⟨rfl, hK⟩ := h; exact ⟨_, by rw [binOp_lss]; rfl, hK⟩
    case leq => obtain ⟨rfl, hK⟩ := h; exact ⟨_, by rw [binOp_leq]; rfl, hK⟩
    case gtr => obtain ⟨rfl, hK⟩ := h; exact ⟨_, by rw [binOp_gtr]; rfl, hK⟩
    case geq => obtain ⟨rfl, hK⟩ := h; exact ⟨_, by rw [binOp_geq]; rfl, hK⟩
  · rename_i x y
    refine ⟨?_, by simp, by simp⟩
    cases op <;> simp only at h
    all_goals first
      | exact h.elim
      | (obtain ⟨h0, hK⟩ := h
         have hm : IntKind.i64.max = 9223372036854775807 := by decide
         refine ⟨_, ?_, hK⟩
         simp only [binOp, Op.stringOp, hm]
         rw [if_neg (by omega)]; rfl)
      | exact ⟨_, by simp only [binOp, Op.stringOp]; rfl, h⟩

theorem equal_one (t : TypeId) (x y : Value) : Op.equal t x y = Op.equalIn (9999 + 1) t x y := rfl

theorem ok_eqA (hR : Rel G) {neg : Bool} {t : TypeId} {k : EqK} {x y : AV} {u v : Value} (hx : Rv G x u) (hy : Rv G y v)
    (ht : match k with | .bool => P.underlying t = some .bool | .slice => ∃ e, P.underlying t = some (.slice e) | .func => ∃ a b c, P.underlying t = some (.func a b c) | .map => ∃ a b, P.underlying t = some (.map a b) | .ptr => ∃ e, P.underlying t = some (.pointer e))
    (h : eqA k neg x y fun r => K r G.S) :
    (∃ r, (binOp (if neg then .neq else .eql) t u v).run P G.w = .ok r G.w ∧ ∃ z, Rv G z r ∧ K z G.S) ∧ (∀ c d, ¬ (u = .agg c ∧ v = .agg d)) ∧ ¬ (u = .nilIface ∧ v = .nilIface) := by
  have mk : ∀ b : Bool, (Op.equal t u v).run P G.w = .ok b G.w → (Unit → binOp .eql t u v = (do pure (.bool (← Op.equal t u v)) : Sem Value)) → (Unit → binOp .neq t u v = (do pure (.bool (!(← Op.equal t u v))) : Sem Value)) → K (boolK neg b) G.S →
      ∃ r, (binOp (if neg then .neq else .eql) t u v).run P G.w = .ok r G.w ∧ ∃ z, Rv G z r ∧ K z G.S := by
    intro b hb h1 h2 hK
    refine ⟨.bool (if neg then !b else b), ?_, boolK neg b, by simp [Rv, boolK], hK⟩
    cases neg
    · simp [h1 (), hb]
    · simp [h2 (), hb]
  unfold eqA at h
  split at h
  · rw [scR hx, scR hy]
    rw [scR hx, scR hy] at mk
    refine ⟨mk _ (by rw [equal_one, Op.equalIn]; simp [run_underlying ht]) (fun _ => rfl) (fun _ => rfl) h, by simp, by simp⟩
  · obtain ⟨e, ht⟩ := ht
    rw [scR hx, scR hy]
    rw [scR hx, scR hy] at mk
    refine ⟨mk _ (by rw [equal_one, Op.equalIn]; simp [run_underlying ht]) (fun _ => rfl) (fun _ => rfl) h, by simp, by simp⟩
  · obtain ⟨e, ht⟩ := ht
    simp only [Rv] at hx
    obtain ⟨a, c, rfl, hnc, _, h0, _⟩ := hx
    rw [scR hy]
    rw [scR hy] at mk
    rename_i n cs n' c'
    cases a with
    | none => refine ⟨mk true (by rw [equal_one, Op.equalIn]; simp [run_underlying ht]) (fun _ => rfl) (fun _ => rfl) (h true (fun _ => by have := h0 rfl; omega)), by simp, by simp⟩
    | some a => exact ⟨mk false (by rw [equal_one, Op.equalIn]; simp [run_underlying ht]) (fun _ => rfl) (fun _ => rfl) (h false (by simp)), by simp, by simp⟩
  · obtain ⟨e, ht⟩ := ht
    simp only [Rv] at hy
    obtain ⟨a, c, rfl, hnc, _, h0, _⟩ := hy
    rw [scR hx]
    rw [scR hx] at mk
    cases a with
    | none => refine ⟨mk true (by rw [equal_one, Op.equalIn]; simp [run_underlying ht]) (fun _ => rfl) (fun _ => rfl) (h true (fun _ => by have := h0 rfl; omega)), by simp, by simp⟩
    | some a => exact ⟨mk false (by rw [equal_one, Op.equalIn]; simp [run_underlying ht]) (fun _ => rfl) (fun _ => rfl) (h false (by simp)), by simp, by simp⟩
  · obtain ⟨a, b, c, ht⟩ := ht
    simp only [Rv] at hx
    obtain ⟨vs, rfl, _⟩ := hx
    rw [scR hy]
    rw [scR hy] at mk
    exact ⟨mk false (by rw [equal_one, Op.equalIn]; simp [run_underlying ht]) (fun _ => rfl) (fun _ => rfl) h, by simp, by simp⟩
  · obtain ⟨a, b, c, ht⟩ := ht
    rw [scR hx, scR hy]
    rw [scR hx, scR hy] at mk
    exact ⟨mk true (by rw [equal_one, Op.equalIn]; simp [run_underlying ht]) (fun _ => rfl) (fun _ => rfl) h, by simp, by simp⟩
  · exact h.elim

theorem ok_eqO (hR : Rel G) {neg : Bool} {t : TypeId} {k : EqK} {x y : AV} {u v : Value} (hx : Rv G x u) (hy : Rv G y v)
    (ht : match k with | .bool => P.underlying t = some .bool | .slice => ∃ e, P.underlying t = some (.slice e) | .func => ∃ a b c, P.underlying t = some (.func a b c) | .map => ∃ a b, P.underlying t = some (.map a b) | .ptr => ∃ e, P.underlying t = some (.pointer e))
    (h : eqO G.S k neg x y fun r => K r G.S) :
    (∃ r, (binOp (if neg then .neq else .eql) t u v).run P G.w = .ok r G.w ∧ ∃ z, Rv G z r ∧ K z G.S) ∧ (∀ c d, ¬ (u = .agg c ∧ v = .agg d)) ∧ ¬ (u = .nilIface ∧ v = .nilIface) := by
  have mk : ∀ b : Bool, (Op.equal t u v).run P G.w = .ok b G.w → (Unit → binOp .eql t u v = (do pure (.bool (← Op.equal t u v)) : Sem Value)) → (Unit → binOp .neq t u v = (do pure (.bool (!(← Op.equal t u v))) : Sem Value)) → K (boolK neg b) G.S →
      ∃ r, (binOp (if neg then .neq else .eql) t u v).run P G.w = .ok r G.w ∧ ∃ z, Rv G z r ∧ K z G.S := by
    intro b hb h1 h2 hK
    refine ⟨.bool (if neg then !b else b), ?_, boolK neg b, by simp [Rv, boolK], hK⟩
    cases neg
    · simp [h1 (), hb]
    · simp [h2 (), hb]
  unfold eqO at h
  split at h
  · obtain ⟨a, b, ht⟩ := ht
    obtain ⟨es, he, h⟩ := orK_elim h
    simp only [Rv] at hx
    obtain ⟨_, _, hx⟩ := hx
    obtain ⟨b, _, rfl⟩ := hx es (by unfold St.map? at he; split at he <;> simp_all)
    rw [scR hy]
    rw [scR hy] at mk
    exact ⟨mk false (by rw [equal_one, Op.equalIn]; simp [run_underlying ht]) (fun _ => rfl) (fun _ => rfl) h, by simp, by simp⟩
  · obtain ⟨a, b, ht⟩ := ht
    simp only [Rv] at hx
    rcases hx with ⟨_, hx, _⟩ | ⟨b, ents, clock, rfl, _⟩
    · cases hx
    · rw [scR hy]
      rw [scR hy] at mk
      exact ⟨mk false (by rw [equal_one, Op.equalIn]; simp [run_underlying ht]) (fun _ => rfl) (fun _ => rfl) h, by simp, by simp⟩
  · obtain ⟨a, b, ht⟩ := ht
    rw [scR hx, scR hy]
    rw [scR hx, scR hy] at mk
    exact ⟨mk true (by rw [equal_one, Op.equalIn]; simp [run_underlying ht]) (fun _ => rfl) (fun _ => rfl) h, by simp, by simp⟩
  · obtain ⟨e, ht⟩ := ht
    obtain ⟨r, hr, h⟩ := orK_elim h
    obtain ⟨h1, h2⟩ := row?_some hr
    simp only [Rv] at hx
    obtain ⟨_, _, hx⟩ := hx
    obtain ⟨b, _, rfl⟩ := (hx _ _ _ h1).2 h2.symm
    rw [scR hy]
    rw [scR hy] at mk
    exact ⟨mk false (by rw [equal_one, Op.equalIn]; simp [run_underlying ht]) (fun _ => rfl) (fun _ => rfl) h, by simp, by simp⟩
  · obtain ⟨e, ht⟩ := ht
    simp only [Rv] at hx
    obtain ⟨b, off, rfl, _⟩ := hx
    rw [scR hy]
    rw [scR hy] at mk
    exact ⟨mk false (by rw [equal_one, Op.equalIn]; simp [run_underlying ht]) (fun _ => rfl) (fun _ => rfl) h, by simp, by simp⟩
  · obtain ⟨e, ht⟩ := ht
    rw [scR hx, scR hy]
    rw [scR hx, scR hy] at mk
    exact ⟨mk true (by rw [equal_one, Op.equalIn]; simp [run_underlying ht]) (fun _ => rfl) (fun _ => rfl) h, by simp, by simp⟩
  · obtain ⟨e, ht⟩ := ht
    obtain ⟨hn, h⟩ := h
    obtain ⟨r, hr, h⟩ := orK_elim h
    obtain ⟨h1, h2⟩ := row?_some hr
    simp only [Rv] at hx
    obtain ⟨_, _, hx⟩ := hx
    have hx := (hx _ _ _ h1).2 h2.symm
    rcases hx with ⟨_, _, _, h0, _⟩ | ⟨b, c, cap, _, _, hu, _⟩
    · omega
    · rcases hu with rfl | ⟨_, h0, _⟩
      · rw [scR hy]
        rw [scR hy] at mk
        exact ⟨mk false (by rw [equal_one, Op.equalIn]; simp [run_underlying ht]) (fun _ => rfl) (fun _ => rfl) h, by simp, by simp⟩
      · omega
  · exact ok_eqA hR hx hy ht h
theorem eqO_of {S : St} {k : EqK} {neg : Bool} {x y : AV} {K : AV → Prop} (h : eqA k neg x y K) : eqO S k neg x y K := by
  unfold eqO
  split
  all_goals first
    | exact h
    | (exfalso; simp only [eqA] at h; done)
    | (exfalso; simp [eqA] at h; done)

theorem ok_unV {op : UnOp} {a : Value} {K : Value → Prop} (h : unV op a K) (w : World) : ∃ r, (Op.unary op a).run P w = .ok r w ∧ K r := by
  cases op <;> cases a <;> simp only [unV] at h <;> first | exact h.elim | exact ⟨_, rfl, h⟩

/-! ### slices -/
theorem loIn_some {ρ : Operand → Value} {o : Option Operand} {s : Option SA} {fr : Fr} {d i : Int} (hs : o.mapM sa = some s) (hr : ∀ x s, o = some x → sa x = some s → Rv G (evS fr s) (ρ x)) (h : loIn (s.map (evS fr)) d = some i) :
    (o = none ∧ i = d) ∨ ∃ x k, o = some x ∧ ρ x = .int k i := by
  cases o with
  | none => simp at hs; subst hs; simp [loIn] at h; exact .inl ⟨rfl, h.symm⟩
  | some x =>
    have hs : (sa x).map some = some s := by simpa using hs
    cases hq : sa x with
    | none => simp [hq] at hs
    | some y =>
      simp [hq] at hs
      subst hs
      simp only [Option.map_some, loIn] at h
      obtain ⟨k, hk⟩ := intOf_some h (hr x y rfl hq)
      exact .inr ⟨x, k, rfl, hk⟩

theorem run_bound {k : IntKind} {i : Int} {y : Nat} {c : BoundsCode} (w : World) (h0 : 0 ≤ i) (h1 : i ≤ y) : (Instr.sliceBound (.int k i) y c).run P w = .ok i.toNat w := by
  simp [Instr.sliceBound, asIntOf, h0, h1]

theorem run_bounds {ρ : Operand → Value} {lo hi : Option Operand} {sl : Bool} {len cap : Nat} {l h : Int} (w : World)
    (hl : (lo = none ∧ l = 0) ∨ ∃ x k, lo = some x ∧ ρ x = .int k l) (hh : (hi = none ∧ h = len) ∨ ∃ x k, hi = some x ∧ ρ x = .int k h)
    (h0 : 0 ≤ l) (h1 : l ≤ h) (h2 : h ≤ cap) : (Instr.sliceBounds sl len cap (lo.map ρ) (hi.map ρ) none).run P w = .ok (l.toNat, h.toNat, cap) w := by
  have eh : ((h.toNat : Nat) : Int) = h := by omega
  rcases hl with ⟨rfl, rfl⟩ | ⟨x, k, rfl, hx⟩ <;> rcases hh with ⟨rfl, rfl⟩ | ⟨y, k', rfl, hy⟩
  · simp [Instr.sliceBounds]
  · have b2 := run_bound (P := P) (k := k') (c := if sl then .sliceAcap else .sliceAlen) w (by omega : 0 ≤ h) h2
    simp [Instr.sliceBounds, hy, b2]
  · have b1 := run_bound (P := P) (k := k) (y := len) (c := .sliceB) w h0 (by omega)
    simp [Instr.sliceBounds, hx, b1]
  · have b2 := run_bound (P := P) (k := k') (c := if sl then .sliceAcap else .sliceAlen) w (by omega : 0 ≤ h) h2
    have b1 := run_bound (P := P) (k := k) (y := h.toNat) (c := .sliceB) w h0 (by omega)
    simp [Instr.sliceBounds, hx, hy, b1, b2]

theorem rat_take {cs : List AV} {b off n : Nat} (hat : Rat G cs b off) : Rat G (cs.take n) b off :=
  rat_iff.2 fun j x hj => by
    rw [List.getElem?_take] at hj
    split at hj
    · exact rat_iff.1 hat j x hj
    · cases hj

theorem ok_sl (hR : Rel G) {ρ : Operand → Value} {lo hi : Option Operand} {t e : TypeId} {u : Value} {x : AV} {sl sh : Option SA} {fr : Fr} (ht : P.underlying t = some (.slice e)) (hh : has P e = true) (hx : Rv G x u)
    (hsl : lo.mapM sa = some sl) (hsh : hi.mapM sa = some sh) (hrl : ∀ x s, lo = some x → sa x = some s → Rv G (evS fr s) (ρ x)) (hrh : ∀ x s, hi = some x → sa x = some s → Rv G (evS fr s) (ρ x))
    (h : (match (generalizing := false) x with
    | .ro n cs => orK (loIn (sl.map (evS fr)) 0) fun l => orK (loIn (sh.map (evS fr)) n) fun h =>
        0 ≤ l ∧ l ≤ h ∧ h ≤ n ∧ cs.length = n * P.cellsOf e ∧ K (.ro (h.toNat - l.toNat) ((cs.drop (l.toNat * P.cellsOf e)).take ((h.toNat - l.toNat) * P.cellsOf e))) G.S
    | .ref q tot off n => orK (G.S.row? q tot) fun r => orK (loIn (sl.map (evS fr)) 0) fun l => orK (loIn (sh.map (evS fr)) n) fun h =>
        0 ≤ l ∧ l ≤ h ∧ (h ≤ n ∨ off + h.toNat * P.cellsOf e ≤ tot) ∧ 0 < P.cellsOf e ∧ r.2.1 = P.cellsOf e ∧ K (.ref q tot (off + l.toNat * P.cellsOf e) (h.toNat - l.toNat)) G.S
    | .sc (.slice none 0 0) => orK (loIn (sl.map (evS fr)) 0) fun l => orK (loIn (sh.map (evS fr)) 0) fun h => l = 0 ∧ h = 0 ∧ K (.sc (.slice none 0 0)) G.S
    | _ => False)) : ∃ v, (Instr.sliceAt t u (lo.map ρ) (hi.map ρ) none).run P G.w = .ok v G.w ∧ ∃ r, Rv G r v ∧ K r G.S := by
  have run : ∀ (a : Option Addr) (len cap : Nat) (l h : Int), ((lo = none ∧ l = 0) ∨ ∃ x k, lo = some x ∧ ρ x = .int k l) → ((hi = none ∧ h = len) ∨ ∃ x k, hi = some x ∧ ρ x = .int k h) → 0 ≤ l → l ≤ h → h ≤ cap →
      (Instr.sliceAt t (.slice a len cap) (lo.map ρ) (hi.map ρ) none).run P G.w = .ok (.slice (if cap = l.toNat then a else a.map (·.add (l.toNat * P.cellsOf e))) (h.toNat - l.toNat) (cap - l.toNat)) G.w := by
    intro a len cap l h hl hh' h0 h1 h2
    have hb := run_bounds (P := P) (sl := true) (len := len) (cap := cap) G.w hl hh' h0 h1 h2
    simp [Instr.sliceAt, Instr.slice, run_underlying ht, hb, run_sizeOf' hh]
  split at h
  · rename_i n cs
    obtain ⟨l, hl, h⟩ := orK_elim h
    obtain ⟨h', hh', h0, h1, h2, h3, hK⟩ := orK_elim h
    simp only [Rv] at hx
    obtain ⟨a, c, rfl, hc, hn, hc0, hcs⟩ := hx
    refine ⟨_, run a n c l h' (loIn_some hsl hrl hl) (loIn_some hsh hrh hh') h0 h1 (by omega), _, ?_, hK⟩
    simp only [Rv]
    refine ⟨_, _, rfl, by omega, by omega, fun hn => ?_, ?_⟩
    · split at hn
      · omega
      · cases a with
        | none => have := hc0 rfl; omega
        | some a => simp at hn
    · rcases hcs with rfl | ⟨b, off, rfl, ho, hat⟩
      · exact .inl (by simp)
      · by_cases e0 : c = l.toNat
        · left
          have : h'.toNat - l.toNat = 0 := by omega
          rw [this]; simp
        · exact .inr ⟨b, off + l.toNat * P.cellsOf e, by simp [e0, add_lit'], ho, rat_take (rat_drop hat)⟩
  · rename_i q tot off n
    obtain ⟨r, hr, h⟩ := orK_elim h
    obtain ⟨l, hl, h⟩ := orK_elim h
    obtain ⟨h', hh', h0, h1, h2, h3, h4, hK⟩ := orK_elim h
    simp only [Rv] at hx
    obtain ⟨hm, htot⟩ := row?_some hr
    rcases ref_real hx hr with ⟨m0, e0, rfl, rfl, rfl⟩ | ⟨b, c, cap, hb, hc, hu, hn, hf, hf2⟩
    · have hz : h' = 0 := by
        rcases h2 with h2 | h2
        · omega
        · rw [e0] at htot; simp at htot; subst htot
          have : h'.toNat * P.cellsOf e = 0 := by omega
          rcases Nat.mul_eq_zero.1 this with h5 | h5 <;> omega
      have hl0 : l = 0 := by omega
      subst hz; subst hl0
      refine ⟨_, run none 0 0 0 0 (loIn_some hsl hrl hl) (loIn_some hsh hrh hh') (by omega) (by omega) (by omega), _, ?_, hK⟩
      simpa only [Rv, Int.toNat_zero, Nat.zero_mul, Nat.add_zero, Nat.sub_self, if_true, ite_true] using hx
    · have hcap : h'.toNat ≤ cap := by
        rcases h2 with h2 | h2
        · omega
        · have : h'.toNat * P.cellsOf e ≤ cap * P.cellsOf e := by rw [h4] at hf2; omega
          exact Nat.le_of_mul_le_mul_right this h3
      rcases hu with rfl | ⟨rfl, rfl, hoff, o', rfl⟩
      · refine ⟨_, run _ n cap l h' (loIn_some hsl hrl hl) (loIn_some hsh hrh hh') h0 h1 (by omega), _, ?_, hK⟩
        simp only [Rv]
        have hlong : h'.toNat - l.toNat ≤ 9223372036854775807 := by
          rcases h2 with h2 | h2
          · omega
          · have q1 := (hR.ok q _ hm).1
            have q2 := Nat.le_mul_of_pos_right h'.toNat h3
            omega
        have hmul : l.toNat * P.cellsOf e + (cap - l.toNat) * P.cellsOf e = cap * P.cellsOf e := by rw [← Nat.add_mul]; congr 1; omega
        refine ⟨hx.1, ⟨_, _, _, rfl⟩, fun e' k' cs' hm' => ⟨(hx.2.2 e' k' cs' hm').1, fun _ => ?_⟩⟩
        rw [hm] at hm'
        cases hm'
        refine .inr ⟨b, c, cap - l.toNat, hb, hc, ?_, ⟨by omega, hlong⟩, by rw [h4] at hf ⊢; omega, by rw [h4] at hf2 ⊢; omega⟩
        by_cases ec : cap = l.toNat
        · by_cases el : l.toNat = 0
          · left
            have : off + l.toNat * P.cellsOf e = off := by rw [el]; omega
            rw [this]
            simp [ec]
          · right
            refine ⟨by omega, by omega, ?_, off, ?_⟩
            · have : 0 < l.toNat * P.cellsOf e := Nat.mul_pos (by omega) h3
              omega
            · have h5 : h'.toNat - l.toNat = 0 := by omega
              have h6 : cap - l.toNat = 0 := by omega
              rw [if_pos ec, h5, h6]
        · left
          simp [ec, add_lit']
      · have hz : h' = 0 := by omega
        have hl0 : l = 0 := by omega
        subst hz; subst hl0
        refine ⟨_, run _ 0 0 0 0 (loIn_some hsl hrl hl) (loIn_some hsh hrh hh') (by omega) (by omega) (by omega), _, ?_, hK⟩
        simpa only [Rv, Int.toNat_zero, Nat.zero_mul, Nat.add_zero, Nat.sub_self, if_true, ite_true] using hx
  · obtain ⟨l, hl, h⟩ := orK_elim h
    obtain ⟨h', hh', rfl, rfl, hK⟩ := orK_elim h
    rw [scR hx]
    exact ⟨_, run none 0 0 0 0 (loIn_some hsl hrl hl) (loIn_some hsh hrh hh') (by omega) (by omega) (by omega), _, by simp [Rv], hK⟩
  · exact h.elim

theorem ok_slA (hR : Rel G) {ρ : Operand → Value} {lo hi : Option Operand} {t e : TypeId} {n : Nat} {u : Value} {x : AV} {sl sh : Option SA} {fr : Fr} (ht : P.underlying t = some (.array n e)) (hh : has P e = true) (hx : Rv G x u)
    (hsl : lo.mapM sa = some sl) (hsh : hi.mapM sa = some sh) (hrl : ∀ x s, lo = some x → sa x = some s → Rv G (evS fr s) (ρ x)) (hrh : ∀ x s, hi = some x → sa x = some s → Rv G (evS fr s) (ρ x))
    (h : (match (generalizing := false) x with
    | .ptr q tot off => orK (G.S.row? q tot) fun r => orK (loIn (sl.map (evS fr)) 0) fun l => orK (loIn (sh.map (evS fr)) n) fun h =>
        0 ≤ l ∧ l ≤ h ∧ h ≤ n ∧ l < n ∧ 0 < P.cellsOf e ∧ r.2.1 = P.cellsOf e ∧ tot = off + n * P.cellsOf e ∧ K (.ref q tot (off + l.toNat * P.cellsOf e) (h.toNat - l.toNat)) G.S
    | _ => False)) : ∃ v, (Instr.sliceAt t u (lo.map ρ) (hi.map ρ) none).run P G.w = .ok v G.w ∧ ∃ r, Rv G r v ∧ K r G.S := by
  split at h
  · rename_i q tot off
    obtain ⟨r, hr, h⟩ := orK_elim h
    obtain ⟨l, hl, h⟩ := orK_elim h
    obtain ⟨h', hh', h0, h1, h2, h3, h4, h5, h6, hK⟩ := orK_elim h
    obtain ⟨hm, htot⟩ := row?_some hr
    simp only [Rv] at hx
    obtain ⟨hq, _, hx⟩ := hx
    obtain ⟨b, hb, rfl⟩ := (hx _ _ _ hm).2 htot.symm
    have hok := hR.ok q _ hm
    obtain ⟨hlen, hok⟩ := hok
    have hlt : n * P.cellsOf e ≤ 281474976710656 := by rw [htot] at hlen; omega
    have hn1 := Nat.le_mul_of_pos_right n h4
    have hb2 := run_bounds (P := P) (sl := false) (len := n) (cap := n) G.w (loIn_some hsl hrl hl) (loIn_some hsh hrh hh') h0 h1 h2
    have hne : ¬ (n = l.toNat) := by omega
    refine ⟨.slice (some ⟨b, off + l.toNat * P.cellsOf e, none⟩) (h'.toNat - l.toNat) (n - l.toNat), ?_, _, ?_, hK⟩
    · simp [Instr.sliceAt, run_underlying ht, hb2, run_sizeOf' hh, Instr.sureAddr, hne, add_lit']
    · simp only [Rv]
      refine ⟨hq, ⟨_, _, _, rfl⟩, fun e' k' cs' hm' => ⟨(hx e' k' cs' hm').1, fun _ => ?_⟩⟩
      rw [hm] at hm'
      cases hm'
      rcases hok with ⟨hb0, _⟩ | ⟨b', c, hb', hc, hcl, _⟩
      · rw [hb] at hb0; cases hb0
      · rw [hb] at hb'; cases hb'
        have hmul : l.toNat * P.cellsOf e + (n - l.toNat) * P.cellsOf e = n * P.cellsOf e := by rw [← Nat.add_mul]; congr 1; omega
        refine .inr ⟨b, c, n - l.toNat, hb, hc, .inl rfl, ⟨by omega, by omega⟩, ?_, ?_⟩
        · rw [h5]; omega
        · rw [h5]; omega
  · exact h.elim

theorem ok_sls (hR : Rel G) {ρ : Operand → Value} {lo hi : Option Operand} {t : TypeId} {u : Value} {x : AV} {sl sh : Option SA} {fr : Fr} (ht : P.underlying t = some .string) (hx : Rv G x u)
    (hsl : lo.mapM sa = some sl) (hsh : hi.mapM sa = some sh) (hrl : ∀ x s, lo = some x → sa x = some s → Rv G (evS fr s) (ρ x)) (hrh : ∀ x s, hi = some x → sa x = some s → Rv G (evS fr s) (ρ x))
    (h : (match (generalizing := false) x with
    | .sc (.string s) => orK (loIn (sl.map (evS fr)) 0) fun l => orK (loIn (sh.map (evS fr)) s.size) fun h =>
        0 ≤ l ∧ l ≤ h ∧ h ≤ s.size ∧ K (.sc (.string (s.extract l.toNat h.toNat))) G.S
    | _ => False)) : ∃ v, (Instr.sliceAt t u (lo.map ρ) (hi.map ρ) none).run P G.w = .ok v G.w ∧ ∃ r, Rv G r v ∧ K r G.S := by
  split at h
  · rename_i s
    obtain ⟨l, hl, h⟩ := orK_elim h
    obtain ⟨h', hh', h0, h1, h2, hK⟩ := orK_elim h
    rw [scR hx]
    have hb := run_bounds (P := P) (sl := false) (len := s.size) (cap := s.size) G.w (loIn_some hsl hrl hl) (loIn_some hsh hrh hh') h0 h1 h2
    exact ⟨_, by simp [Instr.sliceAt, Instr.slice, run_underlying ht, hb]; rfl, _, by simp [Rv], hK⟩
  · exact h.elim
end
end Go.Proofs.Ytfihpbeihlpfcaa.Ev
