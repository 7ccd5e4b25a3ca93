/- A pattern is put into the tree: the program. -/
import Derived.Test.YtfihpbeihlpfcaaZFnOb
import Derived.Test.YtfihpbeihlpfcaaZEvZp
set_option linter.unusedVariables false
set_option linter.unusedSimpArgs false
namespace Go.Proofs.Ytfihpbeihlpfcaa.Ev
open Go Go.Proofs

def ndM : Option Nat → AV
  | none => .sc (.map none)
  | some q => .mp q
def ndL : Option (Nat × Nat) → AV
  | none => nilA
  | some (v, k) => .ref v k 0 k
def esC (es : List (Str × Nat)) : List (Value × AV) := es.map fun p => (.string p.1, .ptr p.2 2 0)
theorem findE_es (s : Str) : ∀ (es : List (Str × Nat)), findE (esC es) (.string s) = (kid es s).map fun b => AV.ptr b 2 0
  | [] => rfl
  | (k, b) :: es => by
    have ih := findE_es s es
    have hk : keyEq (.string s) (.string k) = decide (s = k) := Key.eq (self := keyStr) s k
    simp only [esC, List.map_cons, findE, hk, decide_eq_true_eq] at ih ⊢
    unfold kid at ih ⊢
    rw [List.find?_cons]
    by_cases e : s = k
    · subst e; simp
    · rw [if_neg e, ih]
      have : decide (k = s) = false := decide_eq_false (fun h => e h.symm)
      simp only [this]
theorem updE_es (s : Str) (b : Nat) : ∀ (es : List (Str × Nat)), kid es s = none → updE (esC es) (.string s) (.ptr b 2 0) = esC (es ++ [(s, b)])
  | [], _ => rfl
  | (k, c) :: es, h => by
    have hk : keyEq (.string s) (.string k) = decide (s = k) := Key.eq (self := keyStr) s k
    unfold kid at h
    rw [List.find?_cons] at h
    by_cases e : s = k
    · subst e; simp at h
    · have : decide (k = s) = false := decide_eq_false (fun h => e h.symm)
      simp only [this] at h
      have ih := updE_es s b es h
      simp only [esC, List.map_cons, List.cons_append, updE, hk, decide_eq_true_eq, if_neg e] at ih ⊢
      rw [ih]
theorem keysOk_es (es : List (Str × Nat)) : keysOk .str (esC es) = true := by
  simp only [keysOk, esC, List.all_map, List.all_eq_true]
  intro x _; rfl
theorem mapOf_q (S : St) (l : Nat) : mapOf S (.mp l) = S.map? l := rfl
theorem findE_nil (v : Value) : findE [] v = none := rfl
theorem findE_one (s : Str) (x : AV) : findE [(.string s, x)] (.string s) = some x := by
  have hk : keyEq (.string s) (.string s) = decide (s = s) := Key.eq (self := keyStr) s s
  simp only [findE, hk, decide_true, if_true]
theorem keysOk_one (s : Str) (x : AV) : keysOk .str [(.string s, x)] = true := rfl
theorem one_mn : (AV.sc (.map none)).one = true := rfl
theorem getZ_p (b : Nat) : getZ (.pointer none) (some (AV.ptr b 2 0)) = .ptr b 2 0 := rfl
theorem getZ_pn : getZ (.pointer none) none = .sc (.pointer none) := rfl
def obH : HC → Ob
  | .nd m l => .row 93 2 [ndM m, ndL l]
  | .mpc es => .map (esC es)
  | .lvc l => .row 3 1 (cellsL l)
/-- The store holds the tree. -/
def Ag (T : St) (h : Hp) : Prop := ∀ a c, h a = some c → T.m a = some (obH c)
abbrev Pat := List Str × List Int
/-- What stands at the ends of ways when a pattern was put. -/
def putF (p : Pat) (f : List Str → Option (List Int)) (π : List Str) : Option (List Int) := if π = p.1 then some p.2 else if π <+: p.1 then some ((f π).getD []) else f π
/-- Only the tree and new names were turned. -/
def Fra (T : St) (h : Hp) (T' : St) (h' : Hp) : Prop := T.n ≤ T'.n ∧ ∀ l, l < T.n → h l = none → T'.m l = T.m l ∧ h' l = none
theorem Fra.refl (T : St) (h : Hp) : Fra T h T h := ⟨Nat.le_refl _, fun l _ e => ⟨rfl, e⟩⟩
theorem Fra.trans {A B C : St} {a b c : Hp} (h1 : Fra A a B b) (h2 : Fra B b C c) : Fra A a C c := ⟨Nat.le_trans h1.1 h2.1, fun l hl e => by
  obtain ⟨e1, e2⟩ := h1.2 l hl e
  obtain ⟨e3, e4⟩ := h2.2 l (Nat.lt_of_lt_of_le hl h1.1) e2
  exact ⟨e3.trans e1, e4⟩⟩
theorem row_of {T : St} {h : Hp} {a : Nat} {m : Option Nat} {l : Option (Nat × Nat)} (hA : Ag T h) (ha : h a = some (.nd m l)) : T.row? a 2 = some (93, 2, [ndM m, ndL l]) := by
  unfold St.row?; rw [hA a _ ha]; rfl

/-- What holds at the head of put's first loop: i symbols were gone, node b was reached. -/
def PutI (T : St) (h : Hp) (r : Nat) (syms : List Str) (lvs : List Int) (s : Nat × Hp × Nat) (T1 : St) : Prop :=
  s.1 ≤ syms.length ∧ WF s.2.1 r T1.n ∧ Ag T1 s.2.1 ∧ reach s.2.1 r (syms.take s.1) = some s.2.2 ∧ (∀ π, semH s.2.1 r π = if π <+: syms.take s.1 then some ((semH h r π).getD []) else semH h r π) ∧ Fra T h T1 s.2.1 ∧
    T1.m (T.nm 0) = some (.row 33 2 [sl syms, sl lvs]) ∧ s.2.1 (T.nm 0) = none
theorem kid_at {h1 : Hp} {b q : Nat} {l : Option (Nat × Nat)} {es : List (Str × Nat)} {s : Str} (hb : h1 b = some (.nd (some q) l)) (hq : h1 q = some (.mpc es)) : kidH h1 b s = kid es s := by
  unfold kidH; rw [hb]; simp only [hq]
theorem putI_new {T T1 T3 : St} {h h1 h3 : Hp} {r i b b' : Nat} {syms : List Str} {lvs : List Int} (hI : PutI T h r syms lvs (i, h1, b) T1) (hT1 : Clean T1) (hil : i < syms.length) (w3 : WF h3 r T3.n) (hA3 : Ag T3 h3)
    (hr3 : ∀ π, reach h3 r π = if π = syms.take i ++ [nth syms i] then some b' else reach h1 r π) (hl3 : ∀ c, lvH h3 c = lvH h1 c) (hk : kidH h1 b (nth syms i) = none) (hbn : h1 b' = none) (hF : Fra T1 h1 T3 h3) : PutI T h r syms lvs (i + 1, h3, b') T3 := by
  obtain ⟨hi, w1, hA1, hre, hse, hfr, hx, hx2⟩ := hI
  dsimp only at hi w1 hA1 hre hse hfr hx hx2
  have ht : syms.take (i + 1) = syms.take i ++ [nth syms i] := by rw [List.take_add_one, nth_get? hil]; rfl
  have hxn : T.nm 0 < T1.n := (hT1 _ _ hx).1
  refine ⟨hil, w3, hA3, by dsimp only; rw [ht, hr3, if_pos rfl], ?_, hfr.trans hF, by rw [(hF.2 _ hxn hx2).1]; exact hx, (hF.2 _ hxn hx2).2⟩
  intro π
  dsimp only
  rw [ht]
  unfold semH
  rw [hr3]
  have hno : reach h1 r (syms.take i ++ [nth syms i]) = none := by rw [reach_snoc, hre]; exact hk
  by_cases e : π = syms.take i ++ [nth syms i]
  · rw [if_pos e, if_pos (by rw [e]; exact List.prefix_refl _)]
    have h1' := hse π
    unfold semH at h1'
    rw [e, hno, if_neg (by
      intro hp
      have := hp.length_le
      simp at this; omega)] at h1'
    rw [Option.map_none] at h1'
    have hlb : lvH h1 b' = [] := by unfold lvH; rw [hbn]
    rw [e, ← h1']
    simp only [Option.map_some, hl3, hlb, Option.getD_none]
  · rw [if_neg e, show lvH h3 = lvH h1 from funext hl3]
    have h1' := hse π
    unfold semH at h1'
    rw [h1']
    have : (π <+: syms.take i ++ [nth syms i]) ↔ π <+: syms.take i := by
      rw [List.prefix_concat_iff]
      exact ⟨fun h => h.resolve_left e, .inr⟩
    simp only [this]
theorem putI_old {T T1 : St} {h h1 : Hp} {r i b c : Nat} {syms : List Str} {lvs : List Int} (hI : PutI T h r syms lvs (i, h1, b) T1) (hil : i < syms.length) (hk : kidH h1 b (nth syms i) = some c) : PutI T h r syms lvs (i + 1, h1, c) T1 := by
  obtain ⟨hi, w1, hA1, hre, hse, hfr, hx, hx2⟩ := hI
  dsimp only at hi w1 hA1 hre hse hfr hx hx2
  have ht : syms.take (i + 1) = syms.take i ++ [nth syms i] := by rw [List.take_add_one, nth_get? hil]; rfl
  have hyes : reach h1 r (syms.take i ++ [nth syms i]) = some c := by rw [reach_snoc, hre]; exact hk
  refine ⟨hil, w1, hA1, by dsimp only; rw [ht, hyes], ?_, hfr, hx, hx2⟩
  intro π
  dsimp only
  rw [ht]
  by_cases e : π = syms.take i ++ [nth syms i]
  · rw [if_pos (by rw [e]; exact List.prefix_refl _)]
    have h1' := hse π
    rw [if_neg (by
      intro hp
      have := hp.length_le
      rw [e] at this
      simp at this; omega)] at h1'
    have h2 : semH h1 r π = some (lvH h1 c) := by unfold semH; rw [e, hyes]; rfl
    rw [← h1', h2]; rfl
  · have h1' := hse π
    rw [h1']
    have : (π <+: syms.take i ++ [nth syms i]) ↔ π <+: syms.take i := by
      rw [List.prefix_concat_iff]
      exact ⟨fun h => h.resolve_left e, .inr⟩
    simp only [this]
/-- What holds at the head of put's second loop: j levels were taken. -/
def LvI (T1 : St) (h1 : Hp) (r b v : Nat) (m : Option Nat) (lvs : List Int) (s : Nat × Hp) (T4 : St) : Prop :=
  s.1 ≤ lvs.length ∧ WF s.2 r T4.n ∧ Ag T4 s.2 ∧ s.2 b = some (.nd m (some (v, lvs.length))) ∧ s.2 v = some (.lvc (lvs.take s.1 ++ List.replicate (lvs.length - s.1) 0)) ∧ (∀ c x, kidH s.2 c x = kidH h1 c x) ∧
    (∀ c, lvH s.2 c = if c = b then lvs.take s.1 ++ List.replicate (lvs.length - s.1) 0 else lvH h1 c) ∧ Fra T1 h1 T4 s.2
theorem nm_ne (T : St) {a j : Nat} (h : a < T.n) : T.nm j ≠ a := by simp only [St.nm]; omega
/-- (*ablaut/hyph.node).put: 2 parameters, 0 captured -/
def s75 : SC := .seq (.reg [o1 3 (.box 33 2 (.t 1))])
  (.seq (.seq (.reg [o1 8 (.faddr 0 (.t 3)),
     o1 9 (.load none (.t 8)),
     o1 10 (.lenL (.t 9)),
     o1 11 (.mv (cI 0))])
    (.block 0 (.loop (.seq (.reg [o1 12 (.bin .lss (.t 11) (.t 10))])
       (.seq (.cond (.t 12) (.skip) (.exit 0))
        (.seq (.block 1 (.seq (.reg [o1 13 (.iaddr 1 (.t 9) (.t 11)),
            o1 14 (.load none (.t 13)),
            o1 5 (.mv (.t 14))])
           (.seq (.seq (.reg [o1 15 (.mv (.t 0)),
              o1 16 (.nilck (.t 15)),
              o1 17 (.faddr 0 (.t 16)),
              o1 18 (.load none (.t 17)),
              o1 19 (.eq false .map (.t 18) (.c (.map none)))])
             (.cond (.t 19) (.reg [o1 20 (.mv (.t 0)),
               o1 21 (.mkmap),
               o1 22 (.nilck (.t 20)),
               o1 23 (.faddr 0 (.t 22)),
               o0 (.store 1 (.t 23) (.t 21))]) (.skip)))
            (.seq (.seq (.reg [o1 24 (.mv (.t 0)),
               o1 25 (.nilck (.t 24)),
               o1 26 (.faddr 0 (.t 25)),
               o1 27 (.load none (.t 26)),
               o1 28 (.mv (.t 5)),
               o1 29 (.look .str (.pointer none) false (.t 27) (.t 28)),
               o1 30 (.eq false .ptr (.t 29) (.c (.pointer none)))])
              (.cond (.t 30) (.reg [o1 31 (.mv (.t 0)),
                o1 32 (.nilck (.t 31)),
                o1 33 (.faddr 0 (.t 32)),
                o1 34 (.load none (.t 33)),
                o1 35 (.mv (.t 5)),
                o1 36 (.build [(.map none), (.slice none 0 0)] []),
                o1 37 (.box 93 2 (.t 36)),
                o0 (.mupd .str (.t 34) (.t 35) (.t 37))]) (.skip)))
             (.reg [o1 38 (.mv (.t 0)),
              o1 39 (.nilck (.t 38)),
              o1 40 (.faddr 0 (.t 39)),
              o1 41 (.load none (.t 40)),
              o1 42 (.mv (.t 5)),
              o1 43 (.look .str (.pointer none) false (.t 41) (.t 42)),
              o1 0 (.mv (.t 43))])))))
         (.reg [o1 44 (.bin .add (.t 11) (cI 1)),
          o1 11 (.mv (.t 44))])))))))
   (.seq (.seq (.reg [o1 45 (.mv (.t 0)),
      o1 46 (.nilck (.t 45)),
      o1 47 (.faddr 1 (.t 46)),
      o1 48 (.load none (.t 47)),
      o1 49 (.eq false .slice (.t 48) (.c (.slice none 0 0)))])
     (.cond (.t 49) (.reg [o1 50 (.mv (.t 0)),
       o1 51 (.faddr 1 (.t 3)),
       o1 52 (.load none (.t 51)),
       o1 53 (.lenL (.t 52)),
       o1 54 (.mksl 3 1 8 [(.int .i64 0)] (.t 53) (.t 53)),
       o1 55 (.nilck (.t 50)),
       o1 56 (.faddr 1 (.t 55)),
       o0 (.store 1 (.t 56) (.t 54))]) (.skip)))
    (.seq (.reg [o1 57 (.faddr 1 (.t 3)),
      o1 58 (.load none (.t 57)),
      o1 59 (.lenL (.t 58)),
      o1 60 (.mv (cI 0))])
     (.block 2 (.loop (.seq (.reg [o1 61 (.bin .lss (.t 60) (.t 59))])
        (.seq (.cond (.t 61) (.skip) (.exit 2))
         (.seq (.block 3 (.seq (.reg [o1 62 (.mv (.t 60)),
             o1 63 (.iaddr 1 (.t 58) (.t 60)),
             o1 64 (.load none (.t 63)),
             o1 6 (.mv (.t 62)),
             o1 7 (.mv (.t 64))])
            (.regE [o1 65 (.mv (.t 0)),
             o1 66 (.nilck (.t 65)),
             o1 67 (.faddr 1 (.t 66)),
             o1 68 (.load none (.t 67)),
             o1 69 (.mv (.t 6)),
             o1 70 (.mv (.t 0)),
             o1 71 (.nilck (.t 70)),
             o1 72 (.faddr 1 (.t 71)),
             o1 73 (.load none (.t 72)),
             o1 74 (.mv (.t 6)),
             o1 75 (.iaddr 1 (.t 73) (.t 74)),
             o1 76 (.load none (.t 75)),
             o1 77 (.mv (.t 7)),
             o1 78 (.max (.t 76) (.t 77)),
             o1 79 (.iaddr 1 (.t 68) (.t 69)),
             o0 (.store 1 (.t 79) (.t 78))])))
          (.reg [o1 80 (.bin .add (.t 60) (cI 1)),
           o1 60 (.mv (.t 80))])))))))))
theorem s75_ok : lookF Try.prog 75 = some (s75, 81, []) := by kernel_rfl
set_option maxHeartbeats 1000000 in
theorem put_call {T : St} {K : AV → St → Prop} (hT : Clean T) {h : Hp} {r : Nat} (w : WF h r T.n) (hA : Ag T h) (p : Pat) (h1 : p.1.length ≤ 1000) (h2 : p.2.length ≤ 1000) (h3 : p.2 ≠ []) (hpos : ∀ x ∈ p.2, 0 ≤ x) (hlv : (semH h r p.1).getD [] = [])
    (hK : ∀ T' h', Clean T' → WF h' r T'.n → Ag T' h' → Fra T h T' h' → (∀ π, semH h' r π = putF p (semH h r) π) → K (.tup []) T') : callS P 75 [.ptr r 2 0, .agg [sl p.1, sl p.2]] T K () := by
  obtain ⟨syms, lvs⟩ := p
  dsimp only at *
  refine callT s75_ok (by simp) (cwp_sound _ _ _ _ ?_)
  rw [← stk_nil hT]
  simp (maxSteps := 900000) (disch := omega) only [s75, go_sem, Nat.reduceEqDiff, ↓reduceIte, reduceCtorEq, Nat.reduceAdd, Nat.reduceMul, Int.reduceToNat, List.reduceReplicate, Nat.reduceLeDiff, Nat.reduceLT, Int.reduceLT, Int.reduceLE, Int.reduceEq]
  repeat' (first | with_reducible refine inw ?_ | simp (maxSteps := 900000) (disch := omega) only [go_sem, Nat.reduceEqDiff, ↓reduceIte, reduceCtorEq, Nat.reduceAdd, Nat.reduceMul, Int.reduceToNat, List.reduceReplicate, Nat.reduceLeDiff, Nat.reduceLT, Int.reduceLT, Int.reduceLE, Int.reduceEq] | with_reducible refine pickB_f ?_ | with_reducible refine giv_intro fun _h => ?_ | with_reducible refine alt_intro ?_ fun _h => ?_ | with_reducible refine pickD_nil ?_ | (with_reducible refine brc (fun _h => ?_) fun _h => ?_) <;> first | (exfalso; omega) | simp only [decide_eq_false _h] | simp only [(_h : (_ : Bool) = _)] | simp only [decide_eq_true _h] | skip)
  refine loopA [3, 9, 10] (by simp only [go_sem, Nat.reduceEqDiff, ↓reduceIte, reduceCtorEq, Nat.reduceAdd, Nat.reduceMul, Int.reduceToNat, List.reduceReplicate, Nat.reduceLeDiff, Nat.reduceLT, Int.reduceLT, Int.reduceLE, Int.reduceEq]; try rfl) (fun (s : Nat × Hp × Nat) => [(0, AV.ptr s.2.2 2 0), (11, intA s.1)]) (fun s T1 => PutI T h r syms lvs s T1) (fun s => syms.length - s.1) (0, h, r) ?_ ?_
  · simp (maxSteps := 900000) (disch := omega) only [go_sem, Nat.reduceEqDiff, ↓reduceIte, reduceCtorEq, Nat.reduceAdd, Nat.reduceMul, Int.reduceToNat, List.reduceReplicate, Nat.reduceLeDiff, Nat.reduceLT, Int.reduceLT, Int.reduceLE, Int.reduceEq]
    have hsr : semH h r [] = some (lvH h r) := rfl
    refine ⟨Nat.zero_le _, w.mono (by simp [St.stk]), fun a c hc => (stk_m_old _ (w.lt _ _ hc)).trans (hA _ _ hc), rfl, fun π => ?_, ⟨by simp [St.stk], fun l' hl e => ⟨stk_m_old _ hl, e⟩⟩, stk_m_new _ _ 0, w.fresh (by simp [St.nm])⟩
    dsimp only
    by_cases e : π = []
    · rw [e, if_pos (List.nil_prefix), hsr]; rfl
    · rw [if_neg (by rw [List.take_zero, List.prefix_nil]; exact e)]
  rintro ⟨i, h1, b⟩ T1 hT1 hn1 hI
  have hI2 := hI
  obtain ⟨hi, w1, hA1, hre, hse, hfr, hx, hx2⟩ := hI2
  dsimp only at hi w1 hA1 hre hse hfr hx hx2
  rw [← stk_nil hT1]
  by_cases hil : i < syms.length
  · obtain ⟨m, l, hb⟩ := w1.node _ _ hre
    have hbn := w1.lt _ _ hb
    have hr0 := row_of hA1 hb
    cases m with
    | none =>
      have hn2 : (T1.set b (.row 93 2 [.mp (T1.nm 0), ndL l])).n = T1.n := rfl
      have hr2 : (T1.set b (.row 93 2 [.mp (T1.nm 0), ndL l])).row? b 2 = some (93, 2, [.mp (T1.nm 0), ndL l]) := by unfold St.row?; rw [St.set_same]; rfl
      repeat' (first | with_reducible refine inw ?_ | simp (maxSteps := 900000) (disch := omega) only [go_sem, Nat.reduceEqDiff, ↓reduceIte, reduceCtorEq, Nat.reduceAdd, Nat.reduceMul, Int.reduceToNat, List.reduceReplicate, Nat.reduceLeDiff, Nat.reduceLT, Int.reduceLT, Int.reduceLE, Int.reduceEq, row_base, set_base, map_base, hr0, hr2, ndM, mapOf_q, findE_nil, keysOk_nil, getZ_p, getZ_pn, updE_nil, one_mn, findE_one, keysOk_one] | with_reducible refine pickB_f ?_ | with_reducible refine giv_intro fun _h => ?_ | with_reducible refine alt_intro ?_ fun _h => ?_ | with_reducible refine pickD_nil ?_ | (with_reducible refine brc (fun _h => ?_) fun _h => ?_) <;> first | (exfalso; omega) | simp only [decide_eq_false _h] | simp only [(_h : (_ : Bool) = _)] | simp only [decide_eq_true _h] | skip)
      all_goals skip
      intro hT3 _
      have w2 := newMap (q := T1.nm 0) w1 hb (by simp [St.nm])
      have hkn : kidH h1 b (nth syms i) = none := by unfold kidH; rw [hb]
      have hb1 : h1 (T1.nm 1) = none := w1.fresh (by simp [St.nm])
      have hbq : b ≠ T1.nm 0 := Ne.symm (nm_ne T1 hbn)
      have hre2 : reach ((h1.put (T1.nm 0) (.mpc [])).put b (.nd (some (T1.nm 0)) l)) r (syms.take i) = some b := by rw [reach_same w2.2.1]; exact hre
      have w3 := addKid (s := nth syms i) (b := T1.nm 1) (es := []) w2.1 (Hp.put_same _ _ _) (by rw [Hp.put_ne _ _ (Ne.symm hbq), Hp.put_same]) rfl (by simp [St.nm]) hre2
      refine ⟨(i + 1, _, T1.nm 1), ⟨by dsimp only; omega, putI_new (h3 := (((h1.put (T1.nm 0) (.mpc [])).put b (.nd (some (T1.nm 0)) l)).put (T1.nm 1) (.nd none none)).put (T1.nm 0) (.mpc ([] ++ [(nth syms i, T1.nm 1)]))) hI hT1 hil w3.1 ?_ ?_ ?_ hkn hb1 ?_⟩, ⟨rfl, rfl⟩, ?_, ?_⟩
      · intro a c hc
        by_cases e0 : a = T1.nm 0
        · subst e0
          rw [Hp.put_same] at hc; cases hc
          exact m_new _ _ _ _ 0
        rw [Hp.put_ne _ _ e0] at hc
        by_cases e1 : a = T1.nm 1
        · subst e1
          rw [Hp.put_same] at hc; cases hc
          exact m_new _ _ _ _ 1
        rw [Hp.put_ne _ _ e1] at hc
        by_cases e2 : a = b
        · subst e2
          rw [Hp.put_same] at hc; cases hc
          exact m_same _ _ hbn
        rw [Hp.put_ne _ _ e2, Hp.put_ne _ _ e0] at hc
        exact (m_old _ _ (w1.lt _ _ hc) e2).trans (hA1 _ _ hc)
      · intro π
        rw [w3.2.2.2 π, reach_same w2.2.1]
      · intro c
        rw [w3.2.2.1, w2.2.2]
      · refine ⟨by simp [St.stk, St.set], fun l' hl e => ?_⟩
        have e2 : l' ≠ b := fun e2 => by rw [e2, hb] at e; cases e
        refine ⟨m_old _ _ hl e2, ?_⟩
        rw [Hp.put_ne _ _ (Ne.symm (nm_ne T1 hl)), Hp.put_ne _ _ (Ne.symm (nm_ne T1 hl)), Hp.put_ne _ _ e2, Hp.put_ne _ _ (Ne.symm (nm_ne T1 hl)), e]
      · simp only [St.nm]; have := (hT1 _ _ hx).1; simp only [St.nm] at this; omega
      · simp only [St.nm]; omega
    | some q =>
      obtain ⟨es, hq⟩ := w1.mp _ _ _ hb
      have hqn := w1.lt _ _ hq
      have hkk := kid_at (s := nth syms i) hb hq
      have hmq : T1.map? q = some (esC es) := by unfold St.map?; rw [hA1 _ _ hq]; rfl
      have hfe := findE_es (nth syms i) es
      have hko := keysOk_es es
      cases hke : kid es (nth syms i) with
      | some c =>
        rw [hke] at hfe hkk
        obtain ⟨mc, lc, hc⟩ := w1.kids _ _ _ hkk
        have hcn := w1.lt _ _ hc
        have hrc := row_of hA1 hc
        repeat' (first | with_reducible refine inw ?_ | simp (maxSteps := 900000) (disch := omega) only [go_sem, Nat.reduceEqDiff, ↓reduceIte, reduceCtorEq, Nat.reduceAdd, Nat.reduceMul, Int.reduceToNat, List.reduceReplicate, Nat.reduceLeDiff, Nat.reduceLT, Int.reduceLT, Int.reduceLE, Int.reduceEq, row_base, set_base, map_base, hr0, hrc, ndM, mapOf_q, hmq, hfe, hko, getZ_p, getZ_pn, one_mn, Option.map_some] | with_reducible refine pickB_f ?_ | with_reducible refine giv_intro fun _h => ?_ | with_reducible refine alt_intro ?_ fun _h => ?_ | with_reducible refine pickD_nil ?_ | (with_reducible refine brc (fun _h => ?_) fun _h => ?_) <;> first | (exfalso; omega) | simp only [decide_eq_false _h] | simp only [(_h : (_ : Bool) = _)] | simp only [decide_eq_true _h] | skip)
        rw [stk_nil hT1]
        intro _
        refine ⟨(i + 1, h1, c), ⟨by dsimp only; omega, putI_old hI hil hkk⟩, ⟨rfl, rfl⟩, ?_, ?_⟩
        · exact (hT1 _ _ hx).1
        · exact hcn
      | none =>
        rw [hke] at hfe hkk
        have hup := updE_es (nth syms i) (T1.nm 0) es hke
        have hn2 : (T1.set q (.map (esC (es ++ [(nth syms i, T1.nm 0)])))).n = T1.n := rfl
        have hqb : q ≠ b := fun e => by rw [e, hb] at hq; cases hq
        have hr2 : (T1.set q (.map (esC (es ++ [(nth syms i, T1.nm 0)])))).row? b 2 = some (93, 2, [.mp q, ndL l]) := by
          unfold St.row?; rw [St.set_ne _ _ (Ne.symm hqb)]; exact hr0
        have hm2 : (T1.set q (.map (esC (es ++ [(nth syms i, T1.nm 0)])))).map? q = some (esC (es ++ [(nth syms i, T1.nm 0)])) := by unfold St.map?; rw [St.set_same]
        have hfe2 : findE (esC (es ++ [(nth syms i, T1.nm 0)])) (.string (nth syms i)) = some (.ptr (T1.nm 0) 2 0) := by rw [findE_es, kid_snoc hke, if_pos rfl]; rfl
        have hko2 := keysOk_es (es ++ [(nth syms i, T1.nm 0)])
        repeat' (first | with_reducible refine inw ?_ | simp (maxSteps := 900000) (disch := omega) only [go_sem, Nat.reduceEqDiff, ↓reduceIte, reduceCtorEq, Nat.reduceAdd, Nat.reduceMul, Int.reduceToNat, List.reduceReplicate, Nat.reduceLeDiff, Nat.reduceLT, Int.reduceLT, Int.reduceLE, Int.reduceEq, row_base, set_base, map_base, hr0, hr2, ndM, mapOf_q, hmq, hm2, hfe, hfe2, hko, hko2, hup, getZ_p, getZ_pn, one_mn, Option.map_none] | with_reducible refine pickB_f ?_ | with_reducible refine giv_intro fun _h => ?_ | with_reducible refine alt_intro ?_ fun _h => ?_ | with_reducible refine pickD_nil ?_ | (with_reducible refine brc (fun _h => ?_) fun _h => ?_) <;> first | (exfalso; omega) | simp only [decide_eq_false _h] | simp only [(_h : (_ : Bool) = _)] | simp only [decide_eq_true _h] | skip)
        intro hT3 _
        have w3 := addKid (s := nth syms i) (b := T1.nm 0) w1 hb hq hke (by simp [St.nm]) hre
        have hb1 : h1 (T1.nm 0) = none := w1.fresh (by simp [St.nm])
        refine ⟨(i + 1, _, T1.nm 0), ⟨by dsimp only; omega, putI_new (h3 := (h1.put (T1.nm 0) (.nd none none)).put q (.mpc (es ++ [(nth syms i, T1.nm 0)]))) hI hT1 hil w3.1 ?_ w3.2.2.2 w3.2.2.1 hkk hb1 ?_⟩, ⟨rfl, rfl⟩, ?_, ?_⟩
        · intro a c hc
          by_cases e0 : a = q
          · subst e0
            rw [Hp.put_same] at hc; cases hc
            exact m_same _ _ hqn
          rw [Hp.put_ne _ _ e0] at hc
          by_cases e1 : a = T1.nm 0
          · subst e1
            rw [Hp.put_same] at hc; cases hc
            exact m_new _ _ _ _ 0
          rw [Hp.put_ne _ _ e1] at hc
          exact (m_old _ _ (w1.lt _ _ hc) e0).trans (hA1 _ _ hc)
        · refine ⟨by simp [St.stk, St.set], fun l' hl e => ?_⟩
          have e2 : l' ≠ q := fun e2 => by rw [e2, hq] at e; cases e
          refine ⟨m_old _ _ hl e2, ?_⟩
          rw [Hp.put_ne _ _ e2, Hp.put_ne _ _ (Ne.symm (nm_ne T1 hl)), e]
        · simp only [St.nm]; have := (hT1 _ _ hx).1; simp only [St.nm] at this; omega
        · simp only [St.nm]; omega
  · obtain rfl : i = syms.length := by omega
    rw [List.take_length] at hre
    obtain ⟨m, l, hb⟩ := w1.node _ _ hre
    have hbn := w1.lt _ _ hb
    have hr0 := row_of hA1 hb
    have hxn := (hT1 _ _ hx).1
    have hrx : T1.row? (T.nm 0) 2 = some (33, 2, [sl syms, sl lvs]) := by unfold St.row?; rw [hx]; rfl
    have hsy : lvH h1 b = [] := by
      have := hse syms
      rw [List.take_length, if_pos (List.prefix_refl _), hlv] at this
      unfold semH at this
      rw [hre] at this
      simpa using this
    obtain rfl : l = none := by
      cases l with
      | none => rfl
      | some p =>
        obtain ⟨v, k⟩ := p
        obtain ⟨x, hx1, _, hx3⟩ := w1.lv _ _ _ _ hb
        unfold lvH at hsy
        rw [hb] at hsy
        simp only [hx1] at hsy
        exact absurd hsy hx3
    have hn2 : (T1.set b (.row 93 2 [ndM m, .ref (T1.nm 0) lvs.length 0 lvs.length])).n = T1.n := rfl
    have hxb : T.nm 0 ≠ b := fun e => by rw [e, hb] at hx2; cases hx2
    have hrx2 : (T1.set b (.row 93 2 [ndM m, .ref (T1.nm 0) lvs.length 0 lvs.length])).row? (T.nm 0) 2 = some (33, 2, [sl syms, sl lvs]) := by
      unfold St.row?; rw [St.set_ne _ _ hxb, hx]; rfl
    repeat' (first | with_reducible refine inw ?_ | simp (maxSteps := 900000) (disch := omega) only [go_sem, Nat.reduceEqDiff, ↓reduceIte, reduceCtorEq, Nat.reduceAdd, Nat.reduceMul, Int.reduceToNat, List.reduceReplicate, Nat.reduceLeDiff, Nat.reduceLT, Int.reduceLT, Int.reduceLE, Int.reduceEq, row_base, set_base, map_base, hr0, hrx, hrx2, ndL] | with_reducible refine pickB_f ?_ | with_reducible refine giv_intro fun _h => ?_ | with_reducible refine alt_intro ?_ fun _h => ?_ | with_reducible refine pickD_nil ?_ | (with_reducible refine brc (fun _h => ?_) fun _h => ?_) <;> first | (exfalso; omega) | simp only [decide_eq_false _h] | simp only [(_h : (_ : Bool) = _)] | simp only [decide_eq_true _h] | skip)
    refine loopA [0, 58, 59] (by simp only [go_sem, Nat.reduceEqDiff, ↓reduceIte, reduceCtorEq, Nat.reduceAdd, Nat.reduceMul, Int.reduceToNat, List.reduceReplicate, Nat.reduceLeDiff, Nat.reduceLT, Int.reduceLT, Int.reduceLE, Int.reduceEq]; try rfl) (fun (s : Nat × Hp) => [(60, intA s.1)]) (fun s T4 => LvI T1 h1 r b (T1.nm 0) m lvs s T4) (fun s => lvs.length - s.1) (0, (h1.put (T1.nm 0) (.lvc (List.replicate lvs.length 0))).put b (.nd m (some (T1.nm 0, lvs.length)))) ?_ ?_
    · simp (maxSteps := 900000) (disch := omega) only [go_sem, Nat.reduceEqDiff, ↓reduceIte, reduceCtorEq, Nat.reduceAdd, Nat.reduceMul, Int.reduceToNat, List.reduceReplicate, Nat.reduceLeDiff, Nat.reduceLT, Int.reduceLT, Int.reduceLE, Int.reduceEq]
      have nl := newLv (v := T1.nm 0) (x := List.replicate lvs.length (0 : Int)) w1 hb (by simp [St.nm]) (fun e => by
        have := congrArg List.length e
        rw [List.length_replicate] at this
        exact h3 (List.eq_nil_of_length_eq_zero this))
      rw [List.length_replicate] at nl
      have hbv : T1.nm 0 ≠ b := nm_ne T1 hbn
      refine ⟨Nat.zero_le _, nl.1, ?_, Hp.put_same _ _ _, ?_, nl.2.1, ?_, ?_⟩
      · intro a c hc
        dsimp only at hc
        by_cases e0 : a = b
        · subst e0
          rw [Hp.put_same] at hc; cases hc
          exact m_same _ _ hbn
        rw [Hp.put_ne _ _ e0] at hc
        by_cases e1 : a = T1.nm 0
        · subst e1
          rw [Hp.put_same] at hc; cases hc
          exact m_new _ _ _ _ 0
        rw [Hp.put_ne _ _ e1] at hc
        exact (m_old _ _ (w1.lt _ _ hc) e0).trans (hA1 _ _ hc)
      · dsimp only; rw [Hp.put_ne _ _ hbv, Hp.put_same, List.take_zero, List.nil_append, Nat.sub_zero]
      · intro c; dsimp only; rw [nl.2.2, List.take_zero, List.nil_append, Nat.sub_zero]
      · refine ⟨by simp [St.stk, St.set], fun l' hl e => ?_⟩
        have e2 : l' ≠ b := fun e2 => by rw [e2, hb] at e; cases e
        dsimp only
        exact ⟨m_old _ _ hl e2, by rw [Hp.put_ne _ _ e2, Hp.put_ne _ _ (Ne.symm (nm_ne T1 hl)), e]⟩
    rintro ⟨j, h4⟩ T4 hT4 hn4 hJ
    have hJ2 := hJ
    obtain ⟨hj, w4, hA4, hb4, hv4, hk4, hl4, hf4⟩ := hJ2
    dsimp only at hj w4 hA4 hb4 hv4 hk4 hl4 hf4
    have hbn4 := w4.lt _ _ hb4
    have hvn4 := w4.lt _ _ hv4
    rw [← stk_nil hT4]
    have hr4 := row_of hA4 hb4
    have hvr : T4.row? (T1.nm 0) lvs.length = some (3, 1, cellsL (lvs.take j ++ List.replicate (lvs.length - j) 0)) := by
      have hlen : (cellsL (lvs.take j ++ List.replicate (lvs.length - j) (0 : Int))).length = lvs.length := by
        rw [cellsL_len, Nat.mul_one, List.length_append, List.length_take, List.length_replicate]; omega
      unfold St.row?; rw [hA4 _ _ hv4]; simp only [obH, hlen, if_true]
    have hbb : b < T4.nm 0 := by simp only [St.nm]; omega
    have hvv : T1.nm 0 < T4.nm 0 := by simp only [St.nm] at hvn4 ⊢; omega
    by_cases hjl : j < lvs.length
    · have hl1 : (lvs.take j).length = j := by rw [List.length_take]; omega
      have hc0 : (cellsL (lvs.take j ++ List.replicate (lvs.length - j) (0 : Int)))[j]? = some (intA 0) := by
        rw [← cellsL_app, List.getElem?_append_right (by rw [cellsL_len, hl1]; omega), cellsL_len, hl1, Nat.mul_one, Nat.sub_self]
        obtain ⟨q, hq⟩ : ∃ q, lvs.length - j = q + 1 := ⟨lvs.length - j - 1, by omega⟩
        rw [hq, List.replicate_succ]; rfl
      have hmx : max 0 (nth lvs j) = nth lvs j := Int.max_eq_right (hpos _ (nth_mem hjl))
      have hYl : (lvs.take j ++ List.replicate (lvs.length - j) (0 : Int)).length = lvs.length := by rw [List.length_append, hl1, List.length_replicate]; omega
      have hYp : (lvs.take j ++ List.replicate (lvs.length - j) (0 : Int)).take j ++ [nth lvs j] ++ (lvs.take j ++ List.replicate (lvs.length - j) (0 : Int)).drop (j + 1) = lvs.take (j + 1) ++ List.replicate (lvs.length - (j + 1)) (0 : Int) := by
        obtain ⟨q, hq⟩ : ∃ q, lvs.length - j = q + 1 := ⟨lvs.length - j - 1, by omega⟩
        have hq2 : lvs.length - (j + 1) = q := by omega
        have hd : (lvs.take j ++ List.replicate (q + 1) (0 : Int)).drop (j + 1) = List.replicate q 0 := by
          rw [List.drop_append, List.drop_of_length_le (by omega), hl1, List.nil_append, show j + 1 - j = 1 by omega, List.replicate_succ]; rfl
        rw [hq, hq2, List.take_left' hl1, hd, List.take_add_one, nth_get? hjl]; rfl
      have hYl2 : (lvs.take (j + 1) ++ List.replicate (lvs.length - (j + 1)) (0 : Int)).length = lvs.length := by rw [List.length_append, List.length_take, List.length_replicate]; omega
      generalize lvs.take j ++ List.replicate (lvs.length - j) (0 : Int) = Y at *
      generalize hY2 : lvs.take (j + 1) ++ List.replicate (lvs.length - (j + 1)) (0 : Int) = Y2 at *
      repeat' (first | with_reducible refine inw ?_ | simp (maxSteps := 900000) (disch := omega) only [go_sem, Nat.reduceEqDiff, ↓reduceIte, reduceCtorEq, Nat.reduceAdd, Nat.reduceMul, Int.reduceToNat, List.reduceReplicate, Nat.reduceLeDiff, Nat.reduceLT, Int.reduceLT, Int.reduceLE, Int.reduceEq, row_base, set_base, map_base, hr4, hvr, ndL, hbb, hvv, hc0, hmx, hYl] | with_reducible refine pickB_f ?_ | with_reducible refine giv_intro fun _h => ?_ | with_reducible refine alt_intro ?_ fun _h => ?_ | with_reducible refine pickD_nil ?_ | (with_reducible refine brc (fun _h => ?_) fun _h => ?_) <;> first | (exfalso; omega) | simp only [decide_eq_false _h] | simp only [(_h : (_ : Bool) = _)] | simp only [decide_eq_true _h] | skip)
      rw [hYp]
      have tl := turnLv (y := Y2) w4 hb4 hv4 (by omega)
      intro hT5
      have hvb : b ≠ T1.nm 0 := fun e => by rw [e, hv4] at hb4; cases hb4
      refine ⟨(j + 1, h4.put (T1.nm 0) (.lvc Y2)), ⟨by dsimp only; omega, hjl, tl.1, ?_, ?_, ?_, ?_, ?_, ?_⟩, rfl⟩
      · intro a c hc
        dsimp only at hc
        by_cases e0 : a = T1.nm 0
        · subst e0
          rw [Hp.put_same] at hc; cases hc
          exact m_same _ _ hvn4
        rw [Hp.put_ne _ _ e0] at hc
        exact (m_old _ _ (w4.lt _ _ hc) e0).trans (hA4 _ _ hc)
      · dsimp only; rw [Hp.put_ne _ _ hvb]; exact hb4
      · dsimp only; rw [Hp.put_same, hY2]
      · intro c x; dsimp only; rw [tl.2.1, hk4]
      · intro c
        dsimp only
        rw [tl.2.2, hY2]
        by_cases e : c = b
        · rw [if_pos e, if_pos e]
        · rw [if_neg e, if_neg e, hl4, if_neg e]
      · refine ⟨hf4.1, fun l' hl e => ?_⟩
        obtain ⟨g1, g2⟩ := hf4.2 l' hl e
        have e2 : l' ≠ T1.nm 0 := fun e2 => by rw [e2, hv4] at g2; cases g2
        dsimp only
        exact ⟨(m_old _ _ (Nat.lt_of_lt_of_le hl hf4.1) e2).trans g1, by rw [Hp.put_ne _ _ e2]; exact g2⟩
    · repeat' (first | with_reducible refine inw ?_ | simp (maxSteps := 900000) (disch := omega) only [go_sem, Nat.reduceEqDiff, ↓reduceIte, reduceCtorEq, Nat.reduceAdd, Nat.reduceMul, Int.reduceToNat, List.reduceReplicate, Nat.reduceLeDiff, Nat.reduceLT, Int.reduceLT, Int.reduceLE, Int.reduceEq, row_base, set_base, map_base, hr4, hvr, ndL] | with_reducible refine pickB_f ?_ | with_reducible refine giv_intro fun _h => ?_ | with_reducible refine alt_intro ?_ fun _h => ?_ | with_reducible refine pickD_nil ?_ | (with_reducible refine brc (fun _h => ?_) fun _h => ?_) <;> first | (exfalso; omega) | simp only [decide_eq_false _h] | simp only [(_h : (_ : Bool) = _)] | simp only [decide_eq_true _h] | skip)
      rw [stk_nil hT4]
      intro _ _
      have hje : lvs.length - j = 0 := by omega
      rw [hje, List.replicate_zero, List.append_nil, List.take_of_length_le (by omega)] at hl4
      refine hK T4 h4 hT4 w4 hA4 (hfr.trans hf4) fun π => ?_
      have h1' := hse π
      rw [List.take_length] at h1'
      unfold semH at h1' ⊢
      rw [reach_same hk4]
      unfold putF
      by_cases e : π = syms
      · rw [e, hre, if_pos rfl]
        simp only [Option.map_some, hl4, if_true]
      · rw [if_neg e, ← h1']
        cases hc : reach h1 r π with
        | none => rfl
        | some c =>
          have : c ≠ b := fun e2 => e (w1.ri _ _ _ hc (by rw [e2]; exact hre))
          simp only [Option.map_some, hl4, if_neg this]
end Go.Proofs.Ytfihpbeihlpfcaa.Ev
