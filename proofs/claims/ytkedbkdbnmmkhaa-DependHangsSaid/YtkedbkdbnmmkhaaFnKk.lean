/- The way back is the way turned round: the law DependTurns. -/
import Derived.Test.YtkedbkdbnmmkhaaFnKj
set_option linter.unusedVariables false
set_option linter.unusedSimpArgs false
namespace Go.Proofs.Ytkedbkdbnmmkhaa.Ev
open Go Go.Proofs

theorem hg_trans {l : List Hung} {x y z : Int} (h : Hg l x y) (k : Hg l y z) : Hg l x z := by
  obtain ⟨a, _, rfl⟩ := h
  obtain ⟨b, k1, k2⟩ := k
  exact ⟨a + b, by rw [it_add]; exact k1, by rw [it_add]; exact k2⟩
theorem hg_nn {l : List Hung} {x y : Int} (h : Hg l x y) : 0 ≤ x ∧ 0 ≤ y := by
  obtain ⟨a, h1, h2⟩ := h
  refine ⟨?_, by omega⟩
  rcases Int.lt_or_le x 0 with h0 | h0
  · rw [it_neg l h0] at h1; omega
  · exact h0
theorem hg_anti {l : List Hung} (he : Ends l) {x y : Int} (hx : x < l.length) (h : Hg l x y) (k : Hg l y x) : x = y := by
  obtain ⟨a, h1, h2⟩ := h
  obtain ⟨b, k1, k2⟩ := k
  have h0 := (hg_nn ⟨a, h1, h2⟩).1
  cases a with
  | zero => exact h2
  | succ a =>
    refine (ring_no he (n := a + 1 + b) (by omega) h0 hx ?_).elim
    rw [it_add, h2]; exact k2
/-- Where the way up ends: the first node on which both hang. -/
theorem upF_end {l : List Hung} (hl : Hds l) (he : Ends l) {k : Int} (hk : k < l.length) : ∀ (n : Nat) (x : Int), x < l.length → it l n x < 0 →
    ((upF l k n x).2 < 0 → ∀ y, Hg l x y → Hg l k y → False) ∧ (0 ≤ (upF l k n x).2 → Hg l x (upF l k n x).2 ∧ Hg l k (upF l k n x).2 ∧ (upF l k n x).1 = downF l (upF l k n x).2 n x ∧ ∀ y, Hg l x y → Hg l k y → Hg l (upF l k n x).2 y)
  | 0, x, hx, hn => by
    have hx0 : x < 0 := hn
    exact ⟨fun _ y h _ => hg_neg hx0 h, fun h => absurd (show 0 ≤ x from h) (by omega)⟩
  | n + 1, x, hx, hn => by
    rw [upF]
    by_cases hs : x < 0 ∨ hgB l k x = true
    · rw [if_pos hs]
      dsimp only
      rcases Int.lt_or_le x 0 with h0 | h0
      · exact ⟨fun _ y h _ => hg_neg h0 h, fun h => by omega⟩
      · have hg := (hgB_iff hl he hk).1 (hs.resolve_left (by omega))
        exact ⟨fun h => by omega, fun _ => ⟨hg_self h0, hg, by rw [downF_stop], fun y h _ => h⟩⟩
    · rw [if_neg hs]
      dsimp only
      rw [not_or] at hs
      have h0 : 0 ≤ x := by omega
      have hng : ¬Hg l k x := fun h => hs.2 ((hgB_iff hl he hk).2 h)
      obtain ⟨q1, q2⟩ := upF_end hl he hk n (hd l x) (hd_lt hl hx) hn
      have step : ∀ y, Hg l x y → Hg l k y → Hg l (hd l x) y := fun y h1 h2 => (hg_step h0 (fun e => hng (e ▸ h2))).1 h1
      refine ⟨fun h y h1 h2 => q1 h y (step y h1 h2) h2, fun h => ?_⟩
      obtain ⟨p1, p2, p3, p4⟩ := q2 h
      have hne : x ≠ (upF l k n (hd l x)).2 := fun e => hng (e ▸ p2)
      refine ⟨(hg_step h0 hne).2 p1, p2, ?_, fun y h1 h2 => p4 y (step y h1 h2) h2⟩
      rw [downF, if_neg hne, ← p3]
theorem wayU_end {l : List Hung} (hl : Hds l) (he : Ends l) {i k : Int} (hi : i < l.length) (hk : k < l.length) :
    ((wayU l i k).2 < 0 → ∀ y, Hg l i y → Hg l k y → False) ∧ (0 ≤ (wayU l i k).2 → Hg l i (wayU l i k).2 ∧ Hg l k (wayU l i k).2 ∧ (wayU l i k).1 = wayD l (wayU l i k).2 i ∧ ∀ y, Hg l i y → Hg l k y → Hg l (wayU l i k).2 y) :=
  upF_end hl he hk _ i hi (it_mono l (ends_len hl he hi) (by omega))
theorem hg_lt {l : List Hung} (hl : Hds l) {x y : Int} (hx : x < l.length) (h : Hg l x y) : y < l.length := by
  obtain ⟨a, _, rfl⟩ := h; exact it_lt hl a hx
theorem wayU_swap {l : List Hung} (hl : Hds l) (he : Ends l) {i k : Int} (hi : i < l.length) (hk : k < l.length) :
    ((wayU l i k).2 < 0 ∧ (wayU l k i).2 < 0) ∨ (0 ≤ (wayU l i k).2 ∧ (wayU l k i).2 = (wayU l i k).2) := by
  obtain ⟨a1, a2⟩ := wayU_end hl he hi hk
  obtain ⟨b1, b2⟩ := wayU_end hl he hk hi
  rcases Int.lt_or_le (wayU l i k).2 0 with h | h
  · rcases Int.lt_or_le (wayU l k i).2 0 with h' | h'
    · exact .inl ⟨h, h'⟩
    · obtain ⟨p1, p2, _⟩ := b2 h'
      exact (a1 h _ p2 p1).elim
  · obtain ⟨p1, p2, _, p4⟩ := a2 h
    rcases Int.lt_or_le (wayU l k i).2 0 with h' | h'
    · exact (b1 h' _ p2 p1).elim
    · obtain ⟨r1, r2, _, r4⟩ := b2 h'
      exact .inr ⟨h, hg_anti he (hg_lt hl hk r1) (r4 _ p2 p1) (p4 _ r2 r1)⟩

/-! ### steps along heads -/
def stepP (l : List Hung) (a b : Int) : Prop := hd l a = b ∨ hd l b = a
def chainP (R : Int → Int → Prop) : List Int → Prop
  | [] => True
  | [_] => True
  | a :: b :: t => R a b ∧ chainP R (b :: t)
theorem chainP_app {R : Int → Int → Prop} {x : Int} : ∀ {p q : List Int}, chainP R (p ++ [x]) → chainP R (x :: q) → chainP R (p ++ x :: q)
  | [], q, _, h => h
  | [a], q, h1, h => ⟨h1.1, h⟩
  | a :: b :: t, q, h1, h => ⟨h1.1, chainP_app (p := b :: t) h1.2 h⟩
theorem chainP_rev {R : Int → Int → Prop} (hs : ∀ a b, R a b → R b a) : ∀ {p : List Int}, chainP R p → chainP R p.reverse
  | [], _ => trivial
  | [a], _ => trivial
  | a :: b :: t, h => by
    have ih := chainP_rev hs (p := b :: t) h.2
    rw [List.reverse_cons] at ih
    rw [List.reverse_cons, List.reverse_cons, List.append_assoc]
    exact chainP_app ih ⟨hs _ _ h.1, trivial⟩
theorem chainP_nth {R : Int → Int → Prop} : ∀ {p : List Int} {n : Nat}, chainP R p → n + 1 < p.length → R (nth p n) (nth p (n + 1))
  | [], n, _, hn => by simp at hn
  | [a], n, _, hn => by simp at hn
  | a :: b :: t, 0, h, _ => h.1
  | a :: b :: t, n + 1, h, hn => by
    have := chainP_nth (p := b :: t) (n := n) h.2 (by simpa using hn)
    exact this
theorem downF_ok {l : List Hung} (hl : Hds l) {x : Int} : ∀ (n : Nat) (y : Int), y < l.length → Hg l y x → it l n y < 0 → chainP (stepP l) (downF l x n y ++ [x]) ∧ (∀ a ∈ downF l x n y, 0 ≤ a ∧ a < l.length) ∧ (downF l x n y ++ [x]).head? = some y
  | 0, y, hy, hg, hn => (hg_neg (show y < 0 from hn) hg).elim
  | n + 1, y, hy, hg, hn => by
    rw [downF]
    by_cases e : y = x
    · subst e; rw [if_pos rfl]; exact ⟨trivial, by simp, rfl⟩
    · rw [if_neg e]
      have h0 := (hg_nn hg).1
      obtain ⟨q1, q2, q3⟩ := downF_ok hl n (hd l y) (hd_lt hl hy) ((hg_step h0 e).1 hg) hn
      refine ⟨?_, fun a ha => ?_, rfl⟩
      · rw [List.cons_append]
        cases hq : downF l x n (hd l y) ++ [x] with
        | nil => simp at hq
        | cons b t =>
          rw [hq] at q1 q3
          have hb : b = hd l y := by simpa using q3
          exact ⟨.inl hb.symm, q1⟩
      · rcases List.mem_cons.1 ha with rfl | ha
        · exact ⟨h0, hy⟩
        · exact q2 a ha
/-- What the law asks of a way and the way back. -/
theorem turn_ok {l : List Hung} (i k : Int) (p : List Int × Bool × Int) (q : List Int × Bool × Int) (hp : p = pathT l i k) (hq : q = pathT l k i) :
    p.2.1 = q.2.1 ∧ p.2.2 = q.2.2 ∧ p.1.length = q.1.length ∧ (∀ n, n < p.1.length → nth p.1 n = nth q.1 (q.1.length - 1 - n) ∧ 0 ≤ nth p.1 n ∧ nth p.1 n < l.length) ∧ (∀ n, n + 1 < p.1.length → stepP l (nth p.1 n) (nth p.1 (n + 1))) := by
  subst hp hq
  have hc : outB l k = true ∨ outB l i = true ↔ outB l i = true ∨ outB l k = true := or_comm
  by_cases h1 : valE l = 0
  · by_cases h2 : outB l i = true ∨ outB l k = true
    · have ep : pathT l i k = ([], false, 4) := by rw [pathT, if_neg (by omega), if_pos h2]
      have eq : pathT l k i = ([], false, 4) := by rw [pathT, if_neg (by omega), if_pos (hc.2 h2)]
      rw [ep, eq]; simp
    · obtain ⟨v1, v2, v3⟩ := valE_ok h1
      have hr1 := outB_no (by simpa using fun h => h2 (.inl h) : outB l i = false)
      have hr2 := outB_no (by simpa using fun h => h2 (.inr h) : outB l k = false)
      rcases wayU_swap v2 v3 hr1.2 hr2.2 with ⟨g1, g2⟩ | ⟨g1, g2⟩
      · have ep : pathT l i k = ([], false, 0) := by rw [pathT, if_neg (by omega), if_neg h2, if_pos g1]
        have eq : pathT l k i = ([], false, 0) := by rw [pathT, if_neg (by omega), if_neg (fun h => h2 (hc.1 h)), if_pos g2]
        rw [ep, eq]; simp
      · obtain ⟨p1, p2, p3, _⟩ := (wayU_end v2 v3 hr1.2 hr2.2).2 g1
        obtain ⟨_, _, r3, _⟩ := (wayU_end v2 v3 hr2.2 hr1.2).2 (by rw [g2]; exact g1)
        have ep : pathT l i k = (wayD l (wayU l i k).2 i ++ ((wayU l i k).2 :: (wayD l (wayU l i k).2 k).reverse), true, 0) := by rw [pathT, if_neg (by omega), if_neg h2, if_neg (by omega), ← p3]
        have eq : pathT l k i = (wayD l (wayU l i k).2 k ++ ((wayU l i k).2 :: (wayD l (wayU l i k).2 i).reverse), true, 0) := by rw [pathT, if_neg (by omega), if_neg (fun h => h2 (hc.1 h)), if_neg (by omega), r3, g2]
        rw [ep, eq]
        clear ep eq r3 p3
        generalize (wayU l i k).2 = x at *
        dsimp only
        have hxl := hg_lt v2 hr1.2 p1
        obtain ⟨a1, a2, _⟩ := downF_ok v2 (l.length + 1) i hr1.2 p1 (it_mono l (ends_len v2 v3 hr1.2) (by omega))
        obtain ⟨b1, b2, _⟩ := downF_ok v2 (l.length + 1) k hr2.2 p2 (it_mono l (ends_len v2 v3 hr2.2) (by omega))
        change chainP (stepP l) (wayD l x i ++ [x]) at a1
        change chainP (stepP l) (wayD l x k ++ [x]) at b1
        change ∀ a ∈ wayD l x i, _ at a2
        change ∀ a ∈ wayD l x k, _ at b2
        generalize wayD l x i = A at *
        generalize wayD l x k = B at *
        have hsym : ∀ a b, stepP l a b → stepP l b a := fun a b h => h.symm
        have hrev : A ++ x :: B.reverse = (B ++ x :: A.reverse).reverse := by simp
        have hlen : (A ++ x :: B.reverse).length = (B ++ x :: A.reverse).length := by simp; omega
        have hch : chainP (stepP l) (A ++ x :: B.reverse) := by
          refine chainP_app a1 ?_
          have := chainP_rev hsym b1
          simpa using this
        refine ⟨rfl, rfl, hlen, fun n hn => ⟨?_, ?_⟩, fun n hn => chainP_nth hch hn⟩
        · rw [hrev, nth_rev (by omega)]
        · have hm := nth_mem hn
          rcases List.mem_append.1 hm with h | h
          · exact a2 _ h
          · rcases List.mem_cons.1 h with h | h
            · rw [h]; exact ⟨g1, hxl⟩
            · exact b2 _ (List.mem_reverse.1 h)
  · have ep : pathT l i k = ([], false, valE l) := by rw [pathT, if_pos h1]
    have eq : pathT l k i = ([], false, valE l) := by rw [pathT, if_pos h1]
    rw [ep, eq]; simp
/-- ablaut/ablautlaw21.DependTurns: 3 parameters, 0 captured -/
def s9 : SC := .seq (.reg [o1 6 (.mv (cB false))])
  (.seq (.seq (.reg [o1 14 (.mv (.t 0)),
     o1 15 (.call (.f 12) [(.t 14)])])
    (.cond (.t 15) (.seq (.reg [o1 16 (.call (.f 14) []),
       o1 6 (.mv (.t 16))])
      (.ret)) (.skip)))
   (.seq (.reg [o1 18 (.mv (.t 0)),
     o1 19 (.mv (.t 1)),
     o1 20 (.mv (.t 2)),
     o1 21 (.call (.f 31) [(.t 18), (.t 19), (.t 20)]),
     o1 17 (.mv (.t 21)),
     o1 22 (.ext (.t 17) 0),
     o1 23 (.ext (.t 17) 1),
     o1 24 (.ext (.t 17) 2),
     o1 7 (.mv (.t 22)),
     o1 8 (.mv (.t 23)),
     o1 9 (.mv (.t 24))])
    (.seq (.reg [o1 26 (.mv (.t 0)),
      o1 27 (.mv (.t 2)),
      o1 28 (.mv (.t 1)),
      o1 29 (.call (.f 31) [(.t 26), (.t 27), (.t 28)]),
      o1 25 (.mv (.t 29)),
      o1 30 (.ext (.t 25) 0),
      o1 31 (.ext (.t 25) 1),
      o1 32 (.ext (.t 25) 2),
      o1 10 (.mv (.t 30)),
      o1 11 (.mv (.t 31)),
      o1 12 (.mv (.t 32))])
     (.seq (.seq (.reg [o1 33 (.mv (.t 8)),
        o1 34 (.mv (.t 11)),
        o1 35 (.eq true .bool (.t 33) (.t 34)),
        o1 36 (.mv (.t 35)),
        oF 37 (.mv (.t 9)) 36,
        oF 38 (.mv (.t 12)) 36,
        oF 39 (.bin .neq (.t 37) (.t 38)) 36,
        o1 40 (.pick (.t 36) (cB true) (.t 39)),
        o1 41 (.mv (.t 40)),
        oF 42 (.mv (.t 7)) 41,
        oF 43 (.lenL (.t 42)) 41,
        oF 44 (.mv (.t 10)) 41,
        oF 45 (.lenL (.t 44)) 41,
        oF 46 (.bin .neq (.t 43) (.t 45)) 41,
        o1 47 (.pick (.t 41) (cB true) (.t 46))])
       (.cond (.t 47) (.seq (.reg [o1 6 (.mv (cB false))])
         (.ret)) (.skip)))
      (.seq (.seq (.reg [o1 13 (.mv (cI 0))])
        (.block 0 (.loop (.seq (.seq (.reg [o1 48 (.mv (.t 13)),
             o1 49 (.mv (.t 7)),
             o1 50 (.lenL (.t 49)),
             o1 51 (.bin .lss (.t 48) (.t 50))])
            (.cond (.t 51) (.skip) (.exit 0)))
           (.seq (.block 1 (.seq (.seq (.regD [o1 54 (.mv (.t 7)),
                o1 55 (.mv (.t 13)),
                o1 56 (.iaddr 1 (.t 54) (.t 55)),
                o1 57 (.load none (.t 56)),
                o1 58 (.mv (.t 10)),
                o1 59 (.mv (.t 10)),
                o1 60 (.lenL (.t 59)),
                o1 61 (.bin .sub (.t 60) (cI 1)),
                o1 62 (.mv (.t 13)),
                o1 63 (.bin .sub (.t 61) (.t 62)),
                o1 64 (.iaddr 1 (.t 58) (.t 63)),
                o1 65 (.load none (.t 64)),
                o1 66 (.bin .neq (.t 57) (.t 65)),
                o1 67 (.mv (.t 66)),
                oF 68 (.mv (.t 7)) 67,
                oF 69 (.mv (.t 13)) 67,
                oF 70 (.iaddr 1 (.t 68) (.t 69)) 67,
                oF 71 (.load none (.t 70)) 67,
                oF 72 (.bin .lss (.t 71) (cI 0)) 67,
                o1 73 (.pick (.t 67) (cB true) (.t 72)),
                o1 74 (.mv (.t 73)),
                oF 75 (.mv (.t 7)) 74,
                oF 76 (.mv (.t 13)) 74,
                oF 77 (.iaddr 1 (.t 75) (.t 76)) 74,
                oF 78 (.load none (.t 77)) 74,
                oF 79 (.mv (.t 0)) 74,
                oF 80 (.lenL (.t 79)) 74,
                oF 81 (.bin .geq (.t 78) (.t 80)) 74,
                o1 82 (.pick (.t 74) (cB true) (.t 81))])
               (.cond (.t 82) (.seq (.reg [o1 6 (.mv (cB false))])
                 (.ret)) (.skip)))
              (.seq (.regD [o1 83 (.mv (.t 13)),
                o1 84 (.bin .gtr (.t 83) (cI 0)),
                o1 85 (.mv (.t 84)),
                oT 86 (.mv (.t 0)) 85,
                oT 87 (.mv (.t 7)) 85,
                oT 88 (.mv (.t 13)) 85,
                oT 89 (.iaddr 1 (.t 87) (.t 88)) 85,
                oT 90 (.load none (.t 89)) 85,
                oT 91 (.iaddr 3 (.t 86) (.t 90)) 85,
                oT 92 (.faddr 1 (.t 91)) 85,
                oT 93 (.load none (.t 92)) 85,
                oT 94 (.mv (.t 7)) 85,
                oT 95 (.mv (.t 13)) 85,
                oT 96 (.bin .sub (.t 95) (cI 1)) 85,
                oT 97 (.iaddr 1 (.t 94) (.t 96)) 85,
                oT 98 (.load none (.t 97)) 85,
                oT 99 (.bin .neq (.t 93) (.t 98)) 85,
                o1 100 (.pick (.t 85) (.t 99) (cB false)),
                o1 101 (.mv (.t 100)),
                oT 102 (.mv (.t 0)) 101,
                oT 103 (.mv (.t 7)) 101,
                oT 104 (.mv (.t 13)) 101,
                oT 105 (.bin .sub (.t 104) (cI 1)) 101,
                oT 106 (.iaddr 1 (.t 103) (.t 105)) 101,
                oT 107 (.load none (.t 106)) 101,
                oT 108 (.iaddr 3 (.t 102) (.t 107)) 101,
                oT 109 (.faddr 1 (.t 108)) 101,
                oT 110 (.load none (.t 109)) 101,
                oT 111 (.mv (.t 7)) 101,
                oT 112 (.mv (.t 13)) 101,
                oT 113 (.iaddr 1 (.t 111) (.t 112)) 101,
                oT 114 (.load none (.t 113)) 101,
                oT 115 (.bin .neq (.t 110) (.t 114)) 101,
                o1 116 (.pick (.t 101) (.t 115) (cB false))])
               (.cond (.t 116) (.seq (.reg [o1 6 (.mv (cB false))])
                 (.ret)) (.skip)))))
            (.reg [o1 52 (.mv (.t 13)),
             o1 53 (.bin .add (.t 52) (cI 1)),
             o1 13 (.mv (.t 53))]))))))
       (.seq (.reg [o1 117 (.call (.f 14) []),
         o1 6 (.mv (.t 117))])
        (.ret)))))))
theorem s9_ok : lookF Try.prog 9 = some (s9, 118, [.tmp 6]) := by kernel_rfl
set_option maxHeartbeats 1000000 in
theorem DependTurns_ok (l : List Hung) (i k : Int) (hl : TH l) : Fn P 9 [sl l, intA i, intA k] (boolA true) := by
  by_cases h1 : overB l = false
  · have hs := over_sm hl h1
    have c1 := path_ok l hs i k
    have c2 := path_ok l hs k i
    have k0 := over_ok l
    rw [h1] at k0
    have ht := turn_ok i k _ _ rfl rfl (l := l)
    have hpl : (pathT l i k).1.length ≤ 1000000 := by
      have := upF_len l k (l.length + 1) i
      have := downF_len l (wayU l i k).2 (l.length + 1) k
      have := hs.1
      unfold pathT; (repeat' split) <;> simp [wayU, wayD] at * <;> omega
    generalize pathT l i k = p at *
    generalize pathT l k i = q at *
    obtain ⟨t1, t2, t3, t4, t5⟩ := ht
    obtain ⟨p, pb, pe⟩ := p
    obtain ⟨q, qb, qe⟩ := q
    dsimp only at t1 t2 t3 t4 t5 hpl
    subst t1 t2
    (refine fn_look s9_ok (by simp) (by intro k; simp only [go_sem, Nat.reduceEqDiff, ↓reduceIte, reduceCtorEq, Nat.reduceAdd, Nat.reduceMul, Int.reduceToNat, List.reduceReplicate, Nat.reduceLeDiff, Nat.reduceLT, Int.reduceLT, Int.reduceLE, Int.reduceEq]) fun S hS => cwp_sound _ _ _ _ ?_; simp (disch := omega) only [s9, go_sem, Nat.reduceEqDiff, ↓reduceIte, reduceCtorEq, Nat.reduceAdd, Nat.reduceMul, Int.reduceToNat, List.reduceReplicate, Nat.reduceLeDiff, Nat.reduceLT, Int.reduceLT, Int.reduceLE, Int.reduceEq])
    repeat' (first | with_reducible refine inw ?_ | simp (disch := omega) only [go_sem, Nat.reduceEqDiff, ↓reduceIte, reduceCtorEq, Nat.reduceAdd, Nat.reduceMul, Int.reduceToNat, List.reduceReplicate, Nat.reduceLeDiff, Nat.reduceLT, Int.reduceLT, Int.reduceLE, Int.reduceEq] | (with_reducible apply call (k0)); (focus simp (disch := omega) only [go_sem, Nat.reduceEqDiff, ↓reduceIte, reduceCtorEq, Nat.reduceAdd, Nat.reduceMul, Int.reduceToNat, List.reduceReplicate, Nat.reduceLeDiff, Nat.reduceLT, Int.reduceLT, Int.reduceLE, Int.reduceEq] <;> rfl) | (with_reducible apply call (c1)); (focus simp (disch := omega) only [go_sem, Nat.reduceEqDiff, ↓reduceIte, reduceCtorEq, Nat.reduceAdd, Nat.reduceMul, Int.reduceToNat, List.reduceReplicate, Nat.reduceLeDiff, Nat.reduceLT, Int.reduceLT, Int.reduceLE, Int.reduceEq] <;> rfl) | (with_reducible apply call (c2)); (focus simp (disch := omega) only [go_sem, Nat.reduceEqDiff, ↓reduceIte, reduceCtorEq, Nat.reduceAdd, Nat.reduceMul, Int.reduceToNat, List.reduceReplicate, Nat.reduceLeDiff, Nat.reduceLT, Int.reduceLT, Int.reduceLE, Int.reduceEq] <;> rfl) | (with_reducible apply call (known_ok)); (focus simp (disch := omega) only [go_sem, Nat.reduceEqDiff, ↓reduceIte, reduceCtorEq, Nat.reduceAdd, Nat.reduceMul, Int.reduceToNat, List.reduceReplicate, Nat.reduceLeDiff, Nat.reduceLT, Int.reduceLT, Int.reduceLE, Int.reduceEq] <;> rfl) | with_reducible refine giv_intro fun _h => ?_ | with_reducible refine alt_intro ?_ fun _h => ?_ | with_reducible refine pickD_nil ?_ | (with_reducible refine brc (fun _h => ?_) fun _h => ?_) <;> first | (exfalso; omega) | simp only [decide_eq_false _h] | simp only [(_h : (_ : Bool) = _)] | simp only [decide_eq_true _h] | skip)
    (refine loopC hS [0, 7, 10] (by simp only [go_sem, Nat.reduceEqDiff, ↓reduceIte, reduceCtorEq, Nat.reduceAdd, Nat.reduceMul, Int.reduceToNat, List.reduceReplicate, Nat.reduceLeDiff, Nat.reduceLT, Int.reduceLT, Int.reduceLE, Int.reduceEq]; try rfl) (fun (n : Nat) => [(13, intA n)]) (fun (n : Nat) => []) (fun (n : Nat) => n ≤ p.length) (fun (n : Nat) => p.length - n) (0) ?h01 ?hn1 ?rd1; case hn1 => (intro s; first | rfl | (rcases s with ⟨_, _⟩; rfl) | (rcases s with ⟨_, _, _⟩; rfl) | (rcases s with ⟨_, _, _, _⟩; rfl) | (rcases s with ⟨_, _, _, _, _⟩; rfl)))
    · simp (disch := omega) only [go_sem, Nat.reduceEqDiff, ↓reduceIte, reduceCtorEq, Nat.reduceAdd, Nat.reduceMul, Int.reduceToNat, List.reduceReplicate, Nat.reduceLeDiff, Nat.reduceLT, Int.reduceLT, Int.reduceLE, Int.reduceEq]; simp
    rintro n hn
    replace hn : n ≤ p.length := hn
    by_cases hnl : n < p.length
    · obtain ⟨w1, w2, w3⟩ := t4 n hnl
      have e1 : ((q.length : Int) - 1 - n) = ((q.length - 1 - n : Nat) : Int) := by omega
      have hh := hd_nth (l := l) w2
      by_cases h0 : n = 0
      · subst h0
        have e0 := head_cells hnl
        rw [List.drop_zero] at e0
        repeat' (first | with_reducible refine inw ?_ | simp (disch := omega) only [go_sem, Nat.reduceEqDiff, ↓reduceIte, reduceCtorEq, Nat.reduceAdd, Nat.reduceMul, Int.reduceToNat, List.reduceReplicate, Nat.reduceLeDiff, Nat.reduceLT, Int.reduceLT, Int.reduceLE, Int.reduceEq, e1, e0, ← w1] | with_reducible refine giv_intro fun _h => ?_ | with_reducible refine alt_intro ?_ fun _h => ?_ | with_reducible refine pickD_nil ?_ | (with_reducible refine brc (fun _h => ?_) fun _h => ?_) <;> first | (exfalso; omega) | simp only [decide_eq_false _h] | simp only [(_h : (_ : Bool) = _)] | simp only [decide_eq_true _h] | skip)
        all_goals first
          | exact ⟨1, ⟨by omega, by omega⟩, rfl⟩
          | (exfalso; exact _h (w1.trans (by congr 1; omega)))
      · have ht := t5 (n - 1) (by omega)
        rw [show n - 1 + 1 = n by omega] at ht
        have e2 : ((n : Int) - 1) = ((n - 1 : Nat) : Int) := by omega
        obtain ⟨_, y2, y3⟩ := t4 (n - 1) (by omega)
        have hh2 := hd_nth (l := l) y2
        rw [stepP, hh, hh2] at ht
        repeat' (first | with_reducible refine inw ?_ | simp (disch := omega) only [go_sem, Nat.reduceEqDiff, ↓reduceIte, reduceCtorEq, Nat.reduceAdd, Nat.reduceMul, Int.reduceToNat, List.reduceReplicate, Nat.reduceLeDiff, Nat.reduceLT, Int.reduceLT, Int.reduceLE, Int.reduceEq, e1, e2, ← w1] | with_reducible refine giv_intro fun _h => ?_ | with_reducible refine alt_intro ?_ fun _h => ?_ | with_reducible refine pickD_nil ?_ | (with_reducible refine brc (fun _h => ?_) fun _h => ?_) <;> first | (exfalso; omega) | simp only [decide_eq_false _h] | simp only [(_h : (_ : Bool) = _)] | simp only [decide_eq_true _h] | skip)
        all_goals first
          | exact ⟨n + 1, ⟨by omega, by omega⟩, by omega⟩
          | (exfalso; rcases ht with h | h <;> exact absurd h (by assumption))
    · repeat' (first | with_reducible refine inw ?_ | simp (disch := omega) only [go_sem, Nat.reduceEqDiff, ↓reduceIte, reduceCtorEq, Nat.reduceAdd, Nat.reduceMul, Int.reduceToNat, List.reduceReplicate, Nat.reduceLeDiff, Nat.reduceLT, Int.reduceLT, Int.reduceLE, Int.reduceEq] | (with_reducible apply call (known_ok)); (focus simp (disch := omega) only [go_sem, Nat.reduceEqDiff, ↓reduceIte, reduceCtorEq, Nat.reduceAdd, Nat.reduceMul, Int.reduceToNat, List.reduceReplicate, Nat.reduceLeDiff, Nat.reduceLT, Int.reduceLT, Int.reduceLE, Int.reduceEq] <;> rfl) | with_reducible refine giv_intro fun _h => ?_ | with_reducible refine alt_intro ?_ fun _h => ?_ | with_reducible refine pickD_nil ?_ | (with_reducible refine brc (fun _h => ?_) fun _h => ?_) <;> first | (exfalso; omega) | simp only [decide_eq_false _h] | simp only [(_h : (_ : Bool) = _)] | simp only [decide_eq_true _h] | skip)
  · have k0 := over_ok l
    rw [show overB l = true by simpa using h1] at k0
    (refine fn_look s9_ok (by simp) (by intro k; simp only [go_sem, Nat.reduceEqDiff, ↓reduceIte, reduceCtorEq, Nat.reduceAdd, Nat.reduceMul, Int.reduceToNat, List.reduceReplicate, Nat.reduceLeDiff, Nat.reduceLT, Int.reduceLT, Int.reduceLE, Int.reduceEq]) fun S hS => cwp_sound _ _ _ _ ?_; simp (disch := omega) only [s9, go_sem, Nat.reduceEqDiff, ↓reduceIte, reduceCtorEq, Nat.reduceAdd, Nat.reduceMul, Int.reduceToNat, List.reduceReplicate, Nat.reduceLeDiff, Nat.reduceLT, Int.reduceLT, Int.reduceLE, Int.reduceEq])
    repeat' (first | with_reducible refine inw ?_ | simp (disch := omega) only [go_sem, Nat.reduceEqDiff, ↓reduceIte, reduceCtorEq, Nat.reduceAdd, Nat.reduceMul, Int.reduceToNat, List.reduceReplicate, Nat.reduceLeDiff, Nat.reduceLT, Int.reduceLT, Int.reduceLE, Int.reduceEq] | (with_reducible apply call (k0)); (focus simp (disch := omega) only [go_sem, Nat.reduceEqDiff, ↓reduceIte, reduceCtorEq, Nat.reduceAdd, Nat.reduceMul, Int.reduceToNat, List.reduceReplicate, Nat.reduceLeDiff, Nat.reduceLT, Int.reduceLT, Int.reduceLE, Int.reduceEq] <;> rfl) | (with_reducible apply call (known_ok)); (focus simp (disch := omega) only [go_sem, Nat.reduceEqDiff, ↓reduceIte, reduceCtorEq, Nat.reduceAdd, Nat.reduceMul, Int.reduceToNat, List.reduceReplicate, Nat.reduceLeDiff, Nat.reduceLT, Int.reduceLT, Int.reduceLE, Int.reduceEq] <;> rfl) | with_reducible refine giv_intro fun _h => ?_ | with_reducible refine alt_intro ?_ fun _h => ?_ | with_reducible refine pickD_nil ?_ | (with_reducible refine brc (fun _h => ?_) fun _h => ?_) <;> first | (exfalso; omega) | simp only [decide_eq_false _h] | simp only [(_h : (_ : Bool) = _)] | simp only [decide_eq_true _h] | skip)
end Go.Proofs.Ytkedbkdbnmmkhaa.Ev
