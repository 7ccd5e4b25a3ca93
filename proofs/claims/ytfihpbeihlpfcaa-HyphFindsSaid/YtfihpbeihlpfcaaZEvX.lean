/- A call that is gone through in place: what it writes into the caller's rows stands there. -/
import Derived.Test.YtfihpbeihlpfcaaZEvU
set_option linter.unusedVariables false
set_option linter.unusedSimpArgs false
namespace Go.Proofs.Ytfihpbeihlpfcaa.Ev
open Go Go.RowKit

/-- A row that takes the place of a shorter one, under its name. -/
theorem View.move {fr : Fr} {S : St} {i a a' : Nat} {e k tot m : Nat} {cs cs' : List AV} (h : fr i = .ref a' tot 0 m) (ha : S.m a = some (.row e k cs)) (ha' : S.m a' = some (.row e k cs')) (hlt : cs.length < cs'.length) (hne : a ≠ a') :
    View fr S (fr.put (some i) (.ref a tot 0 m)) ((S.set a (.row e k cs')).kill a') := fun n G act h1 h2 h3 => by
  subst h1
  let G' : Ctx := ⟨G.w, fun l => if l = a then G.μ a' else G.μ l, (G.S.set a (.row e k cs')).kill a'⟩
  have hsub : ∀ l' o', G'.S.m l' = some o' → (l' = a ∧ o' = .row e k cs') ∨ (l' ≠ a ∧ l' ≠ a' ∧ G.S.m l' = some o') := fun l' o' h => by
    by_cases e1 : l' = a'
    · subst e1; simp [G', St.kill] at h
    · by_cases e2 : l' = a
      · subst e2; left; exact ⟨rfl, by simpa [G', St.set, St.kill, e1] using h.symm⟩
      · right; exact ⟨e2, e1, by simpa [G', St.set, St.kill, e1, e2] using h⟩
  have hμa : G'.μ a = G.μ a' := by simp [G']
  have hμo : ∀ l, l ≠ a → G'.μ l = G.μ l := fun l hl => by simp [G', hl]
  have hlv : ∀ l' b, G'.live l' b → (l' = a ∧ G.live a' b) ∨ (l' ≠ a ∧ l' ≠ a' ∧ G.live l' b) := fun l' b h => by
    obtain ⟨⟨o', ho'⟩, hb⟩ := h
    rcases hsub l' o' ho' with ⟨rfl, _⟩ | ⟨q1, q2, h⟩
    · left; exact ⟨rfl, ⟨_, ha'⟩, by rw [← hμa]; exact hb⟩
    · right; exact ⟨q1, q2, ⟨_, h⟩, by rw [← hμo l' q1]; exact hb⟩
  have hst : Step G G' := by
    refine ⟨rfl, rfl, Nat.le_refl _, rfl, Nat.le_refl _, fun _ _ => rfl, fun b _ ⟨l', h⟩ => ?_, Nat.le_refl _, fun l' o' _ ho' => ?_, MapsGo.refl _⟩
    · rcases hlv l' b h with ⟨_, h⟩ | ⟨_, _, h⟩
      · exact ⟨_, h⟩
      · exact ⟨_, h⟩
    · rcases hsub l' o' ho' with ⟨rfl, rfl⟩ | ⟨q1, _, h⟩
      · exact ⟨cs, ha, by omega, fun he => by omega⟩
      · cases o' with
        | row e k cs => exact ⟨cs, h, Nat.le_refl _, fun _ => ⟨hμo l' q1, fun b c _ hc => ⟨c, hc, rfl⟩⟩⟩
        | map es => exact ⟨es, h, hμo l' q1⟩
        | iter i => exact ⟨i, h, hμo l' q1⟩
  have hrel : Rel G' := by
    refine ⟨fun l' hl' => ?_, fun l' o' ho' => ?_, fun l1 l2 b a1 a2 => ?_⟩
    · have h1 : G.S.n ≤ l' := hl'
      have q1 := live_lt h2 ha
      have hd := h2.dom l' h1
      have hn : l' ≠ a := by omega
      simp only [G', St.kill, St.set, hn, if_false, hd]
      split <;> rfl
    · rcases hsub l' o' ho' with ⟨rfl, rfl⟩ | ⟨q1, _, h⟩
      · obtain ⟨w1, w2⟩ := h2.ok _ _ ha'
        refine ⟨w1, ?_⟩
        rcases w2 with ⟨_, w4⟩ | ⟨b, c, w3, w4, w5, w6⟩
        · rw [w4] at hlt; simp at hlt
        · exact .inr ⟨b, c, by rw [hμa]; exact w3, w4, w5, w6.step hst _ _ _ fun _ => rfl⟩
      · exact (h2.ok _ _ h).keep hst (hμo l' q1) fun _ _ => rfl
    · rcases hlv l1 b a1 with ⟨rfl, p1⟩ | ⟨p0, p2, p1⟩ <;> rcases hlv l2 b a2 with ⟨rfl, r1⟩ | ⟨r0, r2, r1⟩
      · rfl
      · exact absurd (h2.inj _ _ b p1 r1) (Ne.symm r2)
      · exact absurd (h2.inj _ _ b p1 r1) p2
      · exact h2.inj _ _ b p1 r1
  refine ⟨G', rfl, rfl, hrel, hst, h3.1, h3.2.1, fun x hx => ?_⟩
  by_cases ex : x = i
  · subst ex
    have hv := h3.2.2 x hx
    rw [h] at hv
    simp only [Fr.put, if_true]
    simp only [Rv] at hv ⊢
    obtain ⟨v1, v2, v3⟩ := hv
    refine ⟨live_lt h2 ha, v2, fun e2 k2 cs2 hm => ?_⟩
    rcases hsub a _ hm with ⟨_, hq⟩ | ⟨q, _⟩
    · cases hq
      obtain ⟨v4, v5⟩ := v3 e k cs' ha'
      refine ⟨v4, fun ht => ?_⟩
      have := v5 ht
      rw [hμa]
      exact this
    · exact absurd rfl q
  · rw [put_off (by simpa using fun e => ex e.symm)]
    exact (h3.2.2 x hx).step hst
/-- A row of the call's own that stands in a cell of another one, and is written no more. -/
theorem View.freezeCell {fr : Fr} {S : St} {a l q tot m : Nat} {e k e2 k2 : Nat} {cs cs2 : List AV} (ha : S.m a = some (.row e k cs)) (hc : cs[q]? = some (.ref l tot 0 m)) (hm : S.m l = some (.row e2 k2 cs2)) (ht : cs2.length = tot) (hk : m * k2 ≤ tot) (hne : a ≠ l) :
    View fr S fr ((S.kill l).set a (.row e k (cs.set q (.ro m (cs2.take (m * k2)))))) := fun n G act h1 h2 h3 => by
  subst h1
  let cs' := cs.set q (.ro m (cs2.take (m * k2)))
  let G1 : Ctx := G.kill l
  have hst0 : Step G G1 := kill_step G l
  have h21 : Rel G1 := kill_rel h2 l
  have ha1 : G1.S.m a = some (.row e k cs) := by simp [G1, Ctx.kill, St.kill, hne, ha]
  let G' : Ctx := ⟨G1.w, G1.μ, G1.S.set a (.row e k cs')⟩
  have hl : cs.length = cs'.length := by simp [cs']
  have hsub : ∀ l' o', G'.S.m l' = some o' → (l' = a ∧ o' = .row e k cs') ∨ (l' ≠ a ∧ G1.S.m l' = some o') := fun l' o' h => by
    by_cases e : l' = a
    · subst e; left; exact ⟨rfl, by simpa [G', St.set] using h.symm⟩
    · right; exact ⟨e, by simpa [G', St.set, e] using h⟩
  have hlv : ∀ l' b, G'.live l' b → G1.live l' b := fun l' b h => by
    obtain ⟨⟨o', ho'⟩, hb⟩ := h
    rcases hsub l' o' ho' with ⟨rfl, _⟩ | ⟨_, h⟩
    · exact ⟨⟨_, ha1⟩, hb⟩
    · exact ⟨⟨_, h⟩, hb⟩
  have hst : Step G1 G' := by
    refine ⟨rfl, rfl, Nat.le_refl _, rfl, Nat.le_refl _, fun _ _ => rfl, fun b _ ⟨l', h⟩ => ⟨l', hlv l' b h⟩, Nat.le_refl _, fun l' o' _ ho' => ?_, MapsGo.refl _⟩
    rcases hsub l' o' ho' with ⟨rfl, rfl⟩ | ⟨_, h⟩
    · exact ⟨cs, ha1, by omega, fun _ => ⟨rfl, fun b c _ hc => ⟨c, hc, rfl⟩⟩⟩
    · cases o' with
      | row e k cs => exact ⟨cs, h, Nat.le_refl _, fun _ => ⟨rfl, fun b c _ hc => ⟨c, hc, rfl⟩⟩⟩
      | map es => exact ⟨es, h, rfl⟩
      | iter i => exact ⟨i, h, rfl⟩
  refine ⟨G', rfl, rfl, ⟨fun l' hl' => ?_, fun l' o' ho' => ?_, fun l1 l2 b a1 a2 => h21.inj l1 l2 b (hlv _ _ a1) (hlv _ _ a2)⟩, hst0.trans hst, h3.1, h3.2.1, fun j hj => (h3.2.2 j hj).step (hst0.trans hst)⟩
  · have := live_lt h21 ha1
    have hn : l' ≠ a := by have : G1.S.n ≤ l' := hl'; omega
    simpa [G', St.set, hn] using h21.dom l' hl'
  · rcases hsub l' o' ho' with ⟨rfl, rfl⟩ | ⟨_, h⟩
    · obtain ⟨q1, q2⟩ := h2.ok _ _ ha
      refine ⟨by omega, ?_⟩
      rcases q2 with ⟨q3, q4⟩ | ⟨b, c, q3, q4, q5, q6⟩
      · left; exact ⟨q3, List.eq_nil_of_length_eq_zero (by rw [← hl, q4]; rfl)⟩
      · right
        refine ⟨b, c, q3, q4, by omega, rat_iff.2 fun j y hy => ?_⟩
        have hj : j < cs.length := by have := (List.getElem?_eq_some_iff.1 hy).1; omega
        obtain ⟨v, hv, hr⟩ := rat_iff.1 q6 j cs[j] (by simp [hj])
        refine ⟨v, hv, ?_⟩
        by_cases ej : j = q
        · subst ej
          have e1 : cs[j] = .ref l tot 0 m := by rw [List.getElem?_eq_getElem hj] at hc; exact Option.some.inj hc
          have e2 : y = .ro m (cs2.take (m * k2)) := by simpa [cs', hj] using hy.symm
          rw [e1] at hr
          subst e2
          exact (freeze_ok h2 hm ht hk hr).step hst
        · have e2 : y = cs[j] := by
            simp only [cs', List.getElem?_set, if_neg (fun h => ej h.symm : ¬q = j), List.getElem?_eq_getElem hj, Option.some.injEq] at hy
            exact hy.symm
          subst e2
          exact hr.step (hst0.trans hst)
    · exact (h21.ok _ _ h).keep hst rfl fun _ _ => rfl
theorem freezeCell {P : Program} {n : Nat} {Q : Exit → Fr → St → Prop} {fr : Fr} {S : St} {L : List (Option Ob)} {c : SC} (i j q e k e2 k2 : Nat) {tot m : Nat} {cs cs2 : List AV} (hi : L[i]? = some (some (.row e k cs))) (hc : cs[q]? = some (.ref (S.nm j) tot 0 m)) (hj : L[j]? = some (some (.row e2 k2 cs2)))
    (ht : cs2.length = tot) (hk2 : m * k2 ≤ tot) (hne : i ≠ j) (hk : SWp P n c Q fr (S.stk ((L.set j none).set i (some (.row e k (cs.set q (.ro m (cs2.take (m * k2))))))))) : SWp P n c Q fr (S.stk L) := by
  have hil : i < L.length := (List.getElem?_eq_some_iff.1 hi).1
  have hjl : j < L.length := (List.getElem?_eq_some_iff.1 hj).1
  have e1 : ¬ S.n + i < S.n := by omega
  have e2' : ¬ S.n + j < S.n := by omega
  refine SWp.view (View.freezeCell (a := S.nm i) (l := S.nm j) (e := e) (k := k) (e2 := e2) (k2 := k2) (cs := cs) (cs2 := cs2) (by simp [St.stk, St.nm, e1, hi]) hc (by simp [St.stk, St.nm, e2', hj]) ht hk2 (by simp [St.nm, hne])) ?_
  rw [stk_killL S hjl, stk_setL S _ (by simpa using hil)]
  exact hk
end Go.Proofs.Ytfihpbeihlpfcaa.Ev
