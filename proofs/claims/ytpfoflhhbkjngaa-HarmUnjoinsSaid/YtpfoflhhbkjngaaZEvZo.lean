/- A cell that holds a nil slice: an own row with nothing in it. -/
import Derived.Test.YtpfoflhhbkjngaaZEvZn
set_option linter.unusedVariables false
set_option linter.unusedSimpArgs false
namespace Go.Proofs.Ytpfoflhhbkjngaa.Ev
open Go Go.RowKit

theorem View.nilCell {fr : Fr} {S : St} {a q e k : Nat} (e2 k2 : Nat) {cs : List AV} (ha : S.m a = some (.row e k cs)) (hc : cs[q]? = some (.sc (.slice none 0 0))) :
    View fr S fr ((S.add (.row e2 k2 [])).set a (.row e k (cs.set q (.ref S.n 0 0 0)))) := fun n G act h1 h2 h3 => by
  subst h1
  have han : a < G.S.n := live_lt h2 ha
  have hne : a ≠ G.S.n := by omega
  let cs' := cs.set q (.ref G.S.n 0 0 0)
  let G1 : Ctx := G.virt e2 k2
  have hst0 : Step G G1 := virt_step G e2 k2
  have h21 : Rel G1 := virt_rel h2 e2 k2
  have ha1 : G1.S.m a = some (.row e k cs) := by simp [G1, Ctx.virt, St.add, hne, ha]
  let G' : Ctx := ⟨G1.w, G1.μ, G1.S.set a (.row e k cs')⟩
  have hl : cs.length = cs'.length := by simp [cs']
  have hsub : ∀ l' o', G'.S.m l' = some o' → (l' = a ∧ o' = .row e k cs') ∨ (l' ≠ a ∧ G1.S.m l' = some o') := fun l' o' h => by
    by_cases e : l' = a
    · subst e; left; exact ⟨rfl, by simpa [G', St.set] using h.symm⟩
    · right; exact ⟨e, by simpa [G', St.set, e] using h⟩
  have hlv : ∀ l' b, G'.live l' b → G1.live l' b := fun l' b h => by
    obtain ⟨⟨o', ho'⟩, hb⟩ := h
    rcases hsub l' o' ho' with ⟨rfl, _⟩ | ⟨_, h⟩
    · exact ⟨⟨_, ha1⟩, hb⟩
    · exact ⟨⟨_, h⟩, hb⟩
  have hst : Step G1 G' := by
    refine ⟨rfl, rfl, Nat.le_refl _, rfl, Nat.le_refl _, fun _ _ => rfl, fun b _ ⟨l', h⟩ => ⟨l', hlv l' b h⟩, Nat.le_refl _, fun l' o' _ ho' => ?_, MapsGo.refl _⟩
    rcases hsub l' o' ho' with ⟨rfl, rfl⟩ | ⟨_, h⟩
    · exact ⟨cs, ha1, by omega, fun _ => ⟨rfl, fun b c _ hc => ⟨c, hc, rfl⟩⟩⟩
    · cases o' with
      | row e k cs => exact ⟨cs, h, Nat.le_refl _, fun _ => ⟨rfl, fun b c _ hc => ⟨c, hc, rfl⟩⟩⟩
      | map es => exact ⟨es, h, rfl⟩
      | iter i => exact ⟨i, h, rfl⟩
  refine ⟨G', rfl, rfl, ⟨fun l' hl' => ?_, fun l' o' ho' => ?_, fun l1 l2 b a1 a2 => h21.inj l1 l2 b (hlv _ _ a1) (hlv _ _ a2)⟩, hst0.trans hst, h3.1, h3.2.1, fun j hj => (h3.2.2 j hj).step (hst0.trans hst)⟩
  · have := live_lt h21 ha1
    have hn : l' ≠ a := by have : G1.S.n ≤ l' := hl'; omega
    simpa [G', St.set, hn] using h21.dom l' hl'
  · rcases hsub l' o' ho' with ⟨rfl, rfl⟩ | ⟨_, h⟩
    · obtain ⟨q1, q2⟩ := h2.ok _ _ ha
      refine ⟨by omega, ?_⟩
      have hμ : G'.μ l' = G.μ l' := by show (if l' = G.S.n then none else G.μ l') = _; rw [if_neg hne]
      rcases q2 with ⟨q3, q4⟩ | ⟨b, c, q3, q4, q5, q6⟩
      · left; exact ⟨hμ.trans q3, List.eq_nil_of_length_eq_zero (by rw [← hl, q4]; rfl)⟩
      · right
        refine ⟨b, c, hμ.trans q3, q4, by omega, rat_iff.2 fun j y hy => ?_⟩
        have hj : j < cs.length := by have := (List.getElem?_eq_some_iff.1 hy).1; omega
        obtain ⟨v, hv, hr⟩ := rat_iff.1 q6 j cs[j] (by simp [hj])
        refine ⟨v, hv, ?_⟩
        by_cases ej : j = q
        · subst ej
          have e1 : cs[j] = .sc (.slice none 0 0) := by rw [List.getElem?_eq_getElem hj] at hc; exact Option.some.inj hc
          have e2' : y = .ref G.S.n 0 0 0 := by simpa [cs', hj] using hy.symm
          rw [e1] at hr
          rw [scR hr]
          subst e2'
          simp only [Rv]
          refine ⟨by simp [G', G1, Ctx.virt, St.add, St.set], ⟨_, _, _, rfl⟩, fun e' k' cs'' hm => ?_⟩
          have : some (Ob.row e2 k2 []) = some (Ob.row e' k' cs'') := by rw [← hm]; simp [G', G1, Ctx.virt, St.add, St.set, Ne.symm hne]
          cases this
          exact ⟨Nat.le_refl _, fun _ => .inl ⟨by simp [G', G1, Ctx.virt], rfl, rfl, rfl, rfl⟩⟩
        · have e2 : y = cs[j] := by
            simp only [cs', List.getElem?_set, if_neg (fun h => ej h.symm : ¬q = j), List.getElem?_eq_getElem hj, Option.some.injEq] at hy
            exact hy.symm
          subst e2
          exact hr.step (hst0.trans hst)
    · exact (h21.ok _ _ h).keep hst rfl fun _ _ => rfl
theorem nilCell {P : Program} {n : Nat} {Q : Exit → Fr → St → Prop} {fr : Fr} {S : St} {L : List (Option Ob)} {c : SC} (i q e k e2 k2 : Nat) {cs : List AV} (hi : L[i]? = some (some (.row e k cs))) (hc : cs[q]? = some (.sc (.slice none 0 0)))
    (hk : SWp P n c Q fr (S.stk ((L.set i (some (.row e k (cs.set q (.ref (S.nm L.length) 0 0 0))))) ++ [some (.row e2 k2 [])]))) : SWp P n c Q fr (S.stk L) := by
  have hil : i < L.length := (List.getElem?_eq_some_iff.1 hi).1
  have e1 : ¬ S.n + i < S.n := by omega
  refine SWp.view (View.nilCell (a := S.nm i) (q := q) (e := e) (k := k) e2 k2 (cs := cs) (by simp [St.stk, St.nm, e1, hi]) hc) ?_
  rw [stk_add, stk_setL S _ (by simp; omega), show (S.stk L).n = S.nm L.length from rfl]
  rw [List.set_append_left _ _ hil]
  exact hk
end Go.Proofs.Ytpfoflhhbkjngaa.Ev
