/- A call that is gone through in place: what it writes into the caller's rows stands there. -/
import Derived.Test.YtfihpbeihlpfcaaZEvU
set_option linter.unusedVariables false
set_option linter.unusedSimpArgs false
namespace Go.Proofs.Ytfihpbeihlpfcaa.Ev
open Go Go.RowKit

/-- A row that takes the place of a shorter one, under its name. -/
theorem View.move {fr : Fr} {S : St} {i a a' : Nat} {e k tot m : Nat} {cs cs' : List AV} (h : fr i = .ref a' tot 0 m) (ha : S.m a = some (.row e k cs)) (ha' : S.m a' = some (.row e k cs')) (hlt : cs.length < cs'.length) (hne : a ≠ a') :
    View fr S (fr.put (some i) (.ref a tot 0 m)) ((S.set a (.row e k cs')).kill a') := fun n G act h1 h2 h3 => by
  subst h1
  let G' : Ctx := ⟨G.w, fun l => if l = a then G.μ a' else G.μ l, (G.S.set a (.row e k cs')).kill a'⟩
  have hsub : ∀ l' o', G'.S.m l' = some o' → (l' = a ∧ o' = .row e k cs') ∨ (l' ≠ a ∧ l' ≠ a' ∧ G.S.m l' = some o') := fun l' o' h => by
    by_cases e1 : l' = a'
    · subst e1; simp [G', St.kill] at h
    · by_cases e2 : l' = a
      · subst e2; left; exact ⟨rfl, by simpa [G', St.set, St.kill, e1] using h.symm⟩
      · right; exact ⟨e2, e1, by simpa [G', St.set, St.kill, e1, e2] using h⟩
  have hμa : G'.μ a = G.μ a' := by simp [G']
  have hμo : ∀ l, l ≠ a → G'.μ l = G.μ l := fun l hl => by simp [G', hl]
  have hlv : ∀ l' b, G'.live l' b → (l' = a ∧ G.live a' b) ∨ (l' ≠ a ∧ l' ≠ a' ∧ G.live l' b) := fun l' b h => by
    obtain ⟨⟨o', ho'⟩, hb⟩ := h
    rcases hsub l' o' ho' with ⟨rfl, _⟩ | ⟨q1, q2, h⟩
    · left; exact ⟨rfl, ⟨_, ha'⟩, by rw [← hμa]; exact hb⟩
    · right; exact ⟨q1, q2, ⟨_, h⟩, by rw [← hμo l' q1]; exact hb⟩
  have hst : Step G G' := by
    refine ⟨rfl, rfl, Nat.le_refl _, rfl, Nat.le_refl _, fun _ _ => rfl, fun b _ ⟨l', h⟩ => ?_, Nat.le_refl _, fun l' o' _ ho' => ?_, MapsGo.refl _⟩
    · rcases hlv l' b h with ⟨_, h⟩ | ⟨_, _, h⟩
      · exact ⟨_, h⟩
      · exact ⟨_, h⟩
    · rcases hsub l' o' ho' with ⟨rfl, rfl⟩ | ⟨q1, _, h⟩
      · exact ⟨cs, ha, by omega, fun he => by omega⟩
      · cases o' with
        | row e k cs => exact ⟨cs, h, Nat.le_refl _, fun _ => ⟨hμo l' q1, fun b c _ hc => ⟨c, hc, rfl⟩⟩⟩
        | map es => exact ⟨es, h, hμo l' q1⟩
        | iter i => exact ⟨i, h, hμo l' q1⟩
  have hrel : Rel G' := by
    refine ⟨fun l' hl' => ?_, fun l' o' ho' => ?_, fun l1 l2 b a1 a2 => ?_⟩
    · have h1 : G.S.n ≤ l' := hl'
      have q1 := live_lt h2 ha
      have hd := h2.dom l' h1
      have hn : l' ≠ a := by omega
      simp only [G', St.kill, St.set, hn, if_false, hd]
      split <;> rfl
    · rcases hsub l' o' ho' with ⟨rfl, rfl⟩ | ⟨q1, _, h⟩
      · obtain ⟨w1, w2⟩ := h2.ok _ _ ha'
        refine ⟨w1, ?_⟩
        rcases w2 with ⟨_, w4⟩ | ⟨b, c, w3, w4, w5, w6⟩
        · rw [w4] at hlt; simp at hlt
        · exact .inr ⟨b, c, by rw [hμa]; exact w3, w4, w5, w6.step hst _ _ _ fun _ => rfl⟩
      · exact (h2.ok _ _ h).keep hst (hμo l' q1) fun _ _ => rfl
    · rcases hlv l1 b a1 with ⟨rfl, p1⟩ | ⟨p0, p2, p1⟩ <;> rcases hlv l2 b a2 with ⟨rfl, r1⟩ | ⟨r0, r2, r1⟩
      · rfl
      · exact absurd (h2.inj _ _ b p1 r1) (Ne.symm r2)
      · exact absurd (h2.inj _ _ b p1 r1) p2
      · exact h2.inj _ _ b p1 r1
  refine ⟨G', rfl, rfl, hrel, hst, h3.1, h3.2.1, fun x hx => ?_⟩
  by_cases ex : x = i
  · subst ex
    have hv := h3.2.2 x hx
    rw [h] at hv
    simp only [Fr.put, if_true]
    simp only [Rv] at hv ⊢
    obtain ⟨v1, v2, v3⟩ := hv
    refine ⟨live_lt h2 ha, v2, fun e2 k2 cs2 hm => ?_⟩
    rcases hsub a _ hm with ⟨_, hq⟩ | ⟨q, _⟩
    · cases hq
      obtain ⟨v4, v5⟩ := v3 e k cs' ha'
      refine ⟨v4, fun ht => ?_⟩
      have := v5 ht
      rw [hμa]
      exact this
    · exact absurd rfl q
  · rw [put_off (by simpa using fun e => ex e.symm)]
    exact (h3.2.2 x hx).step hst
end Go.Proofs.Ytfihpbeihlpfcaa.Ev
