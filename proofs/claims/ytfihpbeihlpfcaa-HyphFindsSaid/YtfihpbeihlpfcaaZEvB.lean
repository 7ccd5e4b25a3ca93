/- How the real world may turn while the store is told anew: new rows, writes, growth. -/
import Derived.Test.YtfihpbeihlpfcaaZEvA
set_option linter.unusedVariables false
set_option linter.unusedSimpArgs false
namespace Go.Proofs.Ytfihpbeihlpfcaa.Ev
open Go Go.RowKit

theorem rat_iff {G : Ctx} : ∀ {cs : List AV} {b off : Nat}, Rat G cs b off ↔ ∀ j x, cs[j]? = some x → ∃ v, G.w.cell? ⟨b, off + j, none⟩ = some v ∧ Rv G x v
  | [], b, off => by simp [Rat]
  | y :: ys, b, off => by
    simp only [Rat]
    constructor
    · rintro ⟨h0, ht⟩ j x hj
      cases j with
      | zero => simp at hj; subst hj; simpa using h0
      | succ j =>
        obtain ⟨v, hv⟩ := (rat_iff (cs := ys)).1 ht j x (by simpa using hj)
        exact ⟨v, by rw [show off + (j + 1) = off + 1 + j by omega]; exact hv⟩
    · intro h
      refine ⟨by simpa using h 0 y (by simp), (rat_iff (cs := ys)).2 fun j x hj => ?_⟩
      obtain ⟨v, hv⟩ := h (j + 1) x (by simpa using hj)
      exact ⟨v, by rw [show off + 1 + j = off + (j + 1) by omega]; exact hv⟩

/-- The first cells of an array read as these. -/
def Pre (G : Ctx) (cs : List AV) (c : Array Value) (off : Nat) : Prop := ∀ j x, cs[j]? = some x → ∃ v, c[off + j]? = some v ∧ Rv G x v

theorem rvs_iff {G : Ctx} : ∀ {cs : List AV} {vs : List Value}, Rvs G cs vs ↔ cs.length = vs.length ∧ ∀ (j : Nat) (x : AV), cs[j]? = some x → ∃ v, vs[j]? = some v ∧ Rv G x v
  | [], vs => by
    simp only [Rvs]
    constructor
    · rintro rfl; exact ⟨rfl, fun j x h => by simp at h⟩
    · rintro ⟨h, _⟩; exact List.eq_nil_of_length_eq_zero (by simpa using h.symm)
  | y :: ys, vs => by
    simp only [Rvs]
    constructor
    · rintro ⟨v, us, rfl, hv, ht⟩
      obtain ⟨hl, h⟩ := (rvs_iff (cs := ys)).1 ht
      refine ⟨by simp [hl], fun j x hj => ?_⟩
      cases j with
      | zero => simp at hj; subst hj; exact ⟨v, by simp, hv⟩
      | succ j => simpa using h j x (by simpa using hj)
    · rintro ⟨hl, h⟩
      cases vs with
      | nil => simp at hl
      | cons v us =>
        obtain ⟨v', e, hv⟩ := h 0 y (by simp)
        simp at e; subst e
        exact ⟨v, us, rfl, hv, (rvs_iff (cs := ys)).2 ⟨by simpa using hl, fun j x hj => by simpa using h (j + 1) x (by simpa using hj)⟩⟩

theorem Rvs.pre {G : Ctx} {cs : List AV} {vs : List Value} (h : Rvs G cs vs) : Pre G cs vs.toArray 0 := fun j x hj => by
  obtain ⟨v, e, hv⟩ := (rvs_iff.1 h).2 j x hj
  exact ⟨v, by simpa using e, hv⟩

theorem Pre.rat {G : Ctx} {cs : List AV} {c : Array Value} {off b : Nat} {e : TypeId} {fr : Nat × Nat} (h : Pre G cs c off) (hb : G.w.heap[b]? = some (.cells c e fr)) : Rat G cs b off :=
  rat_iff.2 fun j x hj => by
    obtain ⟨v, hv, hr⟩ := h j x hj
    exact ⟨v, by simp [World.cell?, hb, hv], hr⟩

theorem Rat.pre {G : Ctx} {cs : List AV} {c : Array Value} {off b : Nat} {e : TypeId} {fr : Nat × Nat} (h : Rat G cs b off) (hb : G.w.heap[b]? = some (.cells c e fr)) : Pre G cs c off :=
  fun j x hj => by
    obtain ⟨v, hv, hr⟩ := rat_iff.1 h j x hj
    exact ⟨v, by simpa [World.cell?, hb] using hv, hr⟩

theorem Pre.step {G G' : Ctx} (h : Step G G') {cs : List AV} {c : Array Value} {off : Nat} (hp : Pre G cs c off) : Pre G' cs c off := fun j x hj => by
  obtain ⟨v, hv, hr⟩ := hp j x hj
  exact ⟨v, hv, hr.step h⟩

theorem Ents.step {G G' : Ctx} (h : Step G G') : ∀ {es : List (Value × AV)} {us : List MapEntry}, Ents G es us → Ents G' es us
  | [], us, he => by simpa only [Ents] using he
  | x :: xs, us, he => by
    simp only [Ents] at he ⊢
    obtain ⟨e, us', rfl, h1, h2, h3⟩ := he
    exact ⟨e, us', rfl, h1, h2.step h, Ents.step h h3⟩

theorem ItOk.keep {G G' : Ctx} (h : Step G G') {b : Nat} (hb : G'.w.heap[b]? = G.w.heap[b]?) {i : It} (ho : ItOk G b i) : ItOk G' b i := by
  cases i with
  | mapz kd z es => exact ho.elim
  | str s p => exact hb.trans ho
  | map cur left =>
    rcases ho with ⟨s, e, la, h1, h2⟩ | ⟨bm, s, e, la, en, cl, h1, h2, h3, h4, h5, h6, h8, h7, h9⟩
    · exact .inl ⟨s, e, la, hb.trans h1, h2⟩
    · refine .inr ⟨bm, s, e, la, en, cl, hb.trans h1, h.old h2, (h.keep bm h2).trans h3, h4, h5, h6, h8, h7.step h, fun c hc => ?_⟩
      obtain ⟨q1, st, x, q2, q3, q4, q5⟩ := h9 c hc
      exact ⟨q1, st, x, q2, q3, q4, q5.step h⟩
theorem ItOk.some {G : Ctx} {b : Nat} {i : It} (ho : ItOk G b i) : ∃ x, G.w.heap[b]? = some x := by
  cases i with
  | mapz kd z es => exact ho.elim
  | str s p => exact ⟨_, ho⟩
  | map cur left =>
    rcases ho with ⟨s, e, la, h1, h2⟩ | ⟨bm, s, e, la, en, cl, h1, _⟩
    · exact ⟨_, h1⟩
    · exact ⟨_, h1⟩
/-- What isn't touched stays. -/
theorem ObOk.keep {G G' : Ctx} (h : Step G G') {l : Nat} {o : Ob} (hm : G'.μ l = G.μ l) (hb : ∀ b, G.μ l = some b → G'.w.heap[b]? = G.w.heap[b]?) (ho : ObOk G l o) : ObOk G' l o := by
  cases o with
  | row e k cs =>
    refine ⟨ho.1, ?_⟩
    rcases ho.2 with ⟨a1, a2⟩ | ⟨b, c, a1, a2, a3, a4⟩
    · exact .inl ⟨hm.trans a1, a2⟩
    · exact .inr ⟨b, c, hm.trans a1, (hb b a1).trans a2, a3, a4.step h _ _ _ (fun o => cell_of_heap (hb b a1) o)⟩
  | map es =>
    obtain ⟨b, en, cl, a1, a2, a3, a4⟩ := ho
    exact ⟨b, en, cl, hm.trans a1, (hb b a1).trans a2, a3.step h, a4⟩
  | iter i =>
    obtain ⟨b, a1, a2⟩ := ho
    exact ⟨b, hm.trans a1, ItOk.keep h (hb b a1) a2⟩

/-! ### the store's own words -/
def St.add (S : St) (o : Ob) : St := ⟨fun l => if l = S.n then some o else S.m l, S.n + 1⟩
def St.set (S : St) (l : Nat) (o : Ob) : St := ⟨fun l' => if l' = l then some o else S.m l', S.n⟩
def St.kill (S : St) (l : Nat) : St := ⟨fun l' => if l' = l then none else S.m l', S.n⟩
theorem St.set_n (S : St) (l : Nat) (o : Ob) : (S.set l o).n = S.n := rfl
theorem St.add_new (S : St) (o : Ob) : (S.add o).m S.n = some o := by simp [St.add]
theorem St.add_old (S : St) (o : Ob) {l : Nat} (h : l < S.n) : (S.add o).m l = S.m l := by simp [St.add]; omega
theorem St.set_same (S : St) (l : Nat) (o : Ob) : (S.set l o).m l = some o := by simp [St.set]
theorem St.set_ne (S : St) {l l' : Nat} (o : Ob) (h : l' ≠ l) : (S.set l o).m l' = S.m l' := by simp [St.set, h]
theorem owned_lt {G : Ctx} (hR : Rel G) {b : Nat} (h : G.owned b) : b < G.w.heap.size := by
  obtain ⟨l, ⟨o, ho⟩, hb⟩ := h
  have hx := hR.ok l o ho
  have : ∃ x, G.w.heap[b]? = some x := by
    cases o with
    | row e k cs =>
      rcases hx.2 with ⟨a1, _⟩ | ⟨b', c, a1, a2, _⟩
      · rw [hb] at a1; cases a1
      · rw [hb] at a1; cases a1; exact ⟨_, a2⟩
    | map es => obtain ⟨b', en, cl, a1, a2, _⟩ := hx; rw [hb] at a1; cases a1; exact ⟨_, a2⟩
    | iter i => obtain ⟨b', a1, a2⟩ := hx; rw [hb] at a1; cases a1; exact a2.some
  obtain ⟨x, hx⟩ := this
  exact (Array.getElem?_eq_some_iff.1 hx).1

theorem live_lt {G : Ctx} (hR : Rel G) {l : Nat} {o : Ob} (h : G.S.m l = some o) : l < G.S.n := by
  rcases Nat.lt_or_ge l G.S.n with h1 | h1
  · exact h1
  · rw [hR.dom l h1] at h; cases h

/-! ### draws -/
def Ctx.drew (G : Ctx) (n : Nat) : Ctx := { G with w := { G.w with drawn := n } }
theorem drew_step (G : Ctx) (n : Nat) (h : G.w.drawn ≤ n := by omega) : Step G (G.drew n) := by
  refine ⟨rfl, rfl, h, rfl, Nat.le_refl _, fun _ _ => rfl, fun _ _ h => h, Nat.le_refl _, fun l o _ h => ?_, maps_same fun _ _ => rfl⟩
  cases o with
  | row e k cs => exact ⟨cs, h, Nat.le_refl _, fun _ => ⟨rfl, fun b c _ hc => ⟨c, hc, rfl⟩⟩⟩
  | map es => exact ⟨es, h, rfl⟩
  | iter i => exact ⟨i, h, rfl⟩
theorem drew_rel {G : Ctx} (hR : Rel G) (n : Nat) (hn : G.w.drawn ≤ n := by omega) : Rel (G.drew n) :=
  ⟨hR.dom, fun l o h => (hR.ok l o h).keep (drew_step G n hn) rfl (fun _ _ => rfl), hR.inj⟩

/-! ### a new block, told or not -/
def Ctx.add (G : Ctx) (x : Obj) (o : Ob) : Ctx := ⟨G.w.alloc x, fun l => if l = G.S.n then some G.w.heap.size else G.μ l, G.S.add o⟩
theorem heap_alloc_lt (w : World) (x : Obj) {b : Nat} (h : b < w.heap.size) : (w.alloc x).heap[b]? = w.heap[b]? := Below.heap_alloc w x b h
theorem heap_alloc_eq (w : World) (x : Obj) : (w.alloc x).heap[w.heap.size]? = some x := by show (w.heap.push x)[w.heap.size]? = _; simp
theorem heap_alloc_size (w : World) (x : Obj) : (w.alloc x).heap.size = w.heap.size + 1 := by show (w.heap.push x).size = _; simp

theorem add_step {G : Ctx} (hR : Rel G) (x : Obj) (o : Ob) : Step G (G.add x o) := by
  refine ⟨rfl, rfl, Nat.le_refl _, rfl, by simp [Ctx.add, heap_alloc_size], fun b hb => heap_alloc_lt _ _ hb.1, ?_, by simp [Ctx.add, St.add], ?_, maps_same fun b hb => heap_alloc_lt _ _ hb⟩
  · rintro b hb ⟨l, ⟨o', ho'⟩, hm⟩
    by_cases hl : l = G.S.n
    · simp [Ctx.add, hl] at hm; omega
    · exact ⟨l, ⟨o', by simpa [Ctx.add, St.add, hl] using ho'⟩, by simpa [Ctx.add, hl] using hm⟩
  · intro l o' hl ho'
    have hne : l ≠ G.S.n := by omega
    have h0 : G.S.m l = some o' := by simpa [Ctx.add, St.add, hne] using ho'
    have hμ : (G.add x o).μ l = G.μ l := by simp [Ctx.add, hne]
    cases o' with
    | row e k cs => exact ⟨cs, h0, Nat.le_refl _, fun _ => ⟨hμ, fun b c hb hc => ⟨c, by rw [← hc]; exact heap_alloc_lt _ _ (Array.getElem?_eq_some_iff.1 hc).1, rfl⟩⟩⟩
    | map es => exact ⟨es, h0, hμ⟩
    | iter i => exact ⟨i, h0, hμ⟩

theorem add_rel {G : Ctx} (hR : Rel G) {x : Obj} {o : Ob} (ho : ObOk (G.add x o) G.S.n o) : Rel (G.add x o) := by
  have hs := add_step hR x o
  refine ⟨fun l hl => ?_, fun l o' h => ?_, fun l l' b h h' => ?_⟩
  · have h1 : G.S.n + 1 ≤ l := hl
    have : l ≠ G.S.n := by omega
    simp only [Ctx.add, St.add, if_neg this]
    exact hR.dom l (by omega)
  · by_cases hl : l = G.S.n
    · subst hl
      have : o' = o := by simpa [Ctx.add, St.add] using h.symm
      subst this; exact ho
    · have h0 : G.S.m l = some o' := by simpa [Ctx.add, St.add, hl] using h
      exact (hR.ok l o' h0).keep hs (by simp [Ctx.add, hl]) (fun b hb => heap_alloc_lt _ _ (owned_lt hR ⟨l, ⟨o', h0⟩, hb⟩))
  · have f : ∀ l, (G.add x o).live l b → (l = G.S.n ∧ b = G.w.heap.size) ∨ (l ≠ G.S.n ∧ G.live l b) := fun l h => by
      obtain ⟨⟨o', ho'⟩, hm⟩ := h
      by_cases hl : l = G.S.n
      · exact .inl ⟨hl, by simpa [Ctx.add, hl] using hm.symm⟩
      · exact .inr ⟨hl, ⟨o', by simpa [Ctx.add, St.add, hl] using ho'⟩, by simpa [Ctx.add, hl] using hm⟩
    rcases f l h with ⟨a1, a2⟩ | ⟨a1, a2⟩ <;> rcases f l' h' with ⟨b1, b2⟩ | ⟨b1, b2⟩
    · omega
    · have := owned_lt hR ⟨l', b2⟩; omega
    · have := owned_lt hR ⟨l, a2⟩; omega
    · exact hR.inj l l' b a2 b2

/-- A new row. -/
theorem add_row {G : Ctx} (hR : Rel G) (c : Array Value) (e : TypeId) (k : Nat) (cs : List AV) (hl : cs.length ≤ 281474976710656) (hc : Pre G cs c 0) (hsz : cs.length ≤ c.size) :
    Rel (G.add (.cells c e) (.row e k cs)) := by
  have hs := add_step hR (.cells c e) (.row e k cs)
  refine add_rel hR ⟨hl, .inr ⟨G.w.heap.size, c, by simp [Ctx.add], heap_alloc_eq _ _, hsz, ?_⟩⟩
  exact (hc.step hs).rat (heap_alloc_eq _ _)

/-- A place that has no block yet: the nil slice, to be appended to. -/
def Ctx.virt (G : Ctx) (e k : Nat) : Ctx := ⟨G.w, fun l => if l = G.S.n then none else G.μ l, G.S.add (.row e k [])⟩
theorem virt_step (G : Ctx) (e k : Nat) : Step G (G.virt e k) := by
  refine ⟨rfl, rfl, Nat.le_refl _, rfl, Nat.le_refl _, fun b hb => rfl, ?_, by simp [Ctx.virt, St.add], ?_, MapsGo.refl _⟩
  · rintro b hb ⟨l, ⟨o', ho'⟩, hm⟩
    by_cases hl : l = G.S.n
    · simp [Ctx.virt, hl] at hm
    · exact ⟨l, ⟨o', by simpa [Ctx.virt, St.add, hl] using ho'⟩, by simpa [Ctx.virt, hl] using hm⟩
  · intro l o' hl ho'
    have hne : l ≠ G.S.n := by omega
    have h0 : G.S.m l = some o' := by simpa [Ctx.virt, St.add, hne] using ho'
    have hμ : (G.virt e k).μ l = G.μ l := by simp [Ctx.virt, hne]
    cases o' with
    | row e k cs => exact ⟨cs, h0, Nat.le_refl _, fun _ => ⟨hμ, fun b c hb hc => ⟨c, hc, rfl⟩⟩⟩
    | map es => exact ⟨es, h0, hμ⟩
    | iter i => exact ⟨i, h0, hμ⟩
theorem virt_rel {G : Ctx} (hR : Rel G) (e k : Nat) : Rel (G.virt e k) := by
  have hs := virt_step G e k
  refine ⟨fun l hl => ?_, fun l o' h => ?_, fun l l' b h h' => ?_⟩
  · have h1 : G.S.n + 1 ≤ l := hl
    have : l ≠ G.S.n := by omega
    simp only [Ctx.virt, St.add, if_neg this]
    exact hR.dom l (by omega)
  · by_cases hl : l = G.S.n
    · subst hl
      have : o' = .row e k [] := by simpa [Ctx.virt, St.add] using h.symm
      subst this
      exact ⟨by simp, .inl ⟨by simp [Ctx.virt], rfl⟩⟩
    · have h0 : G.S.m l = some o' := by simpa [Ctx.virt, St.add, hl] using h
      exact (hR.ok l o' h0).keep hs (by simp [Ctx.virt, hl]) (fun b hb => rfl)
  · have f : ∀ l, (G.virt e k).live l b → G.live l b := fun l h => by
      obtain ⟨⟨o', ho'⟩, hm⟩ := h
      by_cases hl : l = G.S.n
      · simp [Ctx.virt, hl] at hm
      · exact ⟨⟨o', by simpa [Ctx.virt, St.add, hl] using ho'⟩, by simpa [Ctx.virt, hl] using hm⟩
    exact hR.inj l l' b (f l h) (f l' h')

/-! ### a place that is written no more -/
def Ctx.kill (G : Ctx) (l : Nat) : Ctx := { G with S := G.S.kill l }
theorem kill_step (G : Ctx) (l : Nat) : Step G (G.kill l) := by
  refine ⟨rfl, rfl, Nat.le_refl _, rfl, Nat.le_refl _, fun b hb => rfl, ?_, Nat.le_refl _, ?_, MapsGo.refl _⟩
  · rintro b hb ⟨l', ⟨o', ho'⟩, hm⟩
    refine ⟨l', ⟨o', ?_⟩, hm⟩
    by_cases hl : l' = l
    · simp [Ctx.kill, St.kill, hl] at ho'
    · simpa [Ctx.kill, St.kill, hl] using ho'
  · intro l' o' hl ho'
    have h0 : G.S.m l' = some o' := by
      by_cases hl : l' = l
      · simp [Ctx.kill, St.kill, hl] at ho'
      · simpa [Ctx.kill, St.kill, hl] using ho'
    cases o' with
    | row e k cs => exact ⟨cs, h0, Nat.le_refl _, fun _ => ⟨rfl, fun b c hb hc => ⟨c, hc, rfl⟩⟩⟩
    | map es => exact ⟨es, h0, rfl⟩
    | iter i => exact ⟨i, h0, rfl⟩
theorem kill_rel {G : Ctx} (hR : Rel G) (l : Nat) : Rel (G.kill l) := by
  have f : ∀ l' o', (G.kill l).S.m l' = some o' → G.S.m l' = some o' := fun l' o' ho' => by
    by_cases hl : l' = l
    · simp [Ctx.kill, St.kill, hl] at ho'
    · simpa [Ctx.kill, St.kill, hl] using ho'
  refine ⟨fun l' hl => ?_, fun l' o' h => (hR.ok l' o' (f l' o' h)).keep (kill_step G l) rfl (fun b hb => rfl), fun l1 l2 b h1 h2 => ?_⟩
  · by_cases h : l' = l
    · simp [Ctx.kill, St.kill, h]
    · simpa [Ctx.kill, St.kill, h] using hR.dom l' hl
  · obtain ⟨⟨o1, h1⟩, m1⟩ := h1
    obtain ⟨⟨o2, h2⟩, m2⟩ := h2
    exact hR.inj l1 l2 b ⟨⟨o1, f _ _ h1⟩, m1⟩ ⟨⟨o2, f _ _ h2⟩, m2⟩

/-- What a row holds may be read once it is written no more. -/
theorem kill_old {G : Ctx} (hR : Rel G) {l b : Nat} (h : G.live l b) : (G.kill l).old b := by
  refine ⟨owned_lt hR ⟨l, h⟩, ?_⟩
  rintro ⟨l', ⟨o', ho'⟩, hm⟩
  by_cases hl : l' = l
  · simp [Ctx.kill, St.kill, hl] at ho'
  · have : G.live l' b := ⟨⟨o', by simpa [Ctx.kill, St.kill, hl] using ho'⟩, hm⟩
    exact hl (hR.inj l' l b this h)

/-! ### a block that is written -/
def Ctx.put (G : Ctx) (w' : World) (l : Nat) (o : Ob) : Ctx := { G with w := w', S := G.S.set l o }

/-- The block of place l alone has turned; the place is told anew. -/
theorem put_step {G : Ctx} (hR : Rel G) {w' : World} {l b : Nat} {o : Ob} (hlive : G.live l b)
    (h1 : w'.os = G.w.os) (h2 : w'.tape = G.w.tape) (hd : G.w.drawn ≤ w'.drawn) (h3 : w'.output = G.w.output) (hsz : w'.heap.size = G.w.heap.size)
    (hoth : ∀ b', b' ≠ b → w'.heap[b']? = G.w.heap[b']?)
    (hob : match o with
      | .row e k cs' => ∃ cs, G.S.m l = some (.row e k cs) ∧ cs.length ≤ cs'.length ∧ (cs.length = cs'.length → ∀ c, G.w.heap[b]? = some (.cells c e (0, 0)) → ∃ c', w'.heap[b]? = some (.cells c' e (0, 0)) ∧ c'.size = c.size)
      | .map es' => ∃ es, G.S.m l = some (.map es)
      | .iter i' => ∃ i, G.S.m l = some (.iter i))
    (hmp : ∀ (en : Array MapEntry) (cl : Nat), G.w.heap[b]? = some (.map en cl) → ∃ en' cl', w'.heap[b]? = some (.map en' cl') ∧ Grown en en') : Step G (G.put w' l o) := by
  have hsame : ∀ l', (∃ o', (G.put w' l o).S.m l' = some o') → ∃ o', G.S.m l' = some o' := fun l' ⟨o', ho'⟩ => by
    by_cases hl : l' = l
    · subst hl; exact hlive.1
    · exact ⟨o', by simpa [Ctx.put, St.set, hl] using ho'⟩
  refine ⟨h1, h2, hd, h3, by show G.w.heap.size ≤ w'.heap.size; omega, fun b' hb' => hoth b' (fun e => hb'.2 (e ▸ ⟨l, hlive⟩)), ?_, Nat.le_refl _, ?_, fun b' en cl h => by
    by_cases e : b' = b
    · subst e; exact hmp en cl h
    · exact ⟨en, cl, (hoth b' e).trans h, Grown.refl en⟩⟩
  · rintro b' hb' ⟨l', ho', hm⟩
    exact ⟨l', hsame l' ho', hm⟩
  · intro l' o' hl' ho'
    by_cases hl : l' = l
    · subst hl
      have e : o' = o := by simpa [Ctx.put, St.set] using ho'.symm
      subst e
      cases o' with
      | row e k cs' =>
        obtain ⟨cs, a1, a2, a3⟩ := hob
        refine ⟨cs, a1, a2, fun he => ⟨rfl, fun b2 c hb2 hc => ?_⟩⟩
        have : b2 = b := by have := hlive.2; rw [hb2] at this; cases this; rfl
        subst this
        exact a3 he c hc
      | map es' => obtain ⟨es, a1⟩ := hob; exact ⟨es, a1, rfl⟩
      | iter i' => obtain ⟨p, a1⟩ := hob; exact ⟨p, a1, rfl⟩
    · have h0 : G.S.m l' = some o' := by simpa [Ctx.put, St.set, hl] using ho'
      cases o' with
      | row e k cs =>
        refine ⟨cs, h0, Nat.le_refl _, fun _ => ⟨rfl, fun b2 c hb2 hc => ⟨c, ?_, rfl⟩⟩⟩
        have : b2 ≠ b := fun e => hl (hR.inj l' l b ⟨⟨_, h0⟩, e ▸ hb2⟩ hlive)
        exact (hoth b2 this).trans hc
      | map es => exact ⟨es, h0, rfl⟩
      | iter i => exact ⟨i, h0, rfl⟩

theorem put_rel {G : Ctx} (hR : Rel G) {w' : World} {l b : Nat} {o : Ob} (hlive : G.live l b) (hs : Step G (G.put w' l o))
    (hoth : ∀ b', b' ≠ b → w'.heap[b']? = G.w.heap[b']?) (ho : ObOk (G.put w' l o) l o) : Rel (G.put w' l o) := by
  have hll := live_lt hR hlive.1.choose_spec
  refine ⟨fun l' hl' => ?_, fun l' o' h => ?_, fun l1 l2 b' a1 a2 => ?_⟩
  · have h1 : G.S.n ≤ l' := hl'
    have : l' ≠ l := by omega
    simpa [Ctx.put, St.set, this] using hR.dom l' h1
  · by_cases hl : l' = l
    · subst hl
      have e : o' = o := by simpa [Ctx.put, St.set] using h.symm
      subst e; exact ho
    · have h0 : G.S.m l' = some o' := by simpa [Ctx.put, St.set, hl] using h
      exact (hR.ok l' o' h0).keep hs rfl (fun b2 hb2 => hoth b2 (fun e => hl (hR.inj l' l b ⟨⟨_, h0⟩, e ▸ hb2⟩ hlive)))
  · have f : ∀ l', (G.put w' l o).live l' b' → G.live l' b' := fun l' ⟨⟨o', ho'⟩, hm⟩ => by
      by_cases hl : l' = l
      · subst hl; exact ⟨hlive.1, hm⟩
      · exact ⟨⟨o', by simpa [Ctx.put, St.set, hl] using ho'⟩, hm⟩
    exact hR.inj l1 l2 b' (f l1 a1) (f l2 a2)

/-! ### a row that moves into a new block -/
def Ctx.move (G : Ctx) (x : Obj) (l : Nat) (o : Ob) : Ctx := ⟨G.w.alloc x, fun l' => if l' = l then some G.w.heap.size else G.μ l', G.S.set l o⟩

theorem move_step {G : Ctx} (hR : Rel G) {x : Obj} {l : Nat} {e k : Nat} {cs cs' : List AV} (h0 : G.S.m l = some (.row e k cs)) (hlt : cs.length < cs'.length) : Step G (G.move x l (.row e k cs')) := by
  refine ⟨rfl, rfl, Nat.le_refl _, rfl, by simp [Ctx.move, heap_alloc_size], fun b hb => heap_alloc_lt _ _ hb.1, ?_, Nat.le_refl _, ?_, maps_same fun b hb => heap_alloc_lt _ _ hb⟩
  · rintro b hb ⟨l', ⟨o', ho'⟩, hm⟩
    by_cases hl : l' = l
    · simp [Ctx.move, hl] at hm; omega
    · exact ⟨l', ⟨o', by simpa [Ctx.move, St.set, hl] using ho'⟩, by simpa [Ctx.move, hl] using hm⟩
  · intro l' o' hl' ho'
    by_cases hl : l' = l
    · subst hl
      have e : o' = .row e k cs' := by simpa [Ctx.move, St.set] using ho'.symm
      subst e
      exact ⟨cs, h0, by omega, fun he => by omega⟩
    · have h1 : G.S.m l' = some o' := by simpa [Ctx.move, St.set, hl] using ho'
      have hμ : (G.move x l (.row e k cs')).μ l' = G.μ l' := by simp [Ctx.move, hl]
      cases o' with
      | row e2 k2 cs2 => exact ⟨cs2, h1, Nat.le_refl _, fun _ => ⟨hμ, fun b c hb hc => ⟨c, by rw [← hc]; exact heap_alloc_lt _ _ (Array.getElem?_eq_some_iff.1 hc).1, rfl⟩⟩⟩
      | map es => exact ⟨es, h1, hμ⟩
      | iter i => exact ⟨i, h1, hμ⟩

theorem move_rel {G : Ctx} (hR : Rel G) {c : Array Value} {l : Nat} {e k : Nat} {cs cs' : List AV} (h0 : G.S.m l = some (.row e k cs)) (hlt : cs.length < cs'.length)
    (hl : cs'.length ≤ 281474976710656) (hc : Pre G cs' c 0) (hsz : cs'.length ≤ c.size) : Rel (G.move (.cells c e) l (.row e k cs')) := by
  have hs := move_step hR (x := .cells c e) h0 hlt
  have hll := live_lt hR h0
  refine ⟨fun l' hl' => ?_, fun l' o' h => ?_, fun l1 l2 b' a1 a2 => ?_⟩
  · have h1 : G.S.n ≤ l' := hl'
    have : l' ≠ l := by omega
    simpa [Ctx.move, St.set, this] using hR.dom l' h1
  · by_cases hll : l' = l
    · subst hll
      have e : o' = .row e k cs' := by simpa [Ctx.move, St.set] using h.symm
      subst e
      exact ⟨hl, .inr ⟨G.w.heap.size, c, by simp [Ctx.move], heap_alloc_eq _ _, hsz, (hc.step hs).rat (heap_alloc_eq _ _)⟩⟩
    · have h1 : G.S.m l' = some o' := by simpa [Ctx.move, St.set, hll] using h
      exact (hR.ok l' o' h1).keep hs (by simp [Ctx.move, hll]) (fun b hb => heap_alloc_lt _ _ (owned_lt hR ⟨l', ⟨o', h1⟩, hb⟩))
  · have f : ∀ l', (G.move (.cells c e) l (.row e k cs')).live l' b' → (l' = l ∧ b' = G.w.heap.size) ∨ (l' ≠ l ∧ G.live l' b') := fun l' ⟨⟨o', ho'⟩, hm⟩ => by
      by_cases hl : l' = l
      · exact .inl ⟨hl, by simpa [Ctx.move, hl] using hm.symm⟩
      · exact .inr ⟨hl, ⟨o', by simpa [Ctx.move, St.set, hl] using ho'⟩, by simpa [Ctx.move, hl] using hm⟩
    rcases f l1 a1 with ⟨p1, p2⟩ | ⟨p1, p2⟩ <;> rcases f l2 a2 with ⟨q1, q2⟩ | ⟨q1, q2⟩
    · omega
    · have := owned_lt hR ⟨l2, q2⟩; omega
    · have := owned_lt hR ⟨l1, p2⟩; omega
    · exact hR.inj l1 l2 b' p2 q2
end Go.Proofs.Ytfihpbeihlpfcaa.Ev
