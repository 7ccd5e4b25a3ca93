/- The abstract values, the store and what they say of the real world (no program in sight). -/
import Derived.Orders
import Derived.Still
import Derived.Below
import Derived.Laws.Entries
import Derived.Laws.OwnMore
import Derived.Deep.Draws
set_option linter.unusedVariables false
set_option linter.unusedSimpArgs false
namespace Go.Proofs.Ytfihpbeihlpfcaa.Ev
open Go Go.RowKit

/-- Abstract values: 'ro' a slice that is only read (n elements, its cells), 'ref' a slice into an own row (tot: the row's length when it was made), 'ptr' a pointer into an own row, 'rop' a pointer to cells that are only read. -/
inductive AV where
  | sc (v : Value)
  | ro (n : Nat) (cs : List AV)
  | ref (l tot off n : Nat)
  | ptr (l tot off : Nat)
  | rop (cs : List AV)
  | clo (f : FuncId) (caps : List AV)
  | bnd (f : FuncId) (fs : List AV)
  | mp (l : Nat)
  | rom (ks : List Value) (vs : List AV)
  | it (l : Nat)
  | stamp (l : Nat) (k : Value)
  | agg (cs : List AV)
  | tup (vs : List AV)
  | ifc (t : TypeId) (v : AV)
  | junk

/-- The kind of a map's keys. -/
inductive K1 where
  | str | int (k : IntKind) | bool
inductive KeyKd where
  | str | int (k : IntKind) | bool | flds (fs : List K1)

/-- A key of the kind. -/
def K1.is : K1 → Value → Bool
  | .str, .string _ => true
  | .int k, .int k' _ => decide (k' = k)
  | .bool, .bool _ => true
  | _, _ => false
def is1s : List K1 → List Value → Bool
  | [], [] => true
  | k :: ks, v :: vs => k.is v && is1s ks vs
  | _, _ => false
def KeyKd.is : KeyKd → Value → Bool
  | .flds ks, .agg cs => is1s ks cs.toList
  | .str, .string _ => true
  | .int k, .int k' _ => decide (k' = k)
  | .bool, .bool _ => true
  | _, _ => false
/-- What a place of the store holds ('mapz': no place, a bound: a map that may have gained entries of the zero value). -/
inductive It where
  | str (s : ByteArray) (pos : Nat)
  | map (cur : Option (Value × AV)) (left : List (Value × AV))
  | mapz (kd : KeyKd) (z : Value) (es : List (Value × AV))
inductive Ob where
  | row (e : TypeId) (k : Nat) (cs : List AV)
  | map (es : List (Value × AV))
  | iter (i : It)

structure St where
  m : Nat → Option Ob
  n : Nat

structure Ctx where
  w : World
  μ : Nat → Option Nat
  S : St

def Ctx.live (G : Ctx) (l b : Nat) : Prop := (∃ o, G.S.m l = some o) ∧ G.μ l = some b
def Ctx.owned (G : Ctx) (b : Nat) : Prop := ∃ l, G.live l b
def Ctx.old (G : Ctx) (b : Nat) : Prop := b < G.w.heap.size ∧ ¬ G.owned b

def RefFact (G : Ctx) (l tot off n : Nat) (u : Value) : Prop :=
  l < G.S.n ∧ (∃ a m c, u = .slice a m c) ∧ ∀ e k cs, G.S.m l = some (.row e k cs) → tot ≤ cs.length ∧ (tot = cs.length →
    ((G.μ l = none ∧ cs = [] ∧ off = 0 ∧ n = 0 ∧ u = .slice none 0 0) ∨
    ∃ b c cap, G.μ l = some b ∧ G.w.heap[b]? = some (.cells c e (0, 0)) ∧
      (u = .slice (some ⟨b, off, none⟩) n cap ∨ (cap = 0 ∧ n = 0 ∧ 0 < off ∧ ∃ o', u = .slice (some ⟨b, o', none⟩) 0 0)) ∧
      (n ≤ cap ∧ n ≤ 9223372036854775807) ∧ off + cap * k ≤ c.size ∧ tot ≤ off + cap * k))

def PtrFact (G : Ctx) (l tot off : Nat) (u : Value) : Prop :=
  l < G.S.n ∧ (∃ a, u = .pointer a) ∧ ∀ e k cs, G.S.m l = some (.row e k cs) → tot ≤ cs.length ∧ (tot = cs.length → ∃ b, G.μ l = some b ∧ u = .pointer (some ⟨b, off, none⟩))

/-- Keys that are one. -/
def keyEq1 : Value → Value → Bool
  | .string a, .string b => a == b
  | .int _ a, .int _ b => a == b
  | .bool a, .bool b => a == b
  | _, _ => false
def keyEqs : List Value → List Value → Bool
  | [], [] => true
  | x :: xs, y :: ys => keyEq1 x y && keyEqs xs ys
  | _, _ => false
def keyEq : Value → Value → Bool
  | .agg a, .agg b => keyEqs a.toList b.toList
  | .string a, .string b => a == b
  | .int _ a, .int _ b => a == b
  | .bool a, .bool b => a == b
  | _, _ => false
/-- A map that only gained entries. -/
def Grown (A B : Array MapEntry) : Prop := ∀ (i : Nat) (e : MapEntry), A[i]? = some e → ∃ e', B[i]? = some e' ∧ e'.born = e.born ∧ e'.key = e.key
def MapsGo (w w' : World) : Prop := ∀ (b : Nat) (en : Array MapEntry) (cl : Nat), w.heap[b]? = some (.map en cl) → ∃ en' cl', w'.heap[b]? = some (.map en' cl') ∧ Grown en en'
theorem Grown.refl (A : Array MapEntry) : Grown A A := fun i e h => ⟨e, h, rfl, rfl⟩
theorem MapsGo.refl (w : World) : MapsGo w w := fun b en cl h => ⟨en, cl, h, Grown.refl en⟩
theorem maps_same {w w' : World} (h : ∀ b, b < w.heap.size → w'.heap[b]? = w.heap[b]?) : MapsGo w w' := fun b en cl hb => ⟨en, cl, (h b (Array.getElem?_eq_some_iff.1 hb).1).trans hb, Grown.refl en⟩
theorem MapsGo.trans {a b c : World} (h : MapsGo a b) (k : MapsGo b c) : MapsGo a c := fun x en cl hx => by
  obtain ⟨en1, cl1, h1, g1⟩ := h x en cl hx
  obtain ⟨en2, cl2, h2, g2⟩ := k x en1 cl1 h1
  refine ⟨en2, cl2, h2, fun i e he => ?_⟩
  obtain ⟨e1, a1, a2, a3⟩ := g1 i e he
  obtain ⟨e2, b1, b2, b3⟩ := g2 i e1 a1
  exact ⟨e2, b1, b2.trans a2, b3.trans a3⟩
/-- The stamp of key k's entry in an own map. -/
def StampFact (G : Ctx) (l : Nat) (k : Value) (u : Value) : Prop :=
  l < G.S.n ∧ ∃ n : Nat, u = .int .i64 n ∧ ∀ es, G.S.m l = some (.map es) → ∃ (b : Nat) (en : Array MapEntry) (cl i : Nat) (e : MapEntry), G.μ l = some b ∧ G.w.heap[b]? = some (.map en cl) ∧ en[i]? = some e ∧ e.born = n ∧ e.key = k ∧ ∀ (j : Nat) (e' : MapEntry), j < i → en[j]? = some e' → keyEq k e'.key = false
def MapFact (G : Ctx) (l : Nat) (u : Value) : Prop :=
  l < G.S.n ∧ (∃ r, u = .map r) ∧ ∀ es, G.S.m l = some (.map es) → ∃ b, G.μ l = some b ∧ u = .map (some b)

def ItFact (G : Ctx) (l : Nat) (u : Value) : Prop :=
  l < G.S.n ∧ (∃ a, u = .pointer a) ∧ ∀ i, G.S.m l = some (.iter i) → ∃ b, G.μ l = some b ∧ u = .pointer (some ⟨b, 0, none⟩)

/-- The stamps of a map's entries: each its own, all of yesterday. -/
def Borns (ents : Array MapEntry) (clock : Nat) : Prop := (∀ e ∈ ents.toList, e.born < clock) ∧ (ents.toList.map (·.born)).Nodup
mutual
def Rv (G : Ctx) : AV → Value → Prop
  | .sc v, u => u = v
  | .ro n cs, u => ∃ a c, u = .slice a n c ∧ n ≤ c ∧ n ≤ 9223372036854775807 ∧ (a = none → c = 0) ∧ (cs = [] ∨ ∃ b off, a = some ⟨b, off, none⟩ ∧ G.old b ∧ Rat G cs b off)
  | .ref l tot off n, u => RefFact G l tot off n u
  | .ptr l tot off, u => PtrFact G l tot off u
  | .rop cs, u => ∃ b off, u = .pointer (some ⟨b, off, none⟩) ∧ G.old b ∧ Rat G cs b off
  | .clo f caps, u => ∃ vs : List Value, u = .func (.func f) #[] vs.toArray ∧ Rvs G caps vs
  | .bnd f fs, u => ∃ vs : List Value, u = .func (.func f) vs.toArray #[] ∧ Rvs G fs vs
  | .mp l, u => MapFact G l u
  | .rom ks vs, u => (u = .map none ∧ ks = [] ∧ vs = []) ∨ ∃ (b : Nat) (ents : Array MapEntry) (clock : Nat), u = .map (some b) ∧ G.old b ∧ G.w.heap[b]? = some (.map ents clock) ∧ ents.toList.map (·.key) = ks ∧ Rvs G vs (ents.toList.map (·.val)) ∧ Borns ents clock
  | .it l, u => ItFact G l u
  | .stamp l k, u => StampFact G l k u
  | .agg cs, u => ∃ vs : List Value, u = .agg vs.toArray ∧ Rvs G cs vs
  | .tup cs, u => ∃ vs : List Value, u = .tuple vs.toArray ∧ Rvs G cs vs
  | .ifc t x, u => ∃ v, u = .iface t v ∧ Rv G x v
  | .junk, _ => True
def Rat (G : Ctx) : List AV → Nat → Nat → Prop
  | [], _, _ => True
  | x :: xs, b, off => (∃ v, G.w.cell? ⟨b, off, none⟩ = some v ∧ Rv G x v) ∧ Rat G xs b (off + 1)
def Rvs (G : Ctx) : List AV → List Value → Prop
  | [], vs => vs = []
  | x :: xs, vs => ∃ v us, vs = v :: us ∧ Rv G x v ∧ Rvs G xs us
end

def Ents (G : Ctx) : List (Value × AV) → List MapEntry → Prop
  | [], es => es = []
  | x :: xs, es => ∃ e us, es = e :: us ∧ e.key = x.1 ∧ Rv G x.2 e.val ∧ Ents G xs us

/-- An iterator that stands in block b. -/
def ItOk (G : Ctx) (b : Nat) : It → Prop
  | .mapz _ _ _ => False
  | .str s p => G.w.heap[b]? = some (.stringIter s p)
  | .map cur left => (∃ since seen last, G.w.heap[b]? = some (.mapIter none since seen last) ∧ left = [] ∧ cur = none) ∨ ∃ bm since seen last ents clock, G.w.heap[b]? = some (.mapIter (some bm) since seen last) ∧ G.old bm ∧ G.w.heap[bm]? = some (.map ents clock) ∧
      since ≤ last ∧ since ≤ clock ∧ (∀ e ∈ ents.toList, e.born < since) ∧ (ents.toList.map (·.born)).Nodup ∧ Ents G left (ents.toList.filter fun e => !seen.contains e.born) ∧
      ∀ c, cur = some c → clock = last ∧ ∃ st e, seen.back? = some st ∧ ents.find? (fun e => e.born == st) = some e ∧ e.key = c.1 ∧ Rv G c.2 e.val
def ObOk (G : Ctx) (l : Nat) : Ob → Prop
  | .row e k cs => cs.length ≤ 281474976710656 ∧ ((G.μ l = none ∧ cs = []) ∨ ∃ b c, G.μ l = some b ∧ G.w.heap[b]? = some (.cells c e (0, 0)) ∧ cs.length ≤ c.size ∧ Rat G cs b 0)
  | .map es => ∃ b ents clock, G.μ l = some b ∧ G.w.heap[b]? = some (.map ents clock) ∧ Ents G es ents.toList ∧ Borns ents clock
  | .iter i => ∃ b, G.μ l = some b ∧ ItOk G b i

structure Rel (G : Ctx) : Prop where
  dom : ∀ l, G.S.n ≤ l → G.S.m l = none
  ok : ∀ l o, G.S.m l = some o → ObOk G l o
  inj : ∀ l l' b, G.live l b → G.live l' b → l = l'

/-- A place of the store, before and after. -/
def ObStep (G G' : Ctx) (l : Nat) : Ob → Prop
  | .row e k cs' => ∃ cs, G.S.m l = some (.row e k cs) ∧ cs.length ≤ cs'.length ∧ (cs.length = cs'.length → G'.μ l = G.μ l ∧
      ∀ b c, G.μ l = some b → G.w.heap[b]? = some (.cells c e (0, 0)) → ∃ c', G'.w.heap[b]? = some (.cells c' e (0, 0)) ∧ c'.size = c.size)
  | .map es' => ∃ es, G.S.m l = some (.map es) ∧ G'.μ l = G.μ l
  | .iter _ => ∃ i, G.S.m l = some (.iter i) ∧ G'.μ l = G.μ l

structure Step (G G' : Ctx) : Prop where
  os : G'.w.os = G.w.os
  tape : G'.w.tape = G.w.tape
  drawn : G.w.drawn ≤ G'.w.drawn
  output : G'.w.output = G.w.output
  size : G.w.heap.size ≤ G'.w.heap.size
  keep : ∀ b, G.old b → G'.w.heap[b]? = G.w.heap[b]?
  own : ∀ b, b < G.w.heap.size → G'.owned b → G.owned b
  len : G.S.n ≤ G'.S.n
  row : ∀ l o, l < G.S.n → G'.S.m l = some o → ObStep G G' l o
  maps : MapsGo G.w G'.w

theorem Step.old {G G' : Ctx} (h : Step G G') {b : Nat} (hb : G.old b) : G'.old b :=
  ⟨Nat.lt_of_lt_of_le hb.1 h.size, fun hm => hb.2 (h.own b hb.1 hm)⟩

theorem Step.refl (G : Ctx) : Step G G :=
  ⟨rfl, rfl, Nat.le_refl _, rfl, Nat.le_refl _, fun _ _ => rfl, fun _ _ h => h, Nat.le_refl _, fun l o _ h => by
    cases o with
    | row e k cs => exact ⟨cs, h, Nat.le_refl _, fun _ => ⟨rfl, fun b c _ hc => ⟨c, hc, rfl⟩⟩⟩
    | map es => exact ⟨es, h, rfl⟩
    | iter i => exact ⟨i, h, rfl⟩, MapsGo.refl _⟩

theorem Step.trans {A B C : Ctx} (h : Step A B) (k : Step B C) : Step A C := by
  refine ⟨k.os.trans h.os, k.tape.trans h.tape, Nat.le_trans h.drawn k.drawn, k.output.trans h.output, Nat.le_trans h.size k.size,
    fun b hb => (k.keep b (h.old hb)).trans (h.keep b hb), fun b hb hm => h.own b hb (k.own b (Nat.lt_of_lt_of_le hb h.size) hm), Nat.le_trans h.len k.len, ?_, h.maps.trans k.maps⟩
  intro l o hl ho
  have h2 := k.row l o (Nat.lt_of_lt_of_le hl h.len) ho
  cases o with
  | row e k' cs' =>
    obtain ⟨cs1, e1, l1, f1⟩ := h2
    obtain ⟨cs0, e0, l0, f0⟩ := h.row l _ hl e1
    refine ⟨cs0, e0, Nat.le_trans l0 l1, fun he => ?_⟩
    obtain ⟨m0, g0⟩ := f0 (by omega)
    obtain ⟨m1, g1⟩ := f1 (by omega)
    refine ⟨m1.trans m0, fun b c hb hc => ?_⟩
    obtain ⟨c1, hc1, s1⟩ := g0 b c hb hc
    obtain ⟨c2, hc2, s2⟩ := g1 b c1 (m0.trans hb) hc1
    exact ⟨c2, hc2, s2.trans s1⟩
  | map es' =>
    obtain ⟨es1, e1, m1⟩ := h2
    obtain ⟨es0, e0, m0⟩ := h.row l _ hl e1
    exact ⟨es0, e0, m1.trans m0⟩
  | iter i' =>
    obtain ⟨p1, e1, m1⟩ := h2
    obtain ⟨p0, e0, m0⟩ := h.row l _ hl e1
    exact ⟨p0, e0, m1.trans m0⟩

theorem cell_of_heap {w w' : World} {b : Nat} (h : w'.heap[b]? = w.heap[b]?) (off : Nat) : w'.cell? ⟨b, off, none⟩ = w.cell? ⟨b, off, none⟩ := by
  simp only [World.cell?, h]

theorem RefFact.step {G G' : Ctx} (h : Step G G') {l tot off n : Nat} {u : Value} (hr : RefFact G l tot off n u) : RefFact G' l tot off n u := by
  refine ⟨Nat.lt_of_lt_of_le hr.1 h.len, hr.2.1, fun e k cs hm => ?_⟩
  obtain ⟨cs0, e0, l0, f0⟩ := h.row l _ hr.1 hm
  obtain ⟨t0, g0⟩ := hr.2.2 e k cs0 e0
  refine ⟨Nat.le_trans t0 l0, fun he => ?_⟩
  obtain ⟨m0, q0⟩ := f0 (by omega)
  rcases g0 (by omega) with ⟨a1, a2, a3⟩ | ⟨b, c, cap, a1, a2, a3⟩
  · exact .inl ⟨m0.trans a1, List.eq_nil_of_length_eq_zero (by have : cs0.length = 0 := by rw [a2]; rfl
                                                               omega), a3⟩
  · obtain ⟨c', hc', s'⟩ := q0 b c a1 a2
    exact .inr ⟨b, c', cap, m0.trans a1, hc', by rw [s']; exact a3⟩

theorem PtrFact.step {G G' : Ctx} (h : Step G G') {l tot off : Nat} {u : Value} (hr : PtrFact G l tot off u) : PtrFact G' l tot off u := by
  refine ⟨Nat.lt_of_lt_of_le hr.1 h.len, hr.2.1, fun e k cs hm => ?_⟩
  obtain ⟨cs0, e0, l0, f0⟩ := h.row l _ hr.1 hm
  obtain ⟨t0, g0⟩ := hr.2.2 e k cs0 e0
  refine ⟨Nat.le_trans t0 l0, fun he => ?_⟩
  obtain ⟨m0, q0⟩ := f0 (by omega)
  obtain ⟨b, a1, a2⟩ := g0 (by omega)
  exact ⟨b, m0.trans a1, a2⟩

theorem MapFact.step {G G' : Ctx} (h : Step G G') {l : Nat} {u : Value} (hr : MapFact G l u) : MapFact G' l u := by
  refine ⟨Nat.lt_of_lt_of_le hr.1 h.len, hr.2.1, fun es hm => ?_⟩
  obtain ⟨es0, e0, m0⟩ := h.row l _ hr.1 hm
  obtain ⟨b, a1, a2⟩ := hr.2.2 es0 e0
  exact ⟨b, m0.trans a1, a2⟩

theorem StampFact.step {G G' : Ctx} (h : Step G G') {l : Nat} {k u : Value} (hr : StampFact G l k u) : StampFact G' l k u := by
  obtain ⟨h1, n, h2, h3⟩ := hr
  refine ⟨Nat.lt_of_lt_of_le h1 h.len, n, h2, fun es hm => ?_⟩
  obtain ⟨es0, e0, m0⟩ := h.row l _ h1 hm
  obtain ⟨b, en, cl, i, e, q1, q2, q3, q4, q5, q6⟩ := h3 es0 e0
  obtain ⟨en', cl', g1, g2⟩ := h.maps b en cl q2
  obtain ⟨e', a1, a2, a3⟩ := g2 i e q3
  refine ⟨b, en', cl', i, e', m0.trans q1, g1, a1, a2.trans q4, a3.trans q5, fun j x hj hx => ?_⟩
  have hjl : j < en.size := by have := (Array.getElem?_eq_some_iff.1 q3).1; omega
  obtain ⟨x', b1, _, b3⟩ := g2 j en[j] (Array.getElem?_eq_getElem hjl)
  rw [hx] at b1; cases b1
  rw [b3]
  exact q6 j _ hj (Array.getElem?_eq_getElem hjl)
theorem ItFact.step {G G' : Ctx} (h : Step G G') {l : Nat} {u : Value} (hr : ItFact G l u) : ItFact G' l u := by
  refine ⟨Nat.lt_of_lt_of_le hr.1 h.len, hr.2.1, fun i hm => ?_⟩
  obtain ⟨p0, e0, m0⟩ := h.row l _ hr.1 hm
  obtain ⟨b, a1, a2⟩ := hr.2.2 p0 e0
  exact ⟨b, m0.trans a1, a2⟩

mutual
theorem Rv.step {G G' : Ctx} (h : Step G G') : ∀ (x : AV) (v : Value), Rv G x v → Rv G' x v
  | .sc u, v, hr => by simpa only [Rv] using hr
  | .ro n cs, v, hr => by
    simp only [Rv] at hr ⊢
    obtain ⟨a, c, e, h1, h2, h0, h3⟩ := hr
    refine ⟨a, c, e, h1, h2, h0, ?_⟩
    rcases h3 with h3 | ⟨b, off, e1, ho, hat⟩
    · exact .inl h3
    · exact .inr ⟨b, off, e1, h.old ho, Rat.step h cs b off (fun o => cell_of_heap (h.keep b ho) o) hat⟩
  | .ref l t o n, v, hr => by simp only [Rv] at hr ⊢; exact hr.step h
  | .ptr l t o, v, hr => by simp only [Rv] at hr ⊢; exact hr.step h
  | .rop cs, v, hr => by
    simp only [Rv] at hr ⊢
    obtain ⟨b, off, e, ho, hat⟩ := hr
    exact ⟨b, off, e, h.old ho, Rat.step h cs b off (fun o => cell_of_heap (h.keep b ho) o) hat⟩
  | .clo f caps, v, hr => by
    simp only [Rv] at hr ⊢
    obtain ⟨vs, e, hs⟩ := hr
    exact ⟨vs, e, Rvs.step h caps vs hs⟩
  | .bnd f caps, v, hr => by
    simp only [Rv] at hr ⊢
    obtain ⟨vs, e, hs⟩ := hr
    exact ⟨vs, e, Rvs.step h caps vs hs⟩
  | .mp l, v, hr => by simp only [Rv] at hr ⊢; exact hr.step h
  | .rom ks vs, v, hr => by
    simp only [Rv] at hr ⊢
    rcases hr with hr | ⟨b, en, cl, e, ho, hb, hk, hs⟩
    · exact .inl hr
    · exact .inr ⟨b, en, cl, e, h.old ho, (h.keep b ho).trans hb, hk, Rvs.step h vs _ hs.1, hs.2⟩
  | .it l, v, hr => by simp only [Rv] at hr ⊢; exact hr.step h
  | .stamp l k, v, hr => by simp only [Rv] at hr ⊢; exact hr.step h
  | .agg cs, v, hr => by
    simp only [Rv] at hr ⊢
    obtain ⟨vs, e, hs⟩ := hr
    exact ⟨vs, e, Rvs.step h cs vs hs⟩
  | .tup cs, v, hr => by
    simp only [Rv] at hr ⊢
    obtain ⟨vs, e, hs⟩ := hr
    exact ⟨vs, e, Rvs.step h cs vs hs⟩
  | .ifc t x, v, hr => by
    simp only [Rv] at hr ⊢
    obtain ⟨u, e, hs⟩ := hr
    exact ⟨u, e, Rv.step h x u hs⟩
  | .junk, v, hr => by simp only [Rv]
theorem Rat.step {G G' : Ctx} (h : Step G G') : ∀ (xs : List AV) (b off : Nat), (∀ o, G'.w.cell? ⟨b, o, none⟩ = G.w.cell? ⟨b, o, none⟩) → Rat G xs b off → Rat G' xs b off
  | [], _, _, _, _ => by simp only [Rat]
  | x :: xs, b, off, hc, hr => by
    simp only [Rat] at hr ⊢
    obtain ⟨⟨v, e, hv⟩, ht⟩ := hr
    exact ⟨⟨v, (hc off).trans e, Rv.step h x v hv⟩, Rat.step h xs b (off + 1) hc ht⟩
theorem Rvs.step {G G' : Ctx} (h : Step G G') : ∀ (xs : List AV) (vs : List Value), Rvs G xs vs → Rvs G' xs vs
  | [], vs, hr => by simpa only [Rvs] using hr
  | x :: xs, vs, hr => by
    simp only [Rvs] at hr ⊢
    obtain ⟨v, us, e, hv, ht⟩ := hr
    exact ⟨v, us, e, Rv.step h x v hv, Rvs.step h xs us ht⟩
end
end Go.Proofs.Ytfihpbeihlpfcaa.Ev
