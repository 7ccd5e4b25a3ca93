/- What comes in: arguments read as typed values. -/
import Derived.Test.YtfihpbeihlpfcaaZEvS
import Derived.ChangeArms
import Derived.ChangeOld
import Derived.ChangeSlices
import Derived.ChangeSame
import Derived.DataReads
import Derived.SizedLaws
import Derived.Carry
import Derived.WalkKit
import Derived.ProofKit
import Derived.OpenShut
import Derived.ShutString
set_option linter.unusedVariables false
set_option linter.unusedSimpArgs false
namespace Go.Proofs.Ytfihpbeihlpfcaa.Ev
open Go Go.RowKit

/-- Type t reads as α, and what is read is small. -/
structure Reads (P : Program) (t : TypeId) (α : Type) {k : Nat} [Enc α k] (small : α → Prop) : Prop where
  cells : P.cellsOf t = k
  read : ∀ {H : Type} (enc : TypeId × Value → H) (G : Ctx) (fuel : Nat) (cs : List Value) (x : DataW H × List MemPlace), (∀ b, b < G.w.heap.size → G.old b) →
    DataW.trod enc P G.w 0 (fun _ => true) true fuel t cs = some x → (∀ n ∈ x.1.weights P t, n ≤ reachBytes) → ∃ a : α, Rvs G (Enc.cells a) cs ∧ small a

section
variable {P : Program} {t : TypeId}
theorem reads_str (ht : P.underlying t = some .string) (hk : P.cellsOf t = 1) : Reads P t ByteArray (fun s => s.size ≤ 140737488351232) := ⟨hk, fun enc G fuel cs x ho h hw => by
  obtain ⟨s, rfl, rfl, hs⟩ := DataW.trod_string ht h
  refine ⟨s, rvs_sc [_], ?_⟩
  have := hw s.data.toList.length (by simp [DataW.weights])
  have e : s.data.toList.length = s.size := Array.length_toList
  rw [e] at this
  exact this⟩
theorem reads_int (ht : P.underlying t = some (.int .i64)) (hk : P.cellsOf t = 1) : Reads P t Int (fun s => -9223372036854775808 ≤ s ∧ s ≤ 9223372036854775807) := ⟨hk, fun enc G fuel cs x ho h hw => by
  obtain ⟨s, rfl, rfl, hs⟩ := DataW.trod_int ht h
  refine ⟨s, rvs_sc [_], ?_⟩
  simp only [Lit.wf, Bool.and_eq_true, decide_eq_true_eq] at hs
  exact ⟨hs.1, hs.2⟩⟩
theorem rat_app {G : Ctx} : ∀ {xs ys : List AV} {b off : Nat}, Rat G xs b off → Rat G ys b (off + xs.length) → Rat G (xs ++ ys) b off
  | [], ys, b, off, _, h => by simpa using h
  | x :: xs, ys, b, off, h, h2 => by
    simp only [Rat, List.cons_append] at h ⊢
    exact ⟨h.1, rat_app h.2 (by rw [show off + 1 + xs.length = off + (x :: xs).length by simp; omega]; exact h2)⟩
theorem cell_spot {w : World} {a : Addr} {v : Value} (h : w.cell? a = some v) : a.spot = none := by
  unfold World.cell? at h
  split at h
  · split at h
    · cases h
    · rename_i hs; simpa using hs
  · cases h
theorem rat_of_rvs {G : Ctx} {xs : List AV} {cs : List Value} {b off : Nat} (h : Rvs G xs cs) (hc : ∀ i, i < cs.length → G.w.cell? ⟨b, off + i, none⟩ = cs[i]?) : Rat G xs b off := by
  rw [rat_iff]
  obtain ⟨hl, h2⟩ := rvs_iff.1 h
  intro j x hj
  obtain ⟨v, hv, hr⟩ := h2 j x hj
  exact ⟨v, by rw [hc j (List.getElem?_eq_some_iff.1 hv).1]; exact hv, hr⟩
theorem weightsAll_mem {H : Type} {P : Program} {e : TypeId} : ∀ {ds : List (DataW H)} {d : DataW H} {n : Nat}, d ∈ ds → n ∈ d.weights P e → n ∈ DataW.weightsAll P e ds
  | d0 :: ds, d, n, hd, hn => by
    simp only [DataW.weightsAll, List.mem_append]
    rcases List.mem_cons.1 hd with rfl | hd
    · exact .inl hn
    · exact .inr (weightsAll_mem hd hn)

theorem reads_slice {α : Type} {k : Nat} [E : Enc α k] {e : TypeId} {small : α → Prop} (ht : P.underlying t = some (.slice e)) (hk : P.cellsOf t = 1) (R : Reads P e α small) :
    Reads P t (List α) (fun l => l.length * P.bytesOf e ≤ 140737488351232 ∧ ∀ a ∈ l, small a) := ⟨hk, fun {H} enc G fuel cs x ho h hw => by
  rcases DataW.trod_slice ht h with ⟨rfl, rfl⟩ | ⟨a, len, cap, elems, rest, n, rfl, rfl, rfl, hb, hl, hc, hlen, hel, hsp, hns⟩
  · refine ⟨[], ?_, by simp, by simp⟩
    simp only [cells_l, Rvs, Rv]
    exact ⟨_, [], rfl, ⟨none, 0, rfl, by simp, by simp, fun _ => rfl, .inl rfl⟩, rfl⟩
  · have hwt : ∀ n ∈ (elems.length + rest.length) * P.bytesOf e :: (DataW.weightsAll P e (elems.map (·.1)) ++ DataW.weightsAll P e (rest.map (·.1))), n ≤ reachBytes := by
      intro n hn
      refine hw n ?_
      simp only [DataW.weights, ht]
      simpa using hn
    have hat : ∀ i, i < len → ∃ (y : α) (cs' : List Value), Rvs G (Enc.cells y) cs' ∧ cs'.length = k ∧ small y ∧ ∀ j, j < k → G.w.cell? ((a.add (i * k)).add j) = cs'[j]? := by
      intro i hi
      have h1 := hel i hi
      have hi' : i < elems.length := by omega
      rw [List.getElem?_eq_getElem hi', Option.bind_eq_some_iff] at h1
      obtain ⟨cs', h2, h3⟩ := h1
      obtain ⟨g1, g2, g3⟩ := World.cells?_some h2
      obtain ⟨y, h4, h5⟩ := R.read enc G n cs' _ ho h3 (fun m hm => hwt m (by
        refine List.mem_cons_of_mem _ (List.mem_append_left _ (weightsAll_mem ?_ hm))
        exact List.mem_map_of_mem (List.getElem_mem hi')))
      rw [R.cells] at g2 g3
      exact ⟨y, cs', h4, g2, h5, g3⟩
    have hpos := Enc.pos (α := α) (k := k)
    have hsp0 : 0 < len → a.spot = none := fun h0 => by
      obtain ⟨y, cs', h4, g2, h5, g3⟩ := hat 0 h0
      have := g3 0 hpos
      rw [List.getElem?_eq_getElem (by omega)] at this
      have h9 := cell_spot this
      simpa [Addr.add] using h9
    have hone : ∀ i, i < len → ∃ y : α, Rat G (Enc.cells y) a.block (a.off + i * k) ∧ small y ∧ a.spot = none := by
      intro i hi
      obtain ⟨y, cs', h4, g2, h5, g3⟩ := hat i hi
      have hs := hsp0 (by omega)
      refine ⟨y, rat_of_rvs h4 fun j hj => ?_, h5, hs⟩
      rw [← g3 j (by omega)]
      congr 1
      cases a with
      | mk b o sp =>
        simp at hs; subst hs
        simp only [Addr.add]
        split <;> split <;> simp_all
    have hall : ∀ m, m ≤ len → ∃ l : List α, l.length = m ∧ Rat G (cellsL l) a.block a.off ∧ ∀ y ∈ l, small y := by
      intro m
      induction m with
      | zero => exact fun _ => ⟨[], rfl, by simp only [cellsL_nil, Rat], by simp⟩
      | succ m ih =>
        intro hm
        obtain ⟨l, h1, h2, h3⟩ := ih (by omega)
        obtain ⟨y, h4, h5, _⟩ := hone m (by omega)
        refine ⟨l ++ [y], by simp [h1], ?_, ?_⟩
        · rw [← cellsL_app]
          refine rat_app h2 ?_
          rw [cellsL_len, h1, cellsL_cons, cellsL_nil, List.append_nil]
          exact h4
        · intro z hz
          rcases List.mem_append.1 hz with hz | hz
          · exact h3 z hz
          · simp at hz; subst hz; exact h5
    obtain ⟨l, h1, h2, h3⟩ := hall len (Nat.le_refl _)
    refine ⟨l, ?_, ?_, h3⟩
    · simp only [cells_l, Rvs, Rv]
      refine ⟨_, [], rfl, ⟨some a, cap, by rw [h1], by omega, ?_, (fun x => by cases x), ?_⟩, rfl⟩
      · have : maxLen = 9223372036854775807 := rfl
        omega
      · rcases Nat.eq_zero_or_pos len with h0 | h0
        · left
          have : l = [] := List.eq_nil_of_length_eq_zero (by omega)
          rw [this]; rfl
        · right
          obtain ⟨_, _, _, hsp⟩ := hone 0 h0
          refine ⟨a.block, a.off, ?_, ?_, h2⟩
          · cases a; simp at hsp; subst hsp; rfl
          · obtain ⟨y, h4, _⟩ := hone 0 h0
            refine ho _ ?_
            have hpos := Enc.pos (α := α) (k := k)
            have hlen := Enc.len (k := k) y
            cases hc : Enc.cells y with
            | nil => rw [hc] at hlen; simp at hlen; omega
            | cons z zs =>
              rw [hc] at h4
              simp only [Rat] at h4
              obtain ⟨⟨v, hv, _⟩, _⟩ := h4
              unfold World.cell? at hv
              split at hv
              · rename_i hb; exact (Array.getElem?_eq_some_iff.1 hb).1
              · cases hv
    · have := hwt _ (List.mem_cons_self ..)
      rw [h1, ← hlen]
      have e1 : reachBytes = 140737488351232 := rfl
      rw [e1] at this
      refine Nat.le_trans (Nat.mul_le_mul_right _ (Nat.le_add_right _ _)) this⟩
end

/-! ### small arrays -/
/-! ### structs -/
theorem rvs_app {G : Ctx} : ∀ {xs ys : List AV} {us vs : List Value}, Rvs G xs us → Rvs G ys vs → Rvs G (xs ++ ys) (us ++ vs)
  | [], ys, us, vs, h, h2 => by simp only [Rvs] at h; subst h; exact h2
  | x :: xs, ys, us, vs, h, h2 => by
    simp only [Rvs] at h
    obtain ⟨u, us', rfl, h3, h4⟩ := h
    simp only [List.cons_append, Rvs]
    exact ⟨u, _, rfl, h3, rvs_app h4 h2⟩
/-- Fields that lie one behind another read as α. -/
structure ReadsF (P : Program) (fs : List Field) (off : Nat) (α : Type) {k : Nat} [Enc α k] (small : α → Prop) : Prop where
  read : ∀ {H : Type} (enc : TypeId × Value → H) (G : Ctx) (m : Nat) (cs : List Value) (xs : List (DataW H × List MemPlace)), (∀ b, b < G.w.heap.size → G.old b) → xs.length = fs.length → off + k ≤ cs.length →
    (∀ (i : Nat) (f : Field), fs[i]? = some f → DataW.trod enc P G.w 0 (fun _ => true) true m f.type ((cs.drop f.offset).take (P.cellsOf f.type)) = xs[i]?) →
    (∀ n ∈ DataW.weightsEach P (fs.map (·.type)) (xs.map (·.1)), n ≤ reachBytes) → ∃ a : α, Rvs G (Enc.cells a) ((cs.drop off).take k) ∧ small a
theorem ReadsF.one {P : Program} {f : Field} {off : Nat} {α : Type} {k : Nat} [Enc α k] {small : α → Prop} (hf : f.offset = off) (R : Reads P f.type α small) : ReadsF P [f] off α small := ⟨fun {H} enc G m cs xs ho hl hk hr hw => by
  have h1 := hr 0 f rfl
  match xs, hl with
  | [x], _ =>
    obtain ⟨a, h2, h3⟩ := R.read enc G m _ x ho h1 (fun n hn => hw n (by simp [DataW.weightsEach, hn]))
    rw [hf, R.cells] at h2
    exact ⟨a, h2, h3⟩⟩
theorem ReadsF.cons {P : Program} {f : Field} {fs : List Field} {off : Nat} {α β : Type} {k1 k2 : Nat} [Enc α k1] [Enc β k2] {s1 : α → Prop} {s2 : β → Prop} (hf : f.offset = off) (R : Reads P f.type α s1) (F : ReadsF P fs (off + k1) β s2) :
    ReadsF P (f :: fs) off (α × β) (fun x => s1 x.1 ∧ s2 x.2) := ⟨fun {H} enc G m cs xs ho hl hk hr hw => by
  have h1 := hr 0 f rfl
  match xs, hl with
  | x :: xs, hl =>
    obtain ⟨a, h2, h3⟩ := R.read enc G m _ x ho h1 (fun n hn => hw n (by simp [DataW.weightsEach, hn]))
    obtain ⟨b, h4, h5⟩ := F.read enc G m cs xs ho (by simpa using hl) (by omega) (fun i g hg => hr (i + 1) g hg) (fun n hn => hw n (by simp [DataW.weightsEach]; exact .inr (by simpa using hn)))
    rw [hf, R.cells] at h2
    refine ⟨(a, b), ?_, h3, h5⟩
    have e : (cs.drop off).take (k1 + k2) = (cs.drop off).take k1 ++ (cs.drop (off + k1)).take k2 := by
      rw [List.take_add, List.drop_drop]
    rw [e]
    exact rvs_app h2 h4⟩
theorem ReadsF.struct {P : Program} {t : TypeId} {fs : Array Field} {α : Type} {k : Nat} [Enc α k] {small : α → Prop} (ht : P.underlying t = some (.struct fs)) (hk : P.cellsOf t = k) (F : ReadsF P fs.toList 0 α small) : Reads P t α small := ⟨hk, fun {H} enc G fuel cs x ho h hw => by
  obtain ⟨xs, m, rfl, rfl, hl, hn, hel⟩ := DataW.trod_struct ht h
  rw [hk] at hl
  obtain ⟨a, h1, h2⟩ := F.read enc G m cs xs ho (by simpa using hn) (by omega) (fun i f hf => hel i f (by simpa using hf)) (fun n hn => hw n (by simp only [DataW.weights, ht]; exact hn))
  rw [List.drop_zero, List.take_of_length_le (by omega)] at h1
  exact ⟨a, h1, h2⟩⟩

/-- The world at the begin, nothing told of it. -/
def Ctx.start (w : World) : Ctx := ⟨w, fun _ => none, ⟨fun _ => none, 0⟩⟩
theorem start_rel (w : World) : Rel (Ctx.start w) := ⟨fun _ _ => rfl, fun l o h => (by cases h), fun l l' b h _ => (by obtain ⟨⟨o, h⟩, _⟩ := h; cases h)⟩
theorem start_old (w : World) : ∀ b, b < w.heap.size → (Ctx.start w).old b := fun b hb => ⟨hb, fun ⟨l, ⟨o, h⟩, _⟩ => by cases h⟩
theorem below_of {G G' : Ctx} (h : Step G G') (ho : ∀ b, b < G.w.heap.size → G.old b) : Below G.w.heap.size G.w G'.w := ⟨h.os, h.tape, h.output, h.size, fun b hb => h.keep b (ho b hb)⟩
/-- A law that is true of all that is read: at the begin. -/
theorem law_calls {P : Program} {f : FuncId} {args : List AV} {vs : List Value} {w : World} (h : Fn P f args (boolA true)) (hv : Rvs (Ctx.start w) args vs) :
    Calls P f vs.toArray w fun e w' => e = .returned (.bool true) ∧ Below w.heap.size w w' := by
  refine ((h.2 (Ctx.start w).S).2 (Ctx.start w) vs rfl (start_rel w) hv).mono ?_
  rintro e w' ⟨G', r, v, rfl, rfl, h1, h2, h3, rfl, _⟩
  have := scR h3
  subst this
  exact ⟨rfl, below_of h2 (start_old w)⟩
theorem arg_agg {G : Ctx} {xs : List AV} {cs : Array Value} (hx : Rvs G xs (Value.agg cs).cells.toList) : Rv G (.agg xs) (.agg cs) := by
  simp only [Rv]
  exact ⟨cs.toList, by simp, hx⟩
theorem rvs_cons {G : Ctx} {x : AV} {xs : List AV} {v : Value} {vs : List Value} (h : Rv G x v) (hs : Rvs G xs vs) : Rvs G (x :: xs) (v :: vs) := by
  simp only [Rvs]; exact ⟨v, vs, rfl, h, hs⟩
theorem rvs_nil {G : Ctx} : Rvs G [] [] := by simp only [Rvs]
end Go.Proofs.Ytfihpbeihlpfcaa.Ev
