/- Typed values: how they are told in cells, and what the operations do to them. -/
import Derived.Test.YtfihpbeihlpfcaaZEvR
import Derived.Attr
set_option linter.unusedVariables false
set_option linter.unusedSimpArgs false
namespace Go.Proofs.Ytfihpbeihlpfcaa.Ev
open Go Go.RowKit

/-- A value that leads to no own row, in one cell. -/
structure AV.Still (x : AV) : Prop where
  bel : ∀ k, x.bel k
  seen : ∀ D S d, seen D S d x = x
  one : x.one = true

class Enc (α : Type) (k : outParam Nat) where
  cells : α → List AV
  dflt : α
  len : ∀ x, (cells x).length = k
  still : ∀ x, ∀ c ∈ cells x, AV.Still c
  pos : 0 < k

section
variable {α : Type} {k : Nat} [E : Enc α k]
def cellsL (l : List α) : List AV := l.flatMap Enc.cells
abbrev sl (l : List α) : AV := .ro l.length (cellsL l)
/-- The i-th of l. -/
def nth (l : List α) (i : Nat) : α := l.getD i Enc.dflt
theorem cellsL_nil : cellsL ([] : List α) = [] := rfl
theorem cellsL_cons (x : α) (l : List α) : cellsL (x :: l) = Enc.cells x ++ cellsL l := rfl
theorem cellsL_len (l : List α) : (cellsL l).length = l.length * k := by
  induction l with
  | nil => simp [cellsL]
  | cons x l ih => rw [cellsL_cons, List.length_append, Enc.len, ih, List.length_cons, Nat.add_mul]; omega
theorem cellsL_app (a b : List α) : cellsL a ++ cellsL b = cellsL (a ++ b) := by simp [cellsL]
theorem cellsL_still (l : List α) : ∀ c ∈ cellsL l, AV.Still c := by
  intro c hc
  simp only [cellsL, List.mem_flatMap] at hc
  obtain ⟨x, _, hx⟩ := hc
  exact Enc.still x c hx
theorem bels_cellsL (n : Nat) (l : List α) : bels n (cellsL l) = True := eq_true (bels_iff.2 fun c hc => (cellsL_still l c hc).bel n)
theorem seen_cellsL (D : Nat → Bool) (S : St) (d : Nat) (l : List α) : (cellsL l).map (seen D S d) = cellsL l := map_same fun c hc => (cellsL_still l c hc).seen D S d
theorem one_cellsL (l : List α) : (cellsL l).all AV.one = true := List.all_eq_true.2 fun c hc => (cellsL_still l c hc).one
theorem sl_still (l : List α) : AV.Still (sl l) := ⟨fun n => by simp only [AV.bel, bels_cellsL], fun D S d => n_ro D S d _ _, rfl⟩
theorem cellsL_drop (l : List α) (i : Nat) : (cellsL l).drop (i * k) = cellsL (l.drop i) := by
  induction l generalizing i with
  | nil => simp [cellsL]
  | cons x l ih =>
    cases i with
    | zero => simp
    | succ i =>
      have e : (i + 1) * k = (Enc.cells x).length + i * k := by rw [Enc.len, Nat.add_mul, Nat.one_mul, Nat.add_comm]
      rw [cellsL_cons, List.drop_succ_cons, ← ih, e, ← List.drop_drop, List.drop_left]
theorem cellsL_take (l : List α) (i : Nat) : (cellsL l).take (i * k) = cellsL (l.take i) := by
  have h := List.take_append_drop (i * k) (cellsL l)
  have h2 : cellsL (l.take i) ++ cellsL (l.drop i) = cellsL l := by rw [cellsL_app, List.take_append_drop]
  rw [cellsL_drop] at h
  exact List.append_cancel_right (h.trans h2.symm)
theorem nth_drop {l : List α} {i : Nat} (h : i < l.length) : l.drop i = nth l i :: l.drop (i + 1) := by
  rw [← List.getElem_cons_drop h]
  congr 1
  simp [nth, h]
theorem nth_eq {l : List α} {i : Nat} (h : i < l.length) : nth l i = l[i] := by simp [nth, h]
theorem nth_get? {l : List α} {i : Nat} (h : i < l.length) : l[i]? = some (nth l i) := by simp [nth, h]
theorem nth_mem {l : List α} {i : Nat} (h : i < l.length) : nth l i ∈ l := by rw [nth_eq h]; exact List.getElem_mem h
variable {K : AV → Prop}
theorem ia_sl (S : St) (j : Int) (l : List α) : iaddrH S k j (sl l) K () = req (0 ≤ j ∧ j < l.length) (fun _ => letK (.rop (cellsL (l.drop j.toNat))) K ()) () := by
  rw [ia_ro, cellsL_drop, cellsL_len]
  simp only [req]
  congr 1
  have hk := Enc.pos (α := α) (k := k)
  apply propext
  constructor
  · exact fun h => ⟨h.1, h.2.1⟩
  · exact fun h => ⟨h.1, h.2, (Nat.mul_lt_mul_right hk).2 (by omega)⟩
theorem sl_sl (S : St) (l : List α) (lo hi : Option AV) : slH S k (sl l) lo hi K () = orH (loIn lo 0) (fun (a : Int) => orH (loIn hi l.length) (fun (h : Int) =>
        req (0 ≤ a ∧ a ≤ h ∧ h ≤ l.length) (fun _ => letK (sl ((l.drop a.toNat).take (h.toNat - a.toNat))) K ()) ()) ()) () := by
  rw [slH_ro]
  refine orH_congr fun a => orH_congr fun h => ?_
  simp only [req, letK, cellsL_len, true_and, cellsL_drop, cellsL_take, and_assoc]
  apply propext
  have e : ∀ (p : a ≤ h) (q : h ≤ l.length), ((l.drop a.toNat).take (h.toNat - a.toNat)).length = h.toNat - a.toNat := fun p q => by
    rw [List.length_take, List.length_drop]; omega
  constructor
  · rintro ⟨h1, h2, h3, h4⟩
    refine ⟨h1, h2, h3, ?_⟩
    unfold sl
    rw [e h2 h3]; exact h4
  · rintro ⟨h1, h2, h3, h4⟩
    refine ⟨h1, h2, h3, ?_⟩
    unfold sl at h4
    rw [e h2 h3] at h4; exact h4
theorem src_sl (S : St) (l : List α) : srcOf S k (sl l) = some (l.length, cellsL l) := by simp [srcOf, cellsL_len]
theorem head_cells {l : List α} {i : Nat} (h : i < l.length) : (cellsL (l.drop i)).head? = (Enc.cells (nth l i)).head? := by
  rw [nth_drop h, cellsL_cons]
  have h1 := Enc.len (k := k) (nth l i)
  have h2 := Enc.pos (α := α) (k := k)
  cases hc : Enc.cells (nth l i) with
  | nil => rw [hc] at h1; simp at h1; omega
  | cons x xs => simp
theorem take_cells {l : List α} {i : Nat} (h : i < l.length) : (cellsL (l.drop i)).take k = Enc.cells (nth l i) := by
  rw [nth_drop h, cellsL_cons, List.take_append_of_le_length (by rw [Enc.len]; exact Nat.le_refl _), List.take_of_length_le (by rw [Enc.len]; exact Nat.le_refl _)]
theorem drop_cells {l : List α} {i : Nat} (h : i < l.length) : cellsL (l.drop i) = Enc.cells (nth l i) ++ cellsL (l.drop (i + 1)) := by
  rw [nth_drop h, cellsL_cons]
theorem ld_sl {S : St} {l : List α} {i : Nat} (h : i < l.length) : loadH S (some k) (.rop (cellsL (l.drop i))) K () = letK (.agg (Enc.cells (nth l i))) K () := by
  rw [ld_ropk, take_cells h, cellsL_len, List.length_drop]
  simp only [req, letK]
  apply propext
  constructor
  · exact fun h => h.2
  · refine fun hh => ⟨?_, hh⟩
    calc k = 1 * k := (Nat.one_mul k).symm
      _ ≤ (l.length - i) * k := Nat.mul_le_mul_right k (by omega)
end

instance encInt : Enc Int 1 := ⟨fun i => [intA i], 0, fun _ => rfl, fun x c hc => by
  simp at hc; subst hc; exact ⟨fun k => by simp only [AV.bel], fun D S d => n_int D S d _ _, rfl⟩, by omega⟩
instance encStr : Enc ByteArray 1 := ⟨fun i => [strA i], ⟨#[]⟩, fun _ => rfl, fun x c hc => by
  simp at hc; subst hc; exact ⟨fun k => by simp only [AV.bel], fun D S d => n_str D S d _, rfl⟩, by omega⟩
instance encBool : Enc Bool 1 := ⟨fun i => [boolA i], false, fun _ => rfl, fun x c hc => by
  simp at hc; subst hc; exact ⟨fun k => by simp only [AV.bel], fun D S d => n_bool D S d _, rfl⟩, by omega⟩
instance encList {α : Type} {k : Nat} [Enc α k] : Enc (List α) 1 := ⟨fun l => [sl l], [], fun _ => rfl, fun x c hc => by
  simp at hc; subst hc; exact sl_still x, by omega⟩
instance encProd {α β : Type} {k1 k2 : Nat} [A : Enc α k1] [B : Enc β k2] : Enc (α × β) (k1 + k2) := ⟨fun x => Enc.cells x.1 ++ Enc.cells x.2, (A.dflt, B.dflt), fun x => by simp [Enc.len], fun x c hc => by
  rcases List.mem_append.1 hc with h | h
  · exact Enc.still _ c h
  · exact Enc.still _ c h, by have := A.pos; omega⟩
theorem cells_p {α β : Type} {k1 k2 : Nat} [Enc α k1] [Enc β k2] (x : α × β) : Enc.cells x = Enc.cells x.1 ++ Enc.cells x.2 := rfl
theorem cells_p2 {α β : Type} [Enc α 1] [Enc β 1] (x : α × β) : @Enc.cells (α × β) 2 (encProd (k1 := 1) (k2 := 1)) x = Enc.cells x.1 ++ Enc.cells x.2 := rfl
theorem bels_dropC {α : Type} {q : Nat} [Enc α q] (k j : Nat) (l : List α) : bels k (List.drop j (cellsL l)) = True := eq_true (bels_iff.2 fun c hc => (cellsL_still l c (List.mem_of_mem_drop hc)).bel k)
theorem cells_i (i : Int) : Enc.cells i = [intA i] := rfl
theorem cells_s (i : ByteArray) : Enc.cells i = [strA i] := rfl
theorem cells_b (i : Bool) : Enc.cells i = [boolA i] := rfl
theorem cells_l {α : Type} {k : Nat} [Enc α k] (l : List α) : Enc.cells l = [sl l] := rfl
theorem cat_i (l : List Int) (x : Int) : cellsL l ++ [intA x] = cellsL (l ++ [x]) := cellsL_app l [x]
theorem cat_s (l : List ByteArray) (x : ByteArray) : cellsL l ++ [strA x] = cellsL (l ++ [x]) := cellsL_app l [x]
theorem cat_l {α : Type} {k : Nat} [Enc α k] (l : List (List α)) (x : List α) : cellsL l ++ [AV.ro x.length (cellsL x)] = cellsL (l ++ [x]) := cellsL_app l [x]
section
variable {α : Type} [E : Enc α 1]
theorem take_1 (l : List α) (i : Nat) : (cellsL l).take i = cellsL (l.take i) := by have := cellsL_take l i; simpa only [Nat.mul_one] using this
theorem drop_1 (l : List α) (i : Nat) : (cellsL l).drop i = cellsL (l.drop i) := by have := cellsL_drop l i; simpa only [Nat.mul_one] using this
theorem get_1 {l : List α} {i : Nat} (h : i < l.length) : (cellsL l)[i]? = (Enc.cells (nth l i)).head? := by
  rw [← head_cells h, ← drop_1, List.head?_drop]
end
theorem rep_i (n : Nat) (z : Int) : List.replicate n (AV.sc (.int .i64 z)) = cellsL (List.replicate n z) := by simp [cellsL, List.flatMap_replicate, cells_i]
theorem rep_s (n : Nat) (z : ByteArray) : List.replicate n (AV.sc (.string z)) = cellsL (List.replicate n z) := by simp [cellsL, List.flatMap_replicate, cells_s]
/-- An own row of typed cells, and the slice that is all of it. -/
abbrev rowO {α : Type} {k : Nat} [Enc α k] (e : TypeId) (l : List α) : Option Ob := some (.row e k (cellsL l))
abbrev own {α : Type} {k : Nat} [Enc α k] (S : St) (j : Nat) (l : List α) : AV := .ref (S.nm j) (l.length * k) 0 l.length
theorem fresh_nm (S : St) (j : Nat) : freshIn S (S.nm j) = true := by simp [freshIn, St.nm]
/-- A nil slice that is to be appended to: a row of the call's own. -/
theorem nil_row {P : Program} {n : Nat} {Q : Exit → Fr → St → Prop} {fr : Fr} {S : St} {L : List (Option Ob)} {c : SC} (i e k : Nat) (h : fr i = nilA)
    (hk : SWp P n c Q (fr.put (some i) (.ref (S.nm L.length) 0 0 0)) (S.stk (L ++ [some (.row e k [])]))) : SWp P n c Q fr (S.stk L) := by
  refine SWp.view (View.nil (i := i) (e := e) (k := k) h) ?_
  rw [stk_add]
  exact hk
/-- An own row that is written no more. -/
theorem freeze {α : Type} {k : Nat} [Enc α k] {P : Program} {n : Nat} {Q : Exit → Fr → St → Prop} {fr : Fr} {S : St} {L : List (Option Ob)} {c : SC} (i j e : Nat) (l : List α) (h : fr i = own S j l) (hr : rowAt L j (l.length * k) = some (e, k, cellsL l)) (hj : j < L.length)
    (hk : SWp P n c Q (fr.put (some i) (sl l)) (S.stk (L.set j none))) : SWp P n c Q fr (S.stk L) := by
  rw [← stk_row S] at hr
  obtain ⟨hm, ht⟩ := row?_some hr
  refine SWp.view (View.freeze (i := i) (k := k) h hm ht (Nat.le_refl _)) ?_
  rw [stk_killL S hj, List.take_of_length_le (by rw [cellsL_len]; exact Nat.le_refl _)]
  exact hk

theorem freezeF {α : Type} {k : Nat} [Enc α k] {P : Program} {n : Nat} {Q : Exit → Fr → St → Prop} {fr : Fr} {S : St} {L : List (Option Ob)} {c : SC} (i j e : Nat) (l : List α) (h : fit (fr i) (own S j l)) (hr : rowAt L j (l.length * k) = some (e, k, cellsL l)) (hj : j < L.length)
    (hk : SWp P n c Q (fr.put (some i) (sl l)) (S.stk (L.set j none))) : SWp P n c Q fr (S.stk L) := by
  refine freeze i j e l ?_ hr hj hk
  rcases h with h | ⟨_, h⟩ | h
  · exact h
  · cases h
  · cases h

/-! ### what simp needs at the head of a loop and at the end -/
theorem again_eq (S : St) (F : List (Nat × AV)) (R : List (Option Ob)) (fr' : Fr) (S' : St) : again S F R fr' S' = (fits F fr' ∧ belF (S.nm R.length) F ∧ toldS S (S.nm R.length) R S') := rfl
theorem fits_nil (fr : Fr) : fits [] fr = True := rfl
theorem fits_cons (i : Nat) (x : AV) (A : List (Nat × AV)) (fr : Fr) : fits ((i, x) :: A) fr = (fit (fr i) x ∧ fits A fr) := rfl
theorem belF_nil (k : Nat) : belF k [] = True := rfl
theorem belF_cons (k i : Nat) (x : AV) (A : List (Nat × AV)) : belF k ((i, x) :: A) = (x.bel k ∧ belF k A) := rfl
theorem fit_self (x : AV) : fit x x = True := eq_true (.inl rfl)
theorem fit_sc (u v : Value) : fit (.sc u) (.sc v) = (u = v) := by simp [fit]
theorem fit_ref (a b c d a' b' c' d' : Nat) : fit (.ref a b c d) (.ref a' b' c' d') = (a = a' ∧ b = b' ∧ c = c' ∧ d = d') := by simp [fit]
theorem fit_ptr (a b c a' b' c' : Nat) : fit (.ptr a b c) (.ptr a' b' c') = (a = a' ∧ b = b' ∧ c = c') := by simp [fit]
theorem bel_sc (k : Nat) (v : Value) : AV.bel k (.sc v) = True := by simp only [AV.bel]
theorem bel_ro (k n : Nat) (cs : List AV) : AV.bel k (.ro n cs) = bels k cs := by simp only [AV.bel]
theorem bel_rop (k : Nat) (cs : List AV) : AV.bel k (.rop cs) = bels k cs := by simp only [AV.bel]
theorem bel_agg (k : Nat) (cs : List AV) : AV.bel k (.agg cs) = bels k cs := by simp only [AV.bel]
theorem bel_tup (k : Nat) (cs : List AV) : AV.bel k (.tup cs) = bels k cs := by simp only [AV.bel]
theorem bel_clo (k f : Nat) (cs : List AV) : AV.bel k (.clo f cs) = bels k cs := by simp only [AV.bel]
theorem bel_ref (k l t o n : Nat) : AV.bel k (.ref l t o n) = (l < k) := by simp only [AV.bel]
theorem bel_ptr (k l t o : Nat) : AV.bel k (.ptr l t o) = (l < k) := by simp only [AV.bel]
theorem bel_row (k e m : Nat) (cs : List AV) : Ob.bel k (.row e m cs) = bels k cs := rfl
theorem bels_nil (k : Nat) : bels k [] = True := rfl
theorem bels_cons (k : Nat) (x : AV) (xs : List AV) : bels k (x :: xs) = (x.bel k ∧ bels k xs) := rfl
theorem belD_nil (k : Nat) (fr : Fr) : belD k fr [] = True := rfl
theorem belD_some (k : Nat) (fr : Fr) (d : Nat) (op : SOp) (g : Option (Nat × Bool)) (os : List SOper) : belD k fr (⟨some d, op, g⟩ :: os) = ((fr d).bel k ∧ belD k fr os) := rfl
theorem req_true (K : Unit → Prop) : req True K () = K () := by simp [req]
theorem giv_true (K : Unit → Prop) : giv True K () = K () := by simp [giv]
theorem fillA_nil' (cs : List AV) : fillA cs [] = some cs := rfl
theorem fillA_cons' (cs : List AV) (off k : Nat) (x : AV) (ps : List (Nat × Nat × AV)) : fillA cs ((off, k, x) :: ps) = (cellsOf x).bind fun xs => if xs.length = k ∧ off + k ≤ cs.length then fillA (cs.take off ++ xs ++ cs.drop (off + k)) ps else none := by
  simp only [fillA]
  cases cellsOf x <;> rfl
theorem zc_one (z : Value) (n : Nat) : zcells [z] n = List.replicate n (.sc z) := by
  apply List.ext_getElem
  · simp [zcells]
  · intro i h1 h2
    simp [zcells, Nat.mod_one]
theorem srcOf_nil' (S : St) (k c : Nat) : srcOf S k (.sc (.slice none 0 c)) = some (0, []) := rfl
theorem srcOf_ref' (S : St) (k l tot off n : Nat) : srcOf S k (.ref l tot off n) = (S.row? l tot).bind fun r => if off + n * k ≤ r.2.2.length then some (n, (r.2.2.drop off).take (n * k)) else none := by
  simp only [srcOf]
  cases S.row? l tot <;> rfl
theorem cl_str (s : ByteArray) : cellsOf (strA s) = some [strA s] := rfl
theorem cl_ro (n : Nat) (cs : List AV) : cellsOf (.ro n cs) = some [.ro n cs] := rfl
theorem cl_ref (l tot off n : Nat) : cellsOf (.ref l tot off n) = some [.ref l tot off n] := rfl
theorem cl_int (k : IntKind) (i : Int) : cellsOf (.sc (.int k i)) = some [.sc (.int k i)] := rfl
theorem cl_bool (b : Bool) : cellsOf (.sc (.bool b)) = some [.sc (.bool b)] := rfl
theorem cl_nil : cellsOf (.sc (.slice none 0 0)) = some [.sc (.slice none 0 0)] := rfl
theorem cl_agg (cs : List AV) : cellsOf (.agg cs) = if cs.all AV.one = true then some cs else none := rfl
theorem o_str (s : ByteArray) : AV.one (strA s) = true := rfl
theorem o_int (k : IntKind) (s : Int) : AV.one (.sc (.int k s)) = true := rfl
theorem o_bool (s : Bool) : AV.one (.sc (.bool s)) = true := rfl
theorem o_ro (n : Nat) (cs : List AV) : AV.one (.ro n cs) = true := rfl
theorem o_ref (l tot off n : Nat) : AV.one (.ref l tot off n) = true := rfl
theorem o_nil : AV.one (.sc (.slice none 0 0)) = true := rfl
theorem n_nil2 (D : Nat → Bool) (S : St) : seen D S 2 (.sc (.slice none 0 0)) = .ro 0 [] := rfl
theorem caps_seen {caps : List AV} (h : ∀ c ∈ caps, AV.Still c) (D : Nat → Bool) (S : St) (d : Nat) : caps.map (seen D S d) = caps := map_same fun c hc => (h c hc).seen D S d
theorem caps_bel {caps : List AV} (h : ∀ c ∈ caps, AV.Still c) (k : Nat) : bels k caps = True := eq_true (bels_iff.2 fun c hc => (h c hc).bel k)

/-- Slots kept as they are. -/
def keep (C : List Nat) (fr : Fr) : List (Nat × AV) := C.map fun i => (i, fr i)
theorem keep_nil (fr : Fr) : keep [] fr = [] := rfl
theorem keep_cons (i : Nat) (C : List Nat) (fr : Fr) : keep (i :: C) fr = (i, fr i) :: keep C fr := rfl
section
variable {P : Program} {n : Nat} {Q : Exit → Fr → St → Prop} {fr : Fr} {S : St}
theorem loopC {σ : Type} (hS : Clean S) {L0 : List (Option Ob)} (C : List Nat) {V : List (Nat × AV)} (hV : keep C fr = V) (F : σ → List (Nat × AV)) (R : σ → List (Option Ob)) (I : σ → Prop) (m : σ → Nat) (s0 : σ) {x : SC}
    (h0 : I s0 ∧ fits (F s0) fr ∧ tolds (S.nm (R s0).length) (R s0) L0) (hn : ∀ s, (R s).length = L0.length)
    (round : ∀ s, I s → SWp P n x (thenQ (fun fr' S' => ∃ s', (m s' < m s ∧ I s') ∧ again S (V ++ F s') (R s') fr' S') Q) (frL (V ++ F s)) (S.stk (R s))) :
    SWp P n (.loop x) Q fr (S.stk L0) := by
  subst hV
  refine loop hS (fun s => keep C fr ++ F s) R I m s0 ⟨h0.1, ?_, h0.2.2⟩ hn round
  have key : ∀ (C : List Nat) (A : List (Nat × AV)), fits A fr → fits (keep C fr ++ A) fr := by
    intro C A hA
    induction C with
    | nil => exact hA
    | cons c C ih => exact ⟨.inl rfl, ih⟩
  exact key C _ h0.2.1
/-- Code that is gone into at a stroke: all but loops. -/
class InW (c : SC) : Prop
instance (a b : SC) : InW (.seq a b) := ⟨⟩
instance (a b : SC) (c : SA) : InW (.cond c a b) := ⟨⟩
instance (l : List SOper) : InW (.reg l) := ⟨⟩
instance (l : List SOper) : InW (.regD l) := ⟨⟩
instance (l : List (Bool × SOper)) : InW (.regC l) := ⟨⟩
instance (l : List SOper) : InW (.regE l) := ⟨⟩
instance (l : List SOper) : InW (.regF l) := ⟨⟩
instance (l : List (Bool × SOper)) : InW (.regG l) := ⟨⟩
instance (l : List (Bool × Bool × SOper)) : InW (.regL l) := ⟨⟩
instance (fl : List (Nat × Nat)) (l : List (Bool × Option Nat × SOper)) : InW (.regH fl l) := ⟨⟩
instance (i : Nat) (a : SC) : InW (.block i a) := ⟨⟩
instance (a : SC) : InW (.scope a) := ⟨⟩
instance (i : Nat) : InW (.exit i) := ⟨⟩
instance : InW .ret := ⟨⟩
instance : InW .skip := ⟨⟩
theorem inw {c : SC} [InW c] (h : cwp P n c Q fr S) : SWp P n c Q fr S := cwp_sound _ _ _ _ h
theorem in_seq {a b : SC} (h : cwp P n (.seq a b) Q fr S) : SWp P n (.seq a b) Q fr S := cwp_sound _ _ _ _ h
theorem in_reg {l : List SOper} (h : cwp P n (.reg l) Q fr S) : SWp P n (.reg l) Q fr S := cwp_sound _ _ _ _ h
end
noncomputable def rowIf (p : Prop) (r : TypeId × Nat × List AV) : Option (TypeId × Nat × List AV) := @ite _ p (Classical.propDecidable p) (some r) none
theorem rowIf_true (r : TypeId × Nat × List AV) : rowIf True r = some r := by simp [rowIf]
theorem row_if {α : Type} {k : Nat} [Enc α k] (e tot : Nat) (l : List α) (L : List (Option Ob)) : rowAt (rowO e l :: L) 0 tot = rowIf (l.length * k = tot) (e, k, cellsL l) := by
  rw [rowAt_zero, cellsL_len, rowIf]
  by_cases h : l.length * k = tot <;> simp [h]
theorem rowAt_c (e k : Nat) (c : AV) (cs : List AV) (L : List (Option Ob)) (tot : Nat) : rowAt (some (.row e k (c :: cs)) :: L) 0 tot = if (c :: cs).length = tot then some (e, k, c :: cs) else none := rfl
theorem rowAt_n (e k : Nat) (L : List (Option Ob)) : rowAt (some (.row e k []) :: L) 0 0 = some (e, k, []) := rfl
def seenRow (o : Option (TypeId × Nat × List AV)) (off n tot : Nat) (f : AV → AV) : AV := match o with
  | some r => if off + n * r.2.1 ≤ tot then .ro n (((r.2.2.drop off).take (n * r.2.1)).map f) else .junk
  | none => .junk
theorem seen_f (S : St) (L : List (Option Ob)) (d j tot off n : Nat) : seen (freshIn S) (S.stk L) (d + 1) (.ref (S.nm j) tot off n) = seenRow (rowAt L j tot) off n tot (seen (freshIn S) (S.stk L) d) := by
  simp only [seen, fresh_nm, stk_row, if_true, seenRow]
  cases rowAt L j tot <;> rfl
theorem seen_l (S : St) (L : List (Option Ob)) (d j tot off n : Nat) : seen (fun _ => true) (S.stk L) (d + 1) (.ref (S.nm j) tot off n) = seenRow (rowAt L j tot) off n tot (seen (fun _ => true) (S.stk L) d) := by
  simp only [seen, stk_row, if_true, seenRow]
  cases rowAt L j tot <;> rfl
def seenPtr (o : Option (TypeId × Nat × List AV)) (off : Nat) (f : AV → AV) : AV := match o with
  | some r => .rop ((r.2.2.drop off).map f)
  | none => .junk
theorem seenPtr_some (r : TypeId × Nat × List AV) (off : Nat) (f : AV → AV) : seenPtr (some r) off f = .rop ((r.2.2.drop off).map f) := rfl
theorem seen_fp (S : St) (L : List (Option Ob)) (d j tot off : Nat) : seen (freshIn S) (S.stk L) (d + 1) (.ptr (S.nm j) tot off) = seenPtr (rowAt L j tot) off (seen (freshIn S) (S.stk L) d) := by
  simp only [seen, fresh_nm, stk_row, if_true, seenPtr]
  cases rowAt L j tot <;> rfl
theorem seen_lp (S : St) (L : List (Option Ob)) (d j tot off : Nat) : seen (fun _ => true) (S.stk L) (d + 1) (.ptr (S.nm j) tot off) = seenPtr (rowAt L j tot) off (seen (fun _ => true) (S.stk L) d) := by
  simp only [seen, stk_row, if_true, seenPtr]
  cases rowAt L j tot <;> rfl
theorem seenRow_t {α : Type} {k : Nat} [Enc α k] {e n tot : Nat} {l : List α} {D : Nat → Bool} {S : St} {d : Nat} (h : n = l.length ∧ tot = l.length * k) : seenRow (some (e, k, cellsL l)) 0 n tot (seen D S d) = sl l := by
  obtain ⟨rfl, rfl⟩ := h
  simp only [seenRow, Nat.zero_add, Nat.le_refl, if_true, List.drop_zero]
  rw [List.take_of_length_le (by rw [cellsL_len]; exact Nat.le_refl _), seen_cellsL]
theorem seenRow_c (e k n tot : Nat) (c : AV) (cs : List AV) (f : AV → AV) : seenRow (some (e, k, c :: cs)) 0 n tot f = if n * k ≤ tot then .ro n (((c :: cs).take (n * k)).map f) else .junk := by
  simp only [seenRow, Nat.zero_add, List.drop_zero]

/-! ### structs compared -/
def aggH2 (x y : AV) (K : List AV → List AV → Prop) (b : Dep2 K) : Prop := match x, y with
  | .agg xs, .agg ys => K xs ys
  | _, _ => False
theorem aggH2_eq (xs ys : List AV) (K : List AV → List AV → Prop) : aggH2 (.agg xs) (.agg ys) K () = K xs ys := rfl
theorem y_eqS {P : Program} {fr : Fr} {S : St} {K : AV → Prop} (neg : Bool) (fs : List (KeyKd × Nat)) (x y : SA) : dwp P (.eqS neg fs x y) fr S K = swp P (.eqS neg fs x y) fr S fun r _ => K r := rfl
theorem eqFs_nil (xs ys : List AV) : eqFs [] xs ys = some true := rfl
theorem boolK_f (b : Bool) : boolK false b = boolA b := rfl
theorem boolK_t (b : Bool) : boolK true b = boolA (!b) := rfl
/-! ### an append -/
def appX (S : St) (e k bytes : Nat) (x : AV) (src : Nat × List AV) (K : AV → St → Prop) (b : Dep2 K) : Prop := src.2.length = src.1 * k ∧ appH S e k bytes x src K ()
theorem srcOf_len {S : St} {k : Nat} {x : AV} {src : Nat × List AV} (h : srcOf S k x = some src) : src.2.length = src.1 * k := by
  unfold srcOf at h
  split at h
  · split at h
    · cases h; assumption
    · cases h
  · cases h; simp
  · split at h
    · split at h
      · cases h
        rename_i h
        simp only [List.length_take, List.length_drop]
        omega
      · cases h
    · cases h
  · cases h
theorem x_app {P : Program} {fr : Fr} {S : St} {K : AV → St → Prop} (e k bytes : Nat) (x y : SA) : swp P (.app e k bytes x y) fr S K = orH (srcOf S k (evS fr y)) (fun src => appX S e k bytes (evS fr x) src K ()) () := by
  rw [s_app]
  unfold orH orK
  split
  · rename_i src h
    simp [appX, srcOf_len h]
  · rfl
theorem ax_ref {K : AV → St → Prop} (S : St) (e k bytes l tot n : Nat) (src : Nat × List AV) (ht : tot = n * k) : appX S e k bytes (.ref l tot 0 n) src K () = req (src.2.length = src.1 * k) (fun _ => orH (S.row? l tot) (fun r =>
        req (r.1 = e ∧ r.2.1 = k) (fun _ => req (src.2.all AV.one = true) (fun _ => req (0 < k ∧ 0 < bytes ∧ (n + src.1) * bytes ≤ 140737488355328 ∧ (n + src.1) * k ≤ 281474976710656) (fun _ =>
        letK (S.set l (.row e k (r.2.2 ++ src.2))) (fun S' => letK (.ref l ((n + src.1) * k) 0 (n + src.1)) (fun r => K r S') ()) ()) ()) ()) ()) ()) () := by
  subst ht
  unfold appX
  by_cases h : src.2.length = src.1 * k
  · rw [ap_ref S e k bytes l n src h]
    simp only [req, h, true_and]
  · simp only [req, h, false_and]
theorem ax_nil {K : AV → St → Prop} (S : St) (e k bytes : Nat) (src : Nat × List AV) : appX S e k bytes (.sc (.slice none 0 0)) src K () = req (src.2.length = src.1 * k) (fun _ => req (0 < bytes ∧ src.1 * bytes ≤ 140737488355328 ∧ src.1 * k ≤ 281474976710656) (fun _ =>
        brH (decide (src.1 = 0)) (fun t => if t = true then K (.sc (.slice none 0 0)) S else letK (S.add (.row e k src.2)) (fun S' => K (.ref S.n (src.1 * k) 0 src.1) S') ()) ()) ()) () := by
  unfold appX
  rw [appH_nil]
  simp only [req, brH, decide_eq_true_eq, and_assoc]
theorem eqB_f {K : AV → Prop} (a b : Bool) : eqH .bool false (.sc (.bool a)) (.sc (.bool b)) K () = letK (.sc (.bool (a == b))) K () := rfl
theorem eqB_t {K : AV → Prop} (a b : Bool) : eqH .bool true (.sc (.bool a)) (.sc (.bool b)) K () = letK (.sc (.bool (!(a == b)))) K () := rfl
theorem eqO_ro {K : AV → Prop} (S : St) (neg : Bool) (n : Nat) (cs : List AV) (y : AV) : eqOH S .slice neg (.ro n cs) y K () = eqH .slice neg (.ro n cs) y K () := by simp only [eqOH, eqO, eqH]
theorem eqO_sc {K : AV → Prop} (S : St) (neg : Bool) (v : Value) (y : AV) : eqOH S .slice neg (.sc v) y K () = eqH .slice neg (.sc v) y K () := by simp only [eqOH, eqO, eqH]
theorem eqO_mn {K : AV → Prop} (S : St) (neg : Bool) : eqOH S .map neg (.sc (.map none)) (.sc (.map none)) K () = letK (boolK neg true) K () := by simp only [eqOH, eqO, letK]
theorem eqO_mp {K : AV → Prop} (S : St) (neg : Bool) (l : Nat) : eqOH S .map neg (.mp l) (.sc (.map none)) K () = orH (S.map? l) (fun _ => letK (boolK neg false) K ()) () := by simp only [eqOH, eqO, letK, orH]
theorem eqO_pn {K : AV → Prop} (S : St) (neg : Bool) : eqOH S .ptr neg (.sc (.pointer none)) (.sc (.pointer none)) K () = letK (boolK neg true) K () := by simp only [eqOH, eqO, letK]
theorem eqO_ptr {K : AV → Prop} (S : St) (neg : Bool) (l tot off : Nat) : eqOH S .ptr neg (.ptr l tot off) (.sc (.pointer none)) K () = orH (S.row? l tot) (fun _ => letK (boolK neg false) K ()) () := by simp only [eqOH, eqO, letK, orH]
theorem eqO_rop {K : AV → Prop} (S : St) (neg : Bool) (cs : List AV) : eqOH S .ptr neg (.rop cs) (.sc (.pointer none)) K () = letK (boolK neg false) K () := by simp only [eqOH, eqO, letK]
attribute [go_sem ↓]
  List.map_cons List.map_nil s_mv s_load s_store s_alloc s_box s_build s_buildSl s_eq s_un s_mkfunc s_sl s_faddr s_iaddr s_iaddrA s_ext s_call s_lenS s_lenL x_max d_mv d_pick d_load d_build d_bin d_un d_faddr d_iaddr d_max d_buildSl d_call d_lenL so_nil so_none so_some g_run g_skip do_nil do_none do_some gd_run gd_skip c_skip c_reg c_regD c_regE c_regC rc_f c_regG gn_nil gn_none gl_nil gl_f gl_t c_regH c_regL hg_nil hq_none hg_new hq_mksl hq_lit adds_nil adds_cons w_mv w_load w_store w_build w_buildSl1 w_bin w_faddr w_iaddr w_call w_lenL w_app eo_nil eo_none e_mv e_load e_store e_buildSl e_nilck e_faddr e_iaddr e_app e_max c_block c_exit c_ret c_loop q_normal q_ret q_exit b_normal b_ret b_exit t_normal t_ret t_exit r_one r_two c_seq evS avOf put_eq put_none fr0_cons_zero fr0_cons_succ intOfAV loIn unV eqA boolK x_pick x_bin x_mksl x_ixs x_app x_cond condB_t condB_f f_ret r_ret rv_tmp rv_cell rk_nil rk_tmp rk_cell y_eqS o1 oT oF o0 cI cB
attribute [go_sem]
  b_max l_regC SOp.fit nonE plainB ext_self List.mem_cons List.not_mem_nil or_false letK_eq orH_some scH_eq boolH_eq intH_eq strH_eq tupH_eq cloH_eq guardH_undef frG_some frG_none loadH_ptr loadH_rop faddrH_rop faddrH_ptr l_skip l_reg l_regD l_regE l_regH l_regL below_nil l_seq l_cond l_block l_loop l_exit l_ret orK_some Bool.or_self Bool.or_true Bool.true_or Bool.or_false Bool.false_or Option.some.injEq Option.map_some Option.map_none List.map_cons List.map_nil List.cons_append List.nil_append List.getElem?_cons_zero List.getElem?_cons_succ List.length_cons List.length_nil forall_const true_implies false_implies implies_true and_true true_and Bool.false_eq_true Bool.true_eq_false ne_eq not_true_eq_false Bool.not_true Bool.not_false not_false_eq_true isRo Int.toNat_natCast Nat.mul_one Nat.zero_mul List.drop_zero Int.ofNat_lt Bool.not_eq_true' Bool.not_eq_false' n_bool n_int n_str n_nil n_ro n_rop n_fn n_clo n_agg n_nil3 List.take_succ_cons List.drop_succ_cons List.take_nil List.drop_nil List.all_cons List.all_nil Bool.and_self Nat.lt_add_one Int.cast_ofNat_Int List.head?_cons Int.le_refl decide_true decide_false Option.bind_some Nat.zero_add Nat.add_zero Nat.le_refl Nat.min_self List.take_zero List.length_map List.length_replicate AV.sc.injEq Value.int.injEq Value.bool.injEq Value.string.injEq AV.tup.injEq brH_t brH_f guardH_br len_ro lenH_roq ia_sl ia_ref ia_Aptr ld_ptrk ld_sl sl_sl st_ptr ax_ref ax_nil req_true giv_true req_ok giv_ok b_add b_sub b_mul b_rem b_eql b_neq b_lss b_leq b_gtr b_geq b_eqlS b_neqS b_lssS b_leqS b_gtrS stk_n stk_add stk_row rowAt_none rowAt_succ nm_lt nm_add cellsL_len bels_cellsL bels_dropC seen_cellsL one_cellsL src_sl head_cells cells_i cells_s cells_b cells_l cells_p cells_p2 cat_i cat_s cat_l take_1 drop_1 get_1 rep_i rep_s again_eq fits_nil fits_cons belF_nil belF_cons fit_self fit_sc fit_ref fit_ptr bel_sc bel_ro bel_rop bel_agg bel_tup bel_clo bel_ref bel_ptr bel_row bels_nil bels_cons belD_nil belD_some toldS_stk tolds_nil tolds_none tolds_some List.tail_cons wrap_nat fillA_nil' fillA_cons' zc_one srcOf_ref' srcOf_nil' cl_str cl_ro cl_ref cl_int cl_bool cl_nil cl_agg o_str o_int o_bool o_ro o_ref o_nil n_nil2 fresh_nm frL_nil frL_cons Ob.row.injEq List.append_nil stk_set0 stk_set1 stk_set2 stk_set3 stk_set4 stk_set5 stk_set7 stk_set8 keep_nil keep_cons seen_f seen_l seen_fp seen_lp seenPtr_some seenRow_t seenRow_c cellsL_nil cellsL_app rowAt_c rowAt_n row_if rowIf_true cellsL_cons rc_k ro_k aggH2_eq eqFs_nil boolK_f boolK_t Bool.and_true eqB_f eqO_ro eqO_sc eqO_mn eqO_mp eqO_pn eqO_ptr eqO_rop eqB_t beq_self_eq_true cond_true cond_false killD_nil killD_cons ext_stks exts_nil exts_none exts_some
end Go.Proofs.Ytfihpbeihlpfcaa.Ev
