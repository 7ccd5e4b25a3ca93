/- The operations in short, what they do to abstract values, and how they are read off the program. -/
import Derived.Test.YtfihpbeihlpfcaaZEvB
import GoSem.Dispatch
set_option linter.unusedVariables false
set_option linter.unusedSimpArgs false
namespace Go.Proofs.Ytfihpbeihlpfcaa.Ev
open Go Go.RowKit

inductive SA where
  | t (i : Nat)
  | c (v : Value)
  | f (g : FuncId)

/-- What '==' compares where it isn't numbers or strings. -/
inductive EqK where
  | bool | slice | func | map | ptr

inductive SOp where
  | mv (x : SA)
  | pick (c a b : SA)
  | load (k : Option Nat) (a : SA)
  | store (k : Nat) (a x : SA)
  | alloc (e k : Nat) (zs : List Value)
  | box (e k : Nat) (x : SA)
  | build (zs : List Value) (ps : List (Nat × Nat × SA))
  | buildSl (e k len : Nat) (zs : List Value) (ps : List (Nat × Nat × SA))
  | nilck (x : SA)
  | bin (op : BinOp) (x y : SA)
  | eq (neg : Bool) (k : EqK) (x y : SA)
  | un (op : UnOp) (x : SA)
  | cvi (k : IntKind) (x : SA)
  | cvs (x : SA)
  | mkfunc (f : FuncId) (caps : List SA)
  | mkbnd (f : FuncId) (fs : List SA)
  | mksl (e k bytes : Nat) (zs : List Value) (len cap : SA)
  | sls (x : SA) (lo hi : Option SA)
  | sl (k : Nat) (x : SA) (lo hi : Option SA)
  | faddr (off : Nat) (x : SA)
  | fld (k : Option Nat) (off : Nat) (x : SA)
  | iaddr (k : Nat) (x i : SA)
  | iaddrA (n k : Nat) (x i : SA)
  | ixs (x i : SA)
  | ixa (n k : Nat) (agg : Bool) (x i : SA)
  | ext (x : SA) (i : Nat)
  | call (f : SA) (args : List SA)
  | lenS (x : SA)
  | lenL (x : SA)
  | capL (x : SA)
  | app (e k bytes : Nat) (x y : SA)
  | appZ (e k bytes : Nat) (zs : List Value) (x y : SA)
  | copy (k : Nat) (x y : SA)
  | min (x y : SA)
  | max (x y : SA)
  | max3 (x y z : SA)
  | mkif (t : TypeId) (x : SA)
  | mkmap
  | mupd (kd : KeyKd) (m k x : SA)
  | look (kd : KeyKd) (z : Value) (ok : Bool) (m k : SA)
  | lenM (x : SA)
  | eqS (neg : Bool) (fs : List (KeyKd × Nat)) (x y : SA)
  | rangeM (x : SA)
  | nextM (x : SA)
  | entryM (x : SA)
  | mentry (kd : KeyKd) (z : Value) (m k : SA)
  | mstore (m st x : SA)
  | sl3 (k : Nat) (x lo hi mx : SA)
  | clr (k : Nat) (zs : List Value) (x : SA)
  | slA (n k : Nat) (x : SA) (lo hi : Option SA)
  | no

structure SOper where
  dst : Option Nat
  op : SOp
  guard : Option (Nat × Bool)

def sa : Operand → Option SA
  | .tmp t => some (.t t)
  | .const v => some (.c v)
  | .func f => some (.f f)
  | .global _ => none

def has (P : Program) (t : TypeId) : Bool := (P.info? t).isSome
def isAggT (P : Program) (t : TypeId) : Option Bool :=
  match P.underlying t with
  | some (.struct _) | some (.array _ _) => some true
  | some _ => some false
  | none => none
def zeroCellsOf (P : Program) (t : TypeId) : Option (List Value) := do
  let i ← P.info? t
  let z ← i.zero
  pure z.cells.toList
/-- The zero cells, as a name: a long list stands unfolded. -/
def zerosAt (P : Program) (t : TypeId) : List Value := (zeroCellsOf P t).getD []
theorem zerosAt_eq {P : Program} {t : TypeId} (h : (zeroCellsOf P t).isSome = true) : zeroCellsOf P t = some (zerosAt P t) := by
  rw [zerosAt]
  cases hz : zeroCellsOf P t with
  | none => rw [hz] at h; cases h
  | some z => rfl
def places (P : Program) (t : TypeId) (ps : List (Nat × Operand)) : Option (List (Nat × Nat × SA)) :=
  match P.underlying t with
  | some (.struct fs) => if fs.toList.all (fun f => has P f.type) then ps.mapM fun (i, x) => do
      let f ← fs[i]?
      pure (f.offset, P.cellsOf f.type, ← sa x) else none
  | some (.array _ e) => if has P e then ps.mapM fun (i, x) => do pure (i * P.cellsOf e, P.cellsOf e, ← sa x) else none
  | some (.slice e) => if has P e then ps.mapM fun (i, x) => do pure (i * P.cellsOf e, P.cellsOf e, ← sa x) else none
  | _ => none

def zok (P : Program) (e : TypeId) : Bool :=
  match P.info? e with
  | some i => (match i.zero with | some z => z.cells.size == i.size | none => false)
  | none => false

def keyKd (P : Program) (t : TypeId) : Option KeyKd :=
  match P.underlying t with
  | some .string => some .str
  | some (.int k) => some (.int k)
  | some .bool => some .bool
  | _ => none

def k1Of (P : Program) (t : TypeId) : Option K1 :=
  match P.underlying t with
  | some .string => some .str
  | some (.int k) => some (.int k)
  | some .bool => some .bool
  | _ => none
/-- The kind of a map's keys; structs of plain fields, one behind the other, too. -/
def keyKdM (P : Program) (t : TypeId) : Option KeyKd :=
  match P.underlying t with
  | some (.struct fs) => if !(P.stoodInHeld t) && fs.toList.map (·.offset) == List.range fs.size && (fs.toList.all fun f => f.name != "_") then (fs.toList.mapM fun f => k1Of P f.type).map .flds else none
  | _ => keyKd P t
def isIntT (P : Program) (t : TypeId) : Bool := match P.underlying t with
  | some (.int _) => true
  | _ => false
def sopB (P : Program) (b : Builtin) (args : List Operand) (ats : List TypeId) : Option SOp :=
  match b with
  | .len => match args, ats with
    | [x], [t] => (match P.underlying t with
      | some .string => do pure (.lenS (← sa x))
      | some (.slice _) => do pure (.lenL (← sa x))
      | some (.map _ _) => do pure (.lenM (← sa x))
      | _ => none)
    | _, _ => none
  | .cap => match args, ats with
    | [x], [t] => (match P.underlying t with
      | some (.slice _) => do pure (.capL (← sa x))
      | _ => none)
    | _, _ => none
  | .append => match args, ats with
    | [x, y], [t, u] => (match P.underlying t with
      | some (.slice e) => do if has P e && t == u && zok P e && decide (0 < P.cellsOf e) then pure (.app e (P.cellsOf e) (P.bytesOf e) (← sa x) (← sa y)) else if isIntT P u && has P e && zok P e && decide (0 < P.cellsOf e) then pure (.appZ e (P.cellsOf e) (P.bytesOf e) (← zeroCellsOf P e) (← sa x) (← sa y)) else none
      | _ => none)
    | _, _ => none
  | .copy => match args, ats with
    | [x, y], [t, u] => (match P.underlying t with
      | some (.slice e) => do if has P e && t == u && decide (0 < P.cellsOf e) then pure (.copy (P.cellsOf e) (← sa x) (← sa y)) else none
      | _ => none)
    | _, _ => none
  | .min => match args with
    | [x, y] => do pure (.min (← sa x) (← sa y))
    | _ => none
  | .max => match args with
    | [x, y] => do pure (.max (← sa x) (← sa y))
    | [x, y, z] => do pure (.max3 (← sa x) (← sa y) (← sa z))
    | _ => none
  | .clear => match args, ats with
    | [x], [t] => (match P.underlying t with
      | some (.slice e) => do if has P e && zok P e && decide (0 < P.cellsOf e) then pure (.clr (P.cellsOf e) (← zeroCellsOf P e) (← sa x)) else none
      | _ => none)
    | _, _ => none
  | _ => none

/-- The fields of a struct that is compared, all of one cell. -/
def eqFields (P : Program) (t : TypeId) (fs : Array Field) : Option (List (KeyKd × Nat)) :=
  if !(P.stoodInHeld t) && !(P.eqGuardType P.depth t) then fs.toList.mapM fun f => if f.name != "_" && has P f.type then (keyKd P f.type).map fun k => (k, f.offset) else none else none

/-- The elements of an array that is compared, all of one cell. -/
def eqElems (P : Program) (t : TypeId) (n : Nat) (e : TypeId) : Option (List (KeyKd × Nat)) :=
  if !(P.eqGuardType P.depth t) && has P e && P.cellsOf e == 1 && decide (n ≤ 64) then (keyKd P e).map fun k => (List.range n).map fun i => (k, i) else none

def sop0 (P : Program) : Op → Option SOp
  | .move x | .assign x => do pure (.mv (← sa x))
  | .pick c a b => do pure (.pick (← sa c) (← sa a) (← sa b))
  | .load t a => do
    let g ← isAggT P t
    if has P t then pure (.load (if g then some (P.cellsOf t) else none) (← sa a)) else none
  | .store t a x => do if has P t then pure (.store (P.cellsOf t) (← sa a) (← sa x)) else none
  | .alloc e => if (zeroCellsOf P e).isSome then some (.alloc e (P.cellsOf e) (zerosAt P e)) else none
  | .box e x => do pure (.box e (P.cellsOf e) (← sa x))
  | .build t ps => do
    let i ← P.underlying t
    match i with
    | .struct _ | .array _ _ => pure (.build (← zeroCellsOf P t) (← places P t ps.toList))
    | _ => none
  | .buildSlice t len ps =>
    match P.underlying t with
    | some (.slice e) => do
      if has P e && decide (len * P.cellsOf e ≤ 1048576) && decide (len ≤ 1048576) then pure (.buildSl e (P.cellsOf e) len (← zeroCellsOf P e) (← places P t ps.toList)) else none
    | _ => none
  | .nilCheck x => do pure (.nilck (← sa x))
  | .binOp op t x y _ =>
    if op == .eql || op == .neq then
      match P.underlying t with
      | some (.int _) | some .string => do pure (.bin op (← sa x) (← sa y))
      | some .bool => do pure (.eq (op == .neq) .bool (← sa x) (← sa y))
      | some (.slice _) => do pure (.eq (op == .neq) .slice (← sa x) (← sa y))
      | some (.func ..) => do pure (.eq (op == .neq) .func (← sa x) (← sa y))
      | some (.map ..) => do pure (.eq (op == .neq) .map (← sa x) (← sa y))
      | some (.pointer _) => do pure (.eq (op == .neq) .ptr (← sa x) (← sa y))
      | some (.struct fs) => do pure (.eqS (op == .neq) (← eqFields P t fs) (← sa x) (← sa y))
      | some (.array n e) => do pure (.eqS (op == .neq) (← eqElems P t n e) (← sa x) (← sa y))
      | _ => none
    else do pure (.bin op (← sa x) (← sa y))
  | .unOp op _ x => do pure (.un op (← sa x))
  | .convert src dst x =>
    match P.underlying src, P.underlying dst with
    | some (.int _), some (.int k) => do pure (.cvi k (← sa x))
    | some .string, some .string => do pure (.cvs (← sa x))
    | _, _ => none
  | .makeFunc (.func f) first caps => do if first.isEmpty then pure (.mkfunc f (← caps.toList.mapM sa)) else if caps.isEmpty then pure (.mkbnd f (← first.toList.mapM sa)) else none
  | .makeInterface t x =>
    match P.underlying t with
    | some (.interface _) => none
    | some _ => do pure (.mkif t (← sa x))
    | none => none
  | .makeSlice t l c =>
    match P.underlying t with
    | some (.slice e) => do if has P e then pure (.mksl e (P.cellsOf e) (P.bytesOf e) (← zeroCellsOf P e) (← sa l) (← sa c)) else none
    | _ => none
  | .slice t x lo hi none =>
    match P.underlying t with
    | some .string => do pure (.sls (← sa x) (← lo.mapM sa) (← hi.mapM sa))
    | some (.slice e) => do if has P e then pure (.sl (P.cellsOf e) (← sa x) (← lo.mapM sa) (← hi.mapM sa)) else none
    | some (.array n e) => do if has P e then pure (.slA n (P.cellsOf e) (← sa x) (← lo.mapM sa) (← hi.mapM sa)) else none
    | _ => none
  | .slice t x (some lo) (some hi) (some mx) =>
    match P.underlying t with
    | some (.slice e) => do if has P e then pure (.sl3 (P.cellsOf e) (← sa x) (← sa lo) (← sa hi) (← sa mx)) else none
    | _ => none
  | .fieldAddr s x f =>
    match P.underlying s with
    | some (.struct fs) => do
      let f ← fs[f]?
      if has P f.type && P.cellsOf f.type != 0 then pure (.faddr f.offset (← sa x)) else none
    | _ => none
  | .field s x f =>
    match P.underlying s with
    | some (.struct fs) => do
      let f ← fs[f]?
      let g ← isAggT P f.type
      if has P f.type then pure (.fld (if g then some (P.cellsOf f.type) else none) f.offset (← sa x)) else none
    | _ => none
  | .indexAddr t x i =>
    match P.underlying t with
    | some (.slice e) => do if has P e then pure (.iaddr (P.cellsOf e) (← sa x) (← sa i)) else none
    | some (.array n e) => do if has P e then pure (.iaddrA n (P.cellsOf e) (← sa x) (← sa i)) else none
    | _ => none
  | .index t x i =>
    match P.underlying t with
    | some .string => do pure (.ixs (← sa x) (← sa i))
    | some (.array n e) => do
      let g ← isAggT P e
      if has P e then pure (.ixa n (P.cellsOf e) g (← sa x) (← sa i)) else none
    | _ => none
  | .extract x i => do pure (.ext (← sa x) i)
  | .makeMap t none => some .mkmap
  | .mapUpdate t m k x =>
    match P.underlying t with
    | some (.map kt _) => do pure (.mupd (← keyKdM P kt) (← sa m) (← sa k) (← sa x))
    | _ => none
  | .lookup t m k ok =>
    match P.underlying t with
    | some (.map kt e) => do
      let i ← P.info? e
      pure (.look (← keyKdM P kt) (← i.zero) ok (← sa m) (← sa k))
    | _ => none
  | .insert t m k x =>
    match P.underlying t with
    | some (.map kt _) => do pure (.mupd (← keyKdM P kt) (← sa m) (← sa k) (← sa x))
    | _ => none
  | .mapEntry t m k =>
    match P.underlying t with
    | some (.map kt e) => do
      let i ← P.info? e
      pure (.mentry (← keyKdM P kt) (← i.zero) (← sa m) (← sa k))
    | _ => none
  | .entryStore _ m st x => do pure (.mstore (← sa m) (← sa st) (← sa x))
  | .entry x => do pure (.entryM (← sa x))
  | .range t x =>
    match P.underlying t with
    | some (.map _ _) => do pure (.rangeM (← sa x))
    | _ => none
  | .next x false => do pure (.nextM (← sa x))
  | .call c =>
    match c.callee with
    | .value f => do pure (.call (← sa f) (← c.args.toList.mapM sa))
    | .builtin b => sopB P b c.args.toList c.argTypes.toList
    | .invoke _ _ => none
  | _ => none

/-- What can't be told is not to be come to. -/
def sop (P : Program) (o : Op) : SOp := (sop0 P o).getD .no

/-! ### frames -/
abbrev Fr := Nat → AV
def Fr.put (fr : Fr) (d : Option Nat) (x : AV) : Fr := fun i => if d = some i then x else fr i
def avOf : Value → AV
  | .agg cs => .agg (cs.toList.map .sc)
  | v => .sc v
def evS (fr : Fr) : SA → AV
  | .t i => fr i
  | .c v => avOf v
  | .f g => .clo g []

/-! ### plain operations -/
def binV (op : BinOp) (x y : Value) (K : Value → Prop) : Prop :=
  match x, y with
  | .int k a, .int k' b =>
    match op with
    | .shl => 0 ≤ b ∧ K (.int k (k.wrap (a * 2 ^ (Nat.min b.toNat k.bits))))
    | .shr => 0 ≤ b ∧ K (.int k (a.fdiv (2 ^ (Nat.min b.toNat k.bits))))
    | .add => k = k' ∧ K (.int k (k.wrap (a + b)))
    | .sub => k = k' ∧ K (.int k (k.wrap (a - b)))
    | .mul => k = k' ∧ K (.int k (k.wrap (a * b)))
    | .quo => k = k' ∧ b ≠ 0 ∧ K (.int k (k.wrap (a.tdiv b)))
    | .rem => k = k' ∧ b ≠ 0 ∧ K (.int k (a.tmod b))
    | .and => k = k' ∧ K (.int k (bits .and k a b))
    | .or => k = k' ∧ K (.int k (bits .or k a b))
    | .xor => k = k' ∧ K (.int k (bits .xor k a b))
    | .andNot => k = k' ∧ K (.int k (bits .andNot k a b))
    | .eql => k = k' ∧ K (.bool (a == b))
    | .neq => k = k' ∧ K (.bool (a != b))
    | .lss => k = k' ∧ K (.bool (decide (a < b)))
    | .leq => k = k' ∧ K (.bool (decide (a ≤ b)))
    | .gtr => k = k' ∧ K (.bool (decide (a > b)))
    | .geq => k = k' ∧ K (.bool (decide (a ≥ b)))
  | .string a, .string b =>
    match op with
    | .add => ((a.size + b.size : Nat) : Int) ≤ 9223372036854775807 ∧ K (.string (a ++ b))
    | .eql => K (.bool (a.toList == b.toList))
    | .neq => K (.bool !(a.toList == b.toList))
    | .lss => K (.bool (Op.bytesLess a.toList b.toList))
    | .leq => K (.bool (Op.bytesLess a.toList b.toList || a.toList == b.toList))
    | .gtr => K (.bool !(Op.bytesLess a.toList b.toList || a.toList == b.toList))
    | .geq => K (.bool !(Op.bytesLess a.toList b.toList))
    | _ => False
  | _, _ => False

def unV (op : UnOp) (x : Value) (K : Value → Prop) : Prop :=
  match op, x with
  | .neg, .int k n => K (.int k (k.wrap (0 - n)))
  | .not, .bool b => K (.bool !b)
  | _, _ => False

def minV (x y : Value) (K : Value → Prop) : Prop :=
  match x, y with
  | .int k a, .int _ b => K (.int k (if b < a then b else a))
  | _, _ => False
def maxV (x y : Value) (K : Value → Prop) : Prop :=
  match x, y with
  | .int k a, .int _ b => K (.int k (if b > a then b else a))
  | _, _ => False

def max3V (x y z : Value) (K : Value → Prop) : Prop :=
  match x, y, z with
  | .int k a, .int _ b, .int _ c => K (.int k (if c > (if b > a then b else a) then c else (if b > a then b else a)))
  | _, _, _ => False

def AV.one : AV → Bool
  | .sc v => v.oneCell'
  | .agg _ | .tup _ | .junk => false
  | _ => true
/-- The cells of a value that is stored. -/
def cellsOf : AV → Option (List AV)
  | .agg cs => if cs.all AV.one then some cs else none
  | x => if x.one then some [x] else none

def fillA : List AV → List (Nat × Nat × AV) → Option (List AV)
  | cs, [] => some cs
  | cs, (off, k, x) :: ps =>
    match cellsOf x with
    | some xs => if xs.length = k ∧ off + k ≤ cs.length then fillA (cs.take off ++ xs ++ cs.drop (off + k)) ps else none
    | none => none
def zcells (zs : List Value) (n : Nat) : List AV := (List.range n).map fun i => .sc (zs[i % zs.length]!)

/-- The cell of a row, if what was told of it is of today. -/
def St.row? (S : St) (l tot : Nat) : Option (TypeId × Nat × List AV) :=
  match S.m l with
  | some (.row e k cs) => if cs.length = tot then some (e, k, cs) else none
  | _ => none

def intOfAV : AV → Option Int
  | .sc (.int _ i) => some i
  | _ => none

def orK {α : Type} (o : Option α) (K : α → Prop) : Prop := match o with | some a => K a | none => False
theorem orK_some {α : Type} (a : α) (K : α → Prop) : orK (some a) K = K a := id rfl

def boolK (neg b : Bool) : AV := .sc (.bool (if neg then !b else b))
def eqA (k : EqK) (neg : Bool) (x y : AV) (K : AV → Prop) : Prop :=
  match k, x, y with
  | .bool, .sc (.bool a), .sc (.bool b) => K (boolK neg (a == b))
  | .slice, .sc (.slice none _ _), .sc (.slice none _ _) => K (boolK neg true)
  | .slice, .ro n cs, .sc (.slice none _ _) => ∀ b : Bool, (b = true → n = 0) → K (boolK neg b)
  | .slice, .sc (.slice none _ _), .ro n cs => ∀ b : Bool, (b = true → n = 0) → K (boolK neg b)
  | .func, .clo _ _, .sc .nilFunc => K (boolK neg false)
  | .func, .sc .nilFunc, .sc .nilFunc => K (boolK neg true)
  | _, _, _ => False
def St.map? (S : St) (l : Nat) : Option (List (Value × AV)) := match S.m l with | some (.map es) => some es | _ => none
/-- The same with a store: own maps, pointers and slices beside nil. -/
def eqO (S : St) (k : EqK) (neg : Bool) (x y : AV) (K : AV → Prop) : Prop :=
  match k, x, y with
  | .map, .mp l, .sc (.map none) => orK (S.map? l) fun _ => K (boolK neg false)
  | .map, .rom (_ :: _) _, .sc (.map none) => K (boolK neg false)
  | .map, .sc (.map none), .sc (.map none) => K (boolK neg true)
  | .ptr, .ptr l tot off, .sc (.pointer none) => orK (S.row? l tot) fun _ => K (boolK neg false)
  | .ptr, .rop _, .sc (.pointer none) => K (boolK neg false)
  | .ptr, .sc (.pointer none), .sc (.pointer none) => K (boolK neg true)
  | .slice, .ref l tot off n, .sc (.slice none _ _) => 0 < n ∧ orK (S.row? l tot) fun _ => K (boolK neg false)
  | k, x, y => eqA k neg x y K
def byteAt (s : ByteArray) (i : Nat) : Int := ((s.data[i]?.getD 0).toNat : Int)

def ACall (P : Program) (f : FuncId) (args : List AV) (S : St) (Q : AV → St → Prop) : Prop :=
  (∃ fn, P.funcs[f]? = some fn ∧ (fn.name == "runtime.NumGoroutine") = false ∧ fn.body.isNone = false) ∧
  ∀ (G : Ctx) (vs : List Value), G.S = S → Rel G → Rvs G args vs →
    Calls P f vs.toArray G.w fun e w' => ∃ (G' : Ctx) (r : AV) (v : Value), e = .returned v ∧ G'.w = w' ∧ Rel G' ∧ Step G G' ∧ Rv G' r v ∧ Q r G'.S

def eqFs : List (KeyKd × Nat) → List AV → List AV → Option Bool
  | [], _, _ => some true
  | (kd, off) :: fs, xs, ys => match xs[off]?, ys[off]? with
    | some (.sc u), some (.sc v) => if kd.is u && kd.is v then (eqFs fs xs ys).map fun b => keyEq u v && b else none
    | _, _ => none
def findE : List (Value × AV) → Value → Option AV
  | [], _ => none
  | (k, x) :: es, v => if keyEq v k then some x else findE es v
def updE : List (Value × AV) → Value → AV → List (Value × AV)
  | [], v, y => [(v, y)]
  | (k, x) :: es, v, y => if keyEq v k then (v, y) :: es else (k, x) :: updE es v y
def mapOf (S : St) : AV → Option (List (Value × AV))
  | .mp l => S.map? l
  | .rom ks vs => some (ks.zip vs)
  | .sc (.map none) => some []
  | _ => none
/-- A map as it was at least. -/
def zOf (S : St) : AV → Option (KeyKd × Value × List (Value × AV))
  | .mp l => match S.m l with
    | some (.iter (.mapz kd z es)) => some (kd, z, es)
    | _ => none
  | _ => none
/-- A key as a value. -/
def scs : List AV → Option (List Value)
  | [] => some []
  | .sc v :: cs => (scs cs).map (v :: ·)
  | _ => none
def keyV : AV → Option Value
  | .sc v => some v
  | .agg cs => (scs cs).map fun vs => .agg vs.toArray
  | _ => none
def itOf (S : St) : AV → Option (Nat × List (Value × AV))
  | .it l => match S.m l with
    | some (.iter (.map _ left)) => some (l, left)
    | _ => none
  | _ => none
def curOf (S : St) : AV → Option (Value × AV)
  | .it l => match S.m l with
    | some (.iter (.map cur _)) => cur
    | _ => none
  | _ => none
def romOf : AV → Option (List (Value × AV))
  | .rom ks vs => some (ks.zip vs)
  | .sc (.map none) => some []
  | _ => none
def keysOk (kd : KeyKd) (es : List (Value × AV)) : Bool := es.all fun e => kd.is e.1

/-- What a slice's value reads as: how many elements, its cells. -/
def srcOf (S : St) (k : Nat) : AV → Option (Nat × List AV)
  | .ro n cs => if cs.length = n * k then some (n, cs) else none
  | .sc (.slice none 0 _) => some (0, [])
  | .ref l tot off n =>
    match S.row? l tot with
    | some (_, _, cs) => if off + n * k ≤ cs.length then some (n, (cs.drop off).take (n * k)) else none
    | none => none
  | _ => none

def loIn (o : Option AV) (d : Int) : Option Int := match o with | none => some d | some x => intOfAV x

def swp (P : Program) (s : SOp) (fr : Fr) (S : St) (K : AV → St → Prop) : Prop :=
  match s with
  | .mv x => K (evS fr x) S
  | .pick c a b => match evS fr c with
    | .sc (.bool t) => (t = true → K (evS fr a) S) ∧ (t = false → K (evS fr b) S)
    | _ => False
  | .load k a => match evS fr a with
    | .ptr l tot off => orK (S.row? l tot) fun r => match k with
      | none => orK r.2.2[off]? fun c => K c S
      | some k => off + k ≤ r.2.2.length ∧ K (.agg ((r.2.2.drop off).take k)) S
    | .rop cs => match k with
      | none => orK cs.head? fun c => K c S
      | some k => k ≤ cs.length ∧ K (.agg (cs.take k)) S
    | _ => False
  | .store k a x => match evS fr a with
    | .ptr l tot off => orK (S.row? l tot) fun r => orK (cellsOf (evS fr x)) fun xs =>
        xs.length = k ∧ off + k ≤ r.2.2.length ∧ K (.sc undef) (S.set l (.row r.1 r.2.1 (r.2.2.take off ++ xs ++ r.2.2.drop (off + k))))
    | _ => False
  | .alloc e k zs => zs.length ≤ 281474976710656 ∧ K (.ptr S.n zs.length 0) (S.add (.row e k (zs.map .sc)))
  | .box e k x => orK (cellsOf (evS fr x)) fun cs => cs.length ≤ 281474976710656 ∧ K (.ptr S.n cs.length 0) (S.add (.row e k cs))
  | .build zs ps => orK (fillA (zs.map .sc) (ps.map fun p => (p.1, p.2.1, evS fr p.2.2))) fun cs => K (.agg cs) S
  | .buildSl e k len zs ps => orK (fillA (zcells zs (len * k)) (ps.map fun p => (p.1, p.2.1, evS fr p.2.2))) fun cs => K (.ref S.n (len * k) 0 len) (S.add (.row e k cs))
  | .nilck x => match evS fr x with
    | .ptr l tot off => orK (S.row? l tot) fun _ => K (evS fr x) S
    | .rop cs => K (evS fr x) S
    | .clo f cs => K (evS fr x) S
    | _ => False
  | .bin op x y => match evS fr x, evS fr y with
    | .sc u, .sc v => binV op u v fun r => K (.sc r) S
    | _, _ => False
  | .eq neg k x y => eqO S k neg (evS fr x) (evS fr y) fun r => K r S
  | .un op x => match evS fr x with
    | .sc u => unV op u fun r => K (.sc r) S
    | _ => False
  | .cvi k x => match evS fr x with
    | .sc (.int _ n) => K (.sc (.int k (k.wrap n))) S
    | _ => False
  | .cvs x => match evS fr x with
    | .sc (.string s) => K (.sc (.string s)) S
    | _ => False
  | .mkfunc f caps => K (.clo f (caps.map (evS fr))) S
  | .mkbnd f fs => K (.bnd f (fs.map (evS fr))) S
  | .mksl e k bytes zs len cap => orK (intOfAV (evS fr len)) fun n => orK (intOfAV (evS fr cap)) fun c =>
      0 ≤ n ∧ n ≤ c ∧ c * bytes ≤ 281474976710656 ∧ c ≤ 281474976710656 ∧ n.toNat * k ≤ 281474976710656 ∧ K (.ref S.n (n.toNat * k) 0 n.toNat) (S.add (.row e k (zcells zs (n.toNat * k))))
  | .sls x lo hi => match evS fr x with
    | .sc (.string s) => orK (loIn (lo.map (evS fr)) 0) fun l => orK (loIn (hi.map (evS fr)) s.size) fun h =>
        0 ≤ l ∧ l ≤ h ∧ h ≤ s.size ∧ K (.sc (.string (s.extract l.toNat h.toNat))) S
    | _ => False
  | .sl k x lo hi => match evS fr x with
    | .ro n cs => orK (loIn (lo.map (evS fr)) 0) fun l => orK (loIn (hi.map (evS fr)) n) fun h =>
        0 ≤ l ∧ l ≤ h ∧ h ≤ n ∧ cs.length = n * k ∧ K (.ro (h.toNat - l.toNat) ((cs.drop (l.toNat * k)).take ((h.toNat - l.toNat) * k))) S
    | .ref q tot off n => orK (S.row? q tot) fun r => orK (loIn (lo.map (evS fr)) 0) fun l => orK (loIn (hi.map (evS fr)) n) fun h =>
        0 ≤ l ∧ l ≤ h ∧ (h ≤ n ∨ off + h.toNat * k ≤ tot) ∧ 0 < k ∧ r.2.1 = k ∧ K (.ref q tot (off + l.toNat * k) (h.toNat - l.toNat)) S
    | .sc (.slice none 0 0) => orK (loIn (lo.map (evS fr)) 0) fun l => orK (loIn (hi.map (evS fr)) 0) fun h => l = 0 ∧ h = 0 ∧ K (.sc (.slice none 0 0)) S
    | _ => False
  | .faddr off x => match evS fr x with
    | .ptr l tot o => orK (S.row? l tot) fun _ => K (.ptr l tot (o + off)) S
    | .rop cs => K (.rop (cs.drop off)) S
    | _ => False
  | .fld k off x => match evS fr x with
    | .agg cs => match k with
      | none => orK cs[off]? fun c => K c S
      | some k => off + k ≤ cs.length ∧ K (.agg ((cs.drop off).take k)) S
    | _ => False
  | .iaddr k x i => orK (intOfAV (evS fr i)) fun j => match evS fr x with
    | .ro n cs => 0 ≤ j ∧ j < n ∧ j.toNat * k < cs.length ∧ K (.rop (cs.drop (j.toNat * k))) S
    | .ref l tot off n => orK (S.row? l tot) fun r => 0 ≤ j ∧ j < n ∧ K (.ptr l tot (off + j.toNat * k)) S
    | _ => False
  | .iaddrA n k x i => orK (intOfAV (evS fr i)) fun j => match evS fr x with
    | .ptr l tot off => orK (S.row? l tot) fun r => 0 ≤ j ∧ j < n ∧ K (.ptr l tot (off + j.toNat * k)) S
    | .rop cs => 0 ≤ j ∧ j < n ∧ K (.rop (cs.drop (j.toNat * k))) S
    | _ => False
  | .ixs x i => orK (intOfAV (evS fr i)) fun j => match evS fr x with
    | .sc (.string s) => 0 ≤ j ∧ j < s.size ∧ K (.sc (.int .u8 (byteAt s j.toNat))) S
    | _ => False
  | .ixa n k g x i => orK (intOfAV (evS fr i)) fun j => match evS fr x with
    | .agg cs => 0 ≤ j ∧ j < n ∧ (if g then j.toNat * k + k ≤ cs.length ∧ K (.agg ((cs.drop (j.toNat * k)).take k)) S else orK cs[j.toNat * k]? fun c => K c S)
    | _ => False
  | .ext x i => match evS fr x with
    | .tup vs => orK vs[i]? fun c => K c S
    | _ => False
  | .call f args => match evS fr f with
    | .clo g caps => ACall P g (args.map (evS fr) ++ caps) S K
    | .bnd g fs => ACall P g (fs ++ args.map (evS fr)) S K
    | _ => False
  | .lenS x => match evS fr x with
    | .sc (.string s) => K (.sc (.int .i64 s.size)) S
    | _ => False
  | .lenL x => match evS fr x with
    | .ro n cs => n ≤ 9223372036854775807 → K (.sc (.int .i64 n)) S
    | .ref l tot off n => orK (S.row? l tot) fun r => n ≤ 9223372036854775807 → K (.sc (.int .i64 n)) S
    | .sc (.slice none 0 _) => K (.sc (.int .i64 0)) S
    | _ => False
  | .capL x => match evS fr x with
    | .sc (.slice none 0 0) => K (.sc (.int .i64 0)) S
    | _ => False
  | .app e k bytes x y => orK (srcOf S k (evS fr y)) fun src => match evS fr x with
    | .ref l tot off n => orK (S.row? l tot) fun r =>
        off = 0 ∧ r.1 = e ∧ r.2.1 = k ∧ 0 < k ∧ 0 < bytes ∧ src.2.all AV.one = true ∧ n * k ≤ tot ∧ (n + src.1) * bytes ≤ 140737488355328 ∧ (n + src.1) * k ≤ 281474976710656 ∧
        ((n + src.1) * k ≤ tot → K (.ref l tot 0 (n + src.1)) (S.set l (.row e k (r.2.2.take (n * k) ++ src.2 ++ r.2.2.drop ((n + src.1) * k))))) ∧
        (tot < (n + src.1) * k → K (.ref l ((n + src.1) * k) 0 (n + src.1)) (S.set l (.row e k (r.2.2.take (n * k) ++ src.2))))
    | .sc (.slice none 0 0) => 0 < bytes ∧ src.1 * bytes ≤ 140737488355328 ∧ src.1 * k ≤ 281474976710656 ∧
        (src.1 = 0 → K (.sc (.slice none 0 0)) S) ∧ (0 < src.1 → K (.ref S.n (src.1 * k) 0 src.1) (S.add (.row e k src.2)))
    | _ => False
  | .appZ e k bytes zs x y => orK (intOfAV (evS fr y)) fun n => match evS fr x with
    | .sc (.slice none 0 0) => 0 < n ∧ 0 < bytes ∧ n.toNat * bytes ≤ 140737488355328 ∧ n.toNat * k ≤ 281474976710656 ∧ K (.ref S.n (n.toNat * k) 0 n.toNat) (S.add (.row e k (zcells zs (n.toNat * k))))
    | _ => False
  | .copy k x y => orK (srcOf S k (evS fr y)) fun src => match evS fr x with
    | .ref l tot off n => orK (S.row? l tot) fun r => src.2.all AV.one = true ∧ off + Nat.min src.1 n * k ≤ tot ∧
        K (.sc (.int .i64 (Nat.min src.1 n : Nat))) (S.set l (.row r.1 r.2.1 (r.2.2.take off ++ src.2.take (Nat.min src.1 n * k) ++ r.2.2.drop (off + Nat.min src.1 n * k))))
    | _ => False
  | .min x y => match evS fr x, evS fr y with
    | .sc u, .sc v => minV u v fun r => K (.sc r) S
    | _, _ => False
  | .max x y => match evS fr x, evS fr y with
    | .sc u, .sc v => maxV u v fun r => K (.sc r) S
    | _, _ => False
  | .max3 x y z => match evS fr x, evS fr y, evS fr z with
    | .sc u, .sc v, .sc w => max3V u v w fun r => K (.sc r) S
    | _, _, _ => False
  | .mkif t x => K (.ifc t (evS fr x)) S
  | .mkmap => K (.mp S.n) (S.add (.map []))
  | .mupd kd m k x => match evS fr m, keyV (evS fr k) with
    | .mp l, some v => orK (S.map? l) fun es => keysOk kd es = true ∧ kd.is v = true ∧ K (.sc undef) (S.set l (.map (updE es v (evS fr x))))
    | _, _ => False
  | .look kd z ok m k => match keyV (evS fr k) with
    | some v => orK (mapOf S (evS fr m)) fun es => keysOk kd es = true ∧ kd.is v = true ∧
        K (if ok then .tup [(findE es v).getD (avOf z), .sc (.bool (findE es v).isSome)] else (findE es v).getD (avOf z)) S
    | _ => False
  | .lenM x => orK (mapOf S (evS fr x)) fun es => K (.sc (.int .i64 es.length)) S
  | .eqS neg fs x y => match evS fr x, evS fr y with
    | .agg xs, .agg ys => orK (eqFs fs xs ys) fun b => K (boolK neg b) S
    | _, _ => False
  | .rangeM x => orK (romOf (evS fr x)) fun es => K (.it S.n) (S.add (.iter (.map none es)))
  | .nextM x => orK (itOf S (evS fr x)) fun p => (p.2 = [] → K (.tup [.sc (.bool false)]) S) ∧ ∀ i (h : i < p.2.length), K (.tup [.sc (.bool true), avOf p.2[i].1, p.2[i].2]) (S.set p.1 (.iter (.map (some p.2[i]) (p.2.eraseIdx i))))
  | .entryM x => orK (curOf S (evS fr x)) fun c => K (.tup [avOf c.1, c.2]) S
  | .mentry kd z m k => match evS fr m, keyV (evS fr k) with
    | .mp l, some v => orK (S.map? l) fun es => keysOk kd es = true ∧ kd.is v = true ∧ K (.tup [(findE es v).getD (avOf z), .stamp l v]) (S.set l (.map (updE es v ((findE es v).getD (avOf z)))))
    | _, _ => False
  | .mstore m st x => match evS fr m, evS fr st with
    | .mp l, .stamp l' v => l = l' ∧ keyEq v v = true ∧ orK (S.map? l) fun es => K (.sc undef) (S.set l (.map (updE es v (evS fr x))))
    | _, _ => False
  | .sl3 k x lo hi mx => orK (intOfAV (evS fr lo)) fun l => orK (intOfAV (evS fr hi)) fun h => orK (intOfAV (evS fr mx)) fun m => match evS fr x with
    | .ref q tot off n => orK (S.row? q tot) fun r => 0 ≤ l ∧ l ≤ h ∧ h ≤ m ∧ m ≤ n ∧ K .junk S
    | .ro n cs => 0 ≤ l ∧ l ≤ h ∧ h ≤ m ∧ m ≤ n ∧ K (.ro (h.toNat - l.toNat) ((cs.drop (l.toNat * k)).take ((h.toNat - l.toNat) * k))) S
    | _ => False
  | .clr k zs x => match evS fr x with
    | .ref l tot off n => orK (S.row? l tot) fun r => (zcells zs (n * k)).all AV.one = true ∧ off + n * k ≤ tot ∧ K (.tup []) (S.set l (.row r.1 r.2.1 (r.2.2.take off ++ zcells zs (n * k) ++ r.2.2.drop (off + n * k))))
    | .sc (.slice none 0 0) => K (.tup []) S
    | _ => False
  | .slA n k x lo hi => match evS fr x with
    | .ptr q tot off => orK (S.row? q tot) fun r => orK (loIn (lo.map (evS fr)) 0) fun l => orK (loIn (hi.map (evS fr)) n) fun h =>
        0 ≤ l ∧ l ≤ h ∧ h ≤ n ∧ l < n ∧ 0 < k ∧ r.2.1 = k ∧ tot = off + n * k ∧ K (.ref q tot (off + l.toNat * k) (h.toNat - l.toNat)) S
    | _ => False
  | .no => False
end Go.Proofs.Ytfihpbeihlpfcaa.Ev
