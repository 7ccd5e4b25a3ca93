/- Equations by which code is gone through from without: what comes later is held back till what it stands on is known. -/
import Derived.Test.YtfihpbeihlpfcaaZEvL
set_option linter.unusedVariables false
set_option linter.unusedSimpArgs false
namespace Go.Proofs.Ytfihpbeihlpfcaa.Ev
open Go Go.RowKit

/-- What comes later stands where simp doesn't go: a later argument's type speaks of it. -/
def Dep {α : Type} (K : α → Prop) : Type := Unit
def Dep2 {α β : Type} (K : α → β → Prop) : Type := Unit
def Dep3 {α β γ : Type} (K : α → β → γ → Prop) : Type := Unit

def letK {α : Type} (x : α) (K : α → Prop) (b : Dep K) : Prop := K x
theorem letK_eq {α : Type} (x : α) (K : α → Prop) : letK x K () = K x := _root_.id rfl
def orH {α : Type} (o : Option α) (K : α → Prop) (b : Dep K) : Prop := orK o K
theorem orH_some {α : Type} (a : α) (K : α → Prop) : orH (some a) K () = K a := _root_.id rfl
def scH (x : AV) (K : Value → Prop) (b : Dep K) : Prop := match x with | .sc u => K u | _ => False
theorem scH_eq (u : Value) (K : Value → Prop) : scH (.sc u) K () = K u := _root_.id rfl
def boolH (x : AV) (K : Bool → Prop) (b : Dep K) : Prop := match x with | .sc (.bool u) => K u | _ => False
theorem boolH_eq (u : Bool) (K : Bool → Prop) : boolH (.sc (.bool u)) K () = K u := _root_.id rfl
def intH (x : AV) (K : IntKind → Int → Prop) (b : Dep2 K) : Prop := match x with | .sc (.int k u) => K k u | _ => False
theorem intH_eq (k : IntKind) (u : Int) (K : IntKind → Int → Prop) : intH (.sc (.int k u)) K () = K k u := _root_.id rfl
def strH (x : AV) (K : ByteArray → Prop) (b : Dep K) : Prop := match x with | .sc (.string u) => K u | _ => False
theorem strH_eq (u : ByteArray) (K : ByteArray → Prop) : strH (.sc (.string u)) K () = K u := _root_.id rfl
def tupH (x : AV) (K : List AV → Prop) (b : Dep K) : Prop := match x with | .tup u => K u | _ => False
theorem tupH_eq (u : List AV) (K : List AV → Prop) : tupH (.tup u) K () = K u := _root_.id rfl
def cloH (x : AV) (K : FuncId → List AV → List AV → Prop) (b : Dep3 K) : Prop := match x with | .clo f u => K f [] u | .bnd f u => K f u [] | _ => False
theorem cloH_eq (f : FuncId) (u : List AV) (K : FuncId → List AV → List AV → Prop) : cloH (.clo f u) K () = K f [] u := _root_.id rfl
/-- A guard: what is done if it holds, what if not. -/
def guardH (x : AV) (want : Bool) (F : Bool → Option Bool → Prop) (b : Dep2 F) : Prop := match x with
  | .sc (.bool t) => (t = want → F true (some want)) ∧ (t ≠ want → F false (some !want))
  | .sc (.tuple _) => F false none
  | _ => False
theorem guardH_bool (t want : Bool) (F : Bool → Option Bool → Prop) : guardH (.sc (.bool t)) want F () = if t = want then F true (some want) else F false (some !want) := by
  by_cases h : t = want <;> simp [guardH, h]
theorem guardH_undef (want : Bool) (F : Bool → Option Bool → Prop) : guardH (.sc undef) want F () = F false none := _root_.id rfl
def frG (fr : Fr) (t : Nat) : Option Bool → Fr
  | some b => fr.put (some t) (.sc (.bool b))
  | none => fr
theorem frG_some (fr : Fr) (t : Nat) (b : Bool) : frG fr t (some b) = fr.put (some t) (.sc (.bool b)) := _root_.id rfl
theorem frG_none (fr : Fr) (t : Nat) : frG fr t none = fr := _root_.id rfl
def gops (P : Program) (op : SOp) (d : Option Nat) (os : List SOper) (K : Fr → St → Prop) (fr : Fr) (S : St) (run : Bool) : Prop :=
  if run = true then swp P op fr S fun r S' => sops P os K (fr.put d r) S' else sops P os K (fr.put d (.sc undef)) S
def gdops (P : Program) (op : SOp) (d : Option Nat) (os : List SOper) (K : Fr → Prop) (fr : Fr) (S : St) (run : Bool) : Prop :=
  if run = true then dwp P op fr S fun r => dops P S os K (fr.put d r) else dops P S os K (fr.put d (.sc undef))

/-- A load. -/
def loadH (S : St) (k : Option Nat) (x : AV) (K : AV → Prop) (b : Dep K) : Prop := match x with
  | .ptr l tot off => orK (S.row? l tot) fun r => match k with
    | none => orK r.2.2[off]? K
    | some k => off + k ≤ r.2.2.length ∧ K (.agg ((r.2.2.drop off).take k))
  | .rop cs => match k with
    | none => orK cs.head? K
    | some k => k ≤ cs.length ∧ K (.agg (cs.take k))
  | _ => False
theorem loadH_ptr {K : AV → Prop} (S : St) (l tot off : Nat) : loadH S none (.ptr l tot off) K () = orH (S.row? l tot) (fun r => orH r.2.2[off]? K ()) () := _root_.id rfl
theorem loadH_ptrk {K : AV → Prop} (S : St) (k l tot off : Nat) : loadH S (some k) (.ptr l tot off) K () = orH (S.row? l tot) (fun r => off + k ≤ r.2.2.length ∧ letK (.agg ((r.2.2.drop off).take k)) K ()) () := _root_.id rfl
theorem loadH_rop {K : AV → Prop} (S : St) (cs : List AV) : loadH S none (.rop cs) K () = orH cs.head? K () := _root_.id rfl
theorem loadH_ropk {K : AV → Prop} (S : St) (k : Nat) (cs : List AV) : loadH S (some k) (.rop cs) K () = (k ≤ cs.length ∧ letK (.agg (cs.take k)) K ()) := _root_.id rfl

def iaddrH (S : St) (k : Nat) (j : Int) (x : AV) (K : AV → Prop) (b : Dep K) : Prop := match x with
    | .ro n cs => 0 ≤ j ∧ j < n ∧ j.toNat * k < cs.length ∧ K (.rop (cs.drop (j.toNat * k)))
    | .ref l tot off n => orK (S.row? l tot) fun r => 0 ≤ j ∧ j < n ∧ K (.ptr l tot (off + j.toNat * k))
    | _ => False
theorem iaddrH_ro {K : AV → Prop} (S : St) (k : Nat) (j : Int) (n : Nat) (cs : List AV) : iaddrH S k j (.ro n cs) K () = (0 ≤ j ∧ j < n ∧ j.toNat * k < cs.length ∧ letK (.rop (cs.drop (j.toNat * k))) K ()) := _root_.id rfl
theorem iaddrH_ref {K : AV → Prop} (S : St) (k : Nat) (j : Int) (l tot off n : Nat) : iaddrH S k j (.ref l tot off n) K () = orH (S.row? l tot) (fun _ => 0 ≤ j ∧ j < n ∧ letK (.ptr l tot (off + j.toNat * k)) K ()) () := _root_.id rfl
def iaddrAH (S : St) (n k : Nat) (j : Int) (x : AV) (K : AV → Prop) (b : Dep K) : Prop := match x with
    | .ptr l tot off => orK (S.row? l tot) fun r => 0 ≤ j ∧ j < n ∧ K (.ptr l tot (off + j.toNat * k))
    | .rop cs => 0 ≤ j ∧ j < n ∧ K (.rop (cs.drop (j.toNat * k)))
    | _ => False
theorem iaddrAH_ptr {K : AV → Prop} (S : St) (n k : Nat) (j : Int) (l tot off : Nat) : iaddrAH S n k j (.ptr l tot off) K () = orH (S.row? l tot) (fun _ => 0 ≤ j ∧ j < n ∧ letK (.ptr l tot (off + j.toNat * k)) K ()) () := _root_.id rfl
def faddrH (S : St) (off : Nat) (x : AV) (K : AV → Prop) (b : Dep K) : Prop := match x with
    | .ptr l tot o => orK (S.row? l tot) fun _ => K (.ptr l tot (o + off))
    | .rop cs => K (.rop (cs.drop off))
    | _ => False
theorem faddrH_rop {K : AV → Prop} (S : St) (off : Nat) (cs : List AV) : faddrH S off (.rop cs) K () = letK (.rop (cs.drop off)) K () := _root_.id rfl
theorem faddrH_ptr {K : AV → Prop} (S : St) (off l tot o : Nat) : faddrH S off (.ptr l tot o) K () = orH (S.row? l tot) (fun _ => letK (.ptr l tot (o + off)) K ()) () := _root_.id rfl
def lenH (S : St) (q : Bool) (x : AV) (K : AV → Prop) (b : Dep K) : Prop := match x with
    | .ro n cs => if q then K (.sc (.int .i64 n)) else n ≤ 9223372036854775807 → K (.sc (.int .i64 n))
    | .ref l tot off n => orK (S.row? l tot) fun r => if q then K (.sc (.int .i64 n)) else n ≤ 9223372036854775807 → K (.sc (.int .i64 n))
    | .sc (.slice none 0 _) => K (.sc (.int .i64 0))
    | _ => False
theorem lenH_ro {K : AV → Prop} (S : St) (n : Nat) (cs : List AV) : lenH S false (.ro n cs) K () = (n ≤ 9223372036854775807 → letK (.sc (.int .i64 n)) K ()) := by simp [lenH, letK]
theorem lenH_roq {K : AV → Prop} (S : St) (n : Nat) (cs : List AV) : lenH S true (.ro n cs) K () = letK (.sc (.int .i64 n)) K () := by simp [lenH, letK]
def slH (S : St) (k : Nat) (x : AV) (lo hi : Option AV) (K : AV → Prop) (b : Dep K) : Prop := match x with
    | .ro n cs => orK (loIn lo 0) fun l => orK (loIn hi n) fun h =>
        0 ≤ l ∧ l ≤ h ∧ h ≤ n ∧ cs.length = n * k ∧ K (.ro (h.toNat - l.toNat) ((cs.drop (l.toNat * k)).take ((h.toNat - l.toNat) * k)))
    | .ref q tot off n => orK (S.row? q tot) fun r => orK (loIn lo 0) fun l => orK (loIn hi n) fun h =>
        0 ≤ l ∧ l ≤ h ∧ (h ≤ n ∨ off + h.toNat * k ≤ tot) ∧ 0 < k ∧ r.2.1 = k ∧ K (.ref q tot (off + l.toNat * k) (h.toNat - l.toNat))
    | .sc (.slice none 0 0) => orK (loIn lo 0) fun l => orK (loIn hi 0) fun h => l = 0 ∧ h = 0 ∧ K (.sc (.slice none 0 0))
    | _ => False
theorem slH_ro {K : AV → Prop} (S : St) (k n : Nat) (cs : List AV) (lo hi : Option AV) : slH S k (.ro n cs) lo hi K () = orH (loIn lo 0) (fun (l : Int) => orH (loIn hi n) (fun (h : Int) =>
        0 ≤ l ∧ l ≤ h ∧ h ≤ n ∧ cs.length = n * k ∧ letK (.ro (h.toNat - l.toNat) ((cs.drop (l.toNat * k)).take ((h.toNat - l.toNat) * k))) K ()) ()) () := _root_.id rfl
def storeH (S : St) (k : Nat) (a x : AV) (K : St → Prop) (b : Dep K) : Prop := match a with
    | .ptr l tot off => orK (S.row? l tot) fun r => orK (cellsOf x) fun xs =>
        xs.length = k ∧ off + k ≤ r.2.2.length ∧ K (S.set l (.row r.1 r.2.1 (r.2.2.take off ++ xs ++ r.2.2.drop (off + k))))
    | _ => False
theorem storeH_ptr {K : St → Prop} (S : St) (k l tot off : Nat) (x : AV) : storeH S k (.ptr l tot off) x K () = orH (S.row? l tot) (fun r => orH (cellsOf x) (fun xs =>
        xs.length = k ∧ off + k ≤ r.2.2.length ∧ letK (S.set l (.row r.1 r.2.1 (r.2.2.take off ++ xs ++ r.2.2.drop (off + k)))) K ()) ()) () := _root_.id rfl

def appH (S : St) (e k bytes : Nat) (x : AV) (src : Nat × List AV) (K : AV → St → Prop) (b : Dep2 K) : Prop := match x with
    | .ref l tot off n => orK (S.row? l tot) fun r =>
        off = 0 ∧ r.1 = e ∧ r.2.1 = k ∧ 0 < k ∧ 0 < bytes ∧ src.2.all AV.one = true ∧ n * k ≤ tot ∧ (n + src.1) * bytes ≤ 140737488355328 ∧ (n + src.1) * k ≤ 281474976710656 ∧
        ((n + src.1) * k ≤ tot → K (.ref l tot 0 (n + src.1)) (S.set l (.row e k (r.2.2.take (n * k) ++ src.2 ++ r.2.2.drop ((n + src.1) * k))))) ∧
        (tot < (n + src.1) * k → K (.ref l ((n + src.1) * k) 0 (n + src.1)) (S.set l (.row e k (r.2.2.take (n * k) ++ src.2))))
    | .sc (.slice none 0 0) => 0 < bytes ∧ src.1 * bytes ≤ 140737488355328 ∧ src.1 * k ≤ 281474976710656 ∧
        (src.1 = 0 → K (.sc (.slice none 0 0)) S) ∧ (0 < src.1 → K (.ref S.n (src.1 * k) 0 src.1) (S.add (.row e k src.2)))
    | _ => False
theorem appH_ref {K : AV → St → Prop} (S : St) (e k bytes l tot off n : Nat) (src : Nat × List AV) : appH S e k bytes (.ref l tot off n) src K () = orH (S.row? l tot) (fun r =>
        off = 0 ∧ r.1 = e ∧ r.2.1 = k ∧ 0 < k ∧ 0 < bytes ∧ src.2.all AV.one = true ∧ n * k ≤ tot ∧ (n + src.1) * bytes ≤ 140737488355328 ∧ (n + src.1) * k ≤ 281474976710656 ∧
        (if (n + src.1) * k ≤ tot then letK (S.set l (.row e k (r.2.2.take (n * k) ++ src.2 ++ r.2.2.drop ((n + src.1) * k)))) (fun S' => K (.ref l tot 0 (n + src.1)) S') ()
        else letK (S.set l (.row e k (r.2.2.take (n * k) ++ src.2))) (fun S' => letK (.ref l ((n + src.1) * k) 0 (n + src.1)) (fun r => K r S') ()) ())) () := by
  simp only [appH, orH, orK_iff, letK]
  apply propext
  constructor
  · rintro ⟨r, h, a1, a2, a3, a4, a5, a6, a7, a8, a9, h1, h2⟩
    refine ⟨r, h, a1, a2, a3, a4, a5, a6, a7, a8, a9, ?_⟩
    split
    · exact h1 (by assumption)
    · exact h2 (by omega)
  · rintro ⟨r, h, a1, a2, a3, a4, a5, a6, a7, a8, a9, h1⟩
    refine ⟨r, h, a1, a2, a3, a4, a5, a6, a7, a8, a9, fun hh => ?_, fun hh => ?_⟩
    · rw [if_pos hh] at h1; exact h1
    · rw [if_neg (by omega)] at h1; exact h1
theorem appH_nil {K : AV → St → Prop} (S : St) (e k bytes : Nat) (src : Nat × List AV) : appH S e k bytes (.sc (.slice none 0 0)) src K () = (0 < bytes ∧ src.1 * bytes ≤ 140737488355328 ∧ src.1 * k ≤ 281474976710656 ∧
        (if src.1 = 0 then K (.sc (.slice none 0 0)) S else letK (S.add (.row e k src.2)) (fun S' => K (.ref S.n (src.1 * k) 0 src.1) S') ())) := by
  simp only [appH, letK]
  apply propext
  constructor
  · rintro ⟨a1, a2, a3, h1, h2⟩
    refine ⟨a1, a2, a3, ?_⟩
    split
    · exact h1 (by assumption)
    · exact h2 (by omega)
  · rintro ⟨a1, a2, a3, h1⟩
    refine ⟨a1, a2, a3, fun hh => ?_, fun hh => ?_⟩
    · rw [if_pos hh] at h1; exact h1
    · rw [if_neg (by omega)] at h1; exact h1

/-- A call. -/
def callS (P : Program) (g : FuncId) (args : List AV) (S : St) (K : AV → St → Prop) (b : Dep2 K) : Prop := ACall P g args S K
def callD (P : Program) (g : FuncId) (args : List AV) (S : St) (K : AV → Prop) (b : Dep K) : Prop := ∃ r, (∀ S', Ext S S' → ACall P g args S' fun r' S'' => r' = r ∧ Ext S' S'') ∧ K r
def eqH (k : EqK) (neg : Bool) (x y : AV) (K : AV → Prop) (b : Dep K) : Prop := eqA k neg x y K
def eqOH (S : St) (k : EqK) (neg : Bool) (x y : AV) (K : AV → Prop) (b : Dep K) : Prop := eqO S k neg x y K

section
variable {P : Program} {fr : Fr} {S : St} {K : AV → St → Prop}

theorem s_mv (x : SA) : swp P (.mv x) fr S K = letK (evS fr x) (fun r => K r S) () := _root_.id rfl
theorem s_pick (c a b : SA) : swp P (.pick c a b) fr S K = boolH (evS fr c) (fun t => if t = true then letK (evS fr a) (fun r => K r S) () else letK (evS fr b) (fun r => K r S) ()) () := by
  simp only [swp, boolH, letK]
  split
  · rename_i t ht
    rw [ht]
    cases t <;> simp
  · rename_i h
    split
    · rename_i u hu; exact absurd hu (h u)
    · rfl
theorem s_load (k : Option Nat) (a : SA) : swp P (.load k a) fr S K = loadH S k (evS fr a) (fun r => K r S) () := _root_.id rfl
theorem s_store (k : Nat) (a x : SA) : swp P (.store k a x) fr S K = storeH S k (evS fr a) (evS fr x) (fun S' => K (.sc undef) S') () := _root_.id rfl
theorem s_alloc (e k : Nat) (zs : List Value) : swp P (.alloc e k zs) fr S K = (zs.length ≤ 281474976710656 ∧ letK (S.add (.row e k (zs.map .sc))) (fun S' => letK (.ptr S.n zs.length 0) (fun r => K r S') ()) ()) := _root_.id rfl
theorem s_box (e k : Nat) (x : SA) : swp P (.box e k x) fr S K = orH (cellsOf (evS fr x)) (fun cs => cs.length ≤ 281474976710656 ∧ letK (S.add (.row e k cs)) (fun S' => letK (.ptr S.n cs.length 0) (fun r => K r S') ()) ()) () := _root_.id rfl
theorem s_build (zs : List Value) (ps : List (Nat × Nat × SA)) : swp P (.build zs ps) fr S K = orH (fillA (zs.map .sc) (ps.map fun p => (p.1, p.2.1, evS fr p.2.2))) (fun cs => letK (.agg cs) (fun r => K r S) ()) () := _root_.id rfl
theorem s_buildSl (e k len : Nat) (zs : List Value) (ps : List (Nat × Nat × SA)) : swp P (.buildSl e k len zs ps) fr S K = orH (fillA (zcells zs (len * k)) (ps.map fun p => (p.1, p.2.1, evS fr p.2.2))) (fun cs => letK (S.add (.row e k cs)) (fun S' => letK (.ref S.n (len * k) 0 len) (fun r => K r S') ()) ()) () := _root_.id rfl
theorem s_bin (op : BinOp) (x y : SA) : swp P (.bin op x y) fr S K = scH (evS fr x) (fun u => scH (evS fr y) (fun v => binV op u v fun r => letK (.sc r) (fun r => K r S) ()) ()) () := by
  simp only [swp, scH, letK]
  split
  · rename_i u v hu hv; rw [hu, hv]
  · rename_i h
    split
    · rename_i u hu
      split
      · rename_i v hv; exact absurd hv (h u v hu)
      · rfl
    · rfl
theorem s_eq (neg : Bool) (k : EqK) (x y : SA) : swp P (.eq neg k x y) fr S K = eqOH S k neg (evS fr x) (evS fr y) (fun r => K r S) () := _root_.id rfl
theorem s_un (op : UnOp) (x : SA) : swp P (.un op x) fr S K = scH (evS fr x) (fun u => unV op u fun r => letK (.sc r) (fun r => K r S) ()) () := _root_.id rfl
theorem s_mkfunc (f : FuncId) (caps : List SA) : swp P (.mkfunc f caps) fr S K = letK (.clo f (caps.map (evS fr))) (fun r => K r S) () := _root_.id rfl
theorem s_mksl (e k bytes : Nat) (zs : List Value) (len cap : SA) : swp P (.mksl e k bytes zs len cap) fr S K = intH (evS fr len) (fun _ (n : Int) => intH (evS fr cap) (fun _ (c : Int) =>
      0 ≤ n ∧ n ≤ c ∧ c * bytes ≤ 281474976710656 ∧ c ≤ 281474976710656 ∧ n.toNat * k ≤ 281474976710656 ∧ letK (S.add (.row e k (zcells zs (n.toNat * k)))) (fun S' => letK (.ref S.n (n.toNat * k) 0 n.toNat) (fun r => K r S') ()) ()) ()) () := by
  simp only [swp, intH, letK, intOfAV]; (repeat' split) <;> simp_all [orK]
theorem s_sl (k : Nat) (x : SA) (lo hi : Option SA) : swp P (.sl k x lo hi) fr S K = slH S k (evS fr x) (lo.map (evS fr)) (hi.map (evS fr)) (fun r => K r S) () := _root_.id rfl
theorem s_faddr (off : Nat) (x : SA) : swp P (.faddr off x) fr S K = faddrH S off (evS fr x) (fun r => K r S) () := _root_.id rfl
theorem s_iaddr (k : Nat) (x i : SA) : swp P (.iaddr k x i) fr S K = intH (evS fr i) (fun _ j => iaddrH S k j (evS fr x) (fun r => K r S) ()) () := by
  simp only [swp]; generalize evS fr x = y; generalize evS fr i = z; (rcases z with v | _ | _ | _ | _ | _ | _ | _ | _ | _ | _ | _); (cases v) <;> first | rfl | (cases y <;> rfl)
  all_goals rfl
theorem s_iaddrA (n k : Nat) (x i : SA) : swp P (.iaddrA n k x i) fr S K = intH (evS fr i) (fun _ j => iaddrAH S n k j (evS fr x) (fun r => K r S) ()) () := by
  simp only [swp]; generalize evS fr x = y; generalize evS fr i = z; (rcases z with v | _ | _ | _ | _ | _ | _ | _ | _ | _ | _ | _); (cases v) <;> first | rfl | (cases y <;> rfl)
  all_goals rfl
theorem s_ixs (x i : SA) : swp P (.ixs x i) fr S K = intH (evS fr i) (fun _ j => strH (evS fr x) (fun s => 0 ≤ j ∧ j < s.size ∧ letK (.sc (.int .u8 (byteAt s j.toNat))) (fun r => K r S) ()) ()) () := by
  simp only [swp, intH, strH, letK, intOfAV]; (repeat' split) <;> simp_all [orK]
theorem s_ext (x : SA) (i : Nat) : swp P (.ext x i) fr S K = tupH (evS fr x) (fun vs => orH vs[i]? (fun r => K r S) ()) () := _root_.id rfl
theorem s_call (f : SA) (args : List SA) : swp P (.call f args) fr S K = cloH (evS fr f) (fun g fs caps => callS P g (fs ++ (args.map (evS fr) ++ caps)) S K ()) () := by
  simp only [swp, cloH, callS]
  generalize evS fr f = a
  cases a <;> simp
theorem s_lenS (x : SA) : swp P (.lenS x) fr S K = strH (evS fr x) (fun s => letK (.sc (.int .i64 s.size)) (fun r => K r S) ()) () := by
  simp only [swp, strH, letK]; (repeat' split) <;> simp_all
theorem s_lenL (x : SA) : swp P (.lenL x) fr S K = lenH S false (evS fr x) (fun r => K r S) () := by
  simp only [swp, lenH, Bool.false_eq_true, if_false]; generalize evS fr x = y; cases y <;> rfl
theorem s_app (e k bytes : Nat) (x y : SA) : swp P (.app e k bytes x y) fr S K = orH (srcOf S k (evS fr y)) (fun src => appH S e k bytes (evS fr x) src K ()) () := _root_.id rfl
theorem s_max (x y : SA) : swp P (.max x y) fr S K = scH (evS fr x) (fun u => scH (evS fr y) (fun v => maxV u v fun r => letK (.sc r) (fun r => K r S) ()) ()) () := by
  simp only [swp, scH, letK]; (repeat' split) <;> simp_all
variable {K : AV → Prop}
theorem d_mv (x : SA) : dwp P (.mv x) fr S K = swp P (.mv x) fr S fun r _ => K r := _root_.id rfl
theorem d_pick (c a b : SA) : dwp P (.pick c a b) fr S K = swp P (.pick c a b) fr S fun r _ => K r := _root_.id rfl
theorem d_load (k : Option Nat) (a : SA) : dwp P (.load k a) fr S K = swp P (.load k a) fr S fun r _ => K r := _root_.id rfl
theorem d_build (zs : List Value) (ps : List (Nat × Nat × SA)) : dwp P (.build zs ps) fr S K = swp P (.build zs ps) fr S fun r _ => K r := _root_.id rfl
theorem d_bin (op : BinOp) (x y : SA) : dwp P (.bin op x y) fr S K = swp P (.bin op x y) fr S fun r _ => K r := _root_.id rfl
theorem d_un (op : UnOp) (x : SA) : dwp P (.un op x) fr S K = swp P (.un op x) fr S fun r _ => K r := _root_.id rfl
theorem d_faddr (o : Nat) (x : SA) : dwp P (.faddr o x) fr S K = swp P (.faddr o x) fr S fun r _ => K r := _root_.id rfl
theorem d_iaddr (k : Nat) (x i : SA) : dwp P (.iaddr k x i) fr S K = swp P (.iaddr k x i) fr S fun r _ => K r := _root_.id rfl
theorem d_max (x y : SA) : dwp P (.max x y) fr S K = swp P (.max x y) fr S fun r _ => K r := _root_.id rfl
theorem d_buildSl (e k len : Nat) (zs : List Value) (ps : List (Nat × Nat × SA)) : dwp P (.buildSl e k len zs ps) fr S K = orH (fillA (zcells zs (len * k)) (ps.map fun p => (p.1, p.2.1, evS fr p.2.2))) (fun cs => letK (.ro len cs) K ()) () := _root_.id rfl
theorem d_call (f : SA) (args : List SA) : dwp P (.call f args) fr S K = cloH (evS fr f) (fun g fs caps => callD P g (fs ++ (args.map (evS fr) ++ caps)) S K ()) () := by
  simp only [dwp, cloH, callD]
  generalize evS fr f = a
  cases a <;> simp
theorem d_lenL (x : SA) : dwp P (.lenL x) fr S K = lenH S true (evS fr x) K () := by
  simp only [dwp, lenH, if_true]; generalize evS fr x = y; cases y <;> rfl

variable {K : Fr → St → Prop} {os : List SOper} {d : Option Nat} {op : SOp}
theorem so_nil : sops P [] K fr S = K fr S := _root_.id rfl
theorem so_none : sops P (⟨d, op, none⟩ :: os) K fr S = swp P op fr S fun r S' => sops P os K (fr.put d r) S' := _root_.id rfl
theorem so_some (t : Nat) (w : Bool) : sops P (⟨d, op, some (t, w)⟩ :: os) K fr S = guardH (fr t) w (fun run o => gops P op d os K (frG fr t o) S run) () := by
  cases w <;> simp only [sops, guardH, gops, frG, Bool.not_true, Bool.not_false, if_true, Bool.false_eq_true, Bool.true_eq_false, if_false] <;> rfl
theorem g_run : gops P op d os K fr S true = swp P op fr S fun r S' => sops P os K (fr.put d r) S' := _root_.id rfl
theorem g_skip : gops P op d os K fr S false = sops P os K (fr.put d (.sc undef)) S := _root_.id rfl
variable {K : Fr → Prop}
theorem do_nil : dops P S [] K fr = K fr := _root_.id rfl
theorem do_none : dops P S (⟨d, op, none⟩ :: os) K fr = dwp P op fr S fun r => dops P S os K (fr.put d r) := _root_.id rfl
theorem do_some (t : Nat) (w : Bool) : dops P S (⟨d, op, some (t, w)⟩ :: os) K fr = guardH (fr t) w (fun run o => gdops P op d os K (frG fr t o) S run) () := by
  cases w <;> simp only [dops, guardH, gdops, frG, Bool.not_true, Bool.not_false, if_true, Bool.false_eq_true, Bool.true_eq_false, if_false] <;> rfl
theorem gd_run : gdops P op d os K fr S true = dwp P op fr S fun r => dops P S os K (fr.put d r) := _root_.id rfl
theorem gd_skip : gdops P op d os K fr S false = dops P S os K (fr.put d (.sc undef)) := _root_.id rfl
variable {n : Nat} {Q : Exit → Fr → St → Prop}
theorem c_skip : cwp P n .skip Q fr S = Q .normal fr S := _root_.id rfl
theorem c_reg (l : List SOper) : cwp P n (.reg l) Q fr S = sops P l (fun fr S => Q .normal fr S) fr S := _root_.id rfl
theorem c_regG (l : List (Bool × SOper)) : cwp P n (.regG l) Q fr S = pickD (fun D => nops P (killD D S) l (fun fr S => Q .normal fr S) fr S) () := _root_.id rfl
theorem c_regL (l : List (Bool × Bool × SOper)) : cwp P n (.regL l) Q fr S = pickD (fun D => lops P (killD D S) l (fun fr S => Q .normal fr S) fr S) () := _root_.id rfl
theorem c_regH (fl : List (Nat × Nat)) (l : List (Bool × Option Nat × SOper)) : cwp P n (.regH fl l) Q fr S = pickD (fun D => below S.n D ∧ letK S.n (fun B => hops P (killD D S) B l (fun fr S => Q .normal fr S) fr (addsE S fl)) ()) () := _root_.id rfl
theorem c_regC (l : List (Bool × SOper)) : cwp P n (.regC l) Q fr S = pickB (regCB P l (fun fr S => Q .normal fr S) fr S) () := _root_.id rfl
theorem rc_f (l : List (Bool × SOper)) (K : Fr → St → Prop) : regCB P l K fr S false = dops P S (l.map (·.2)) (fun fr => belD S.n fr (l.map (·.2)) ∧ K fr S) fr := _root_.id rfl
theorem c_regE (l : List SOper) : cwp P n (.regE l) Q fr S = eops P l (fun fr S => Q .normal fr S) fr S := _root_.id rfl
theorem c_regD (l : List SOper) : cwp P n (.regD l) Q fr S = dops P S l (fun fr => belD S.n fr l ∧ Q .normal fr S) fr := _root_.id rfl
def condC (P : Program) (n : Nat) (a b : SC) (Q : Exit → Fr → St → Prop) (fr : Fr) (S : St) (t : Bool) : Prop := if t = true then cwp P n a Q fr S else cwp P n b Q fr S
theorem c_cond (c : SA) (a b : SC) : cwp P n (.cond c a b) Q fr S = boolH (evS fr c) (condC P n a b Q fr S) () := by
  simp only [cwp, boolH, condC]
  split
  · rename_i t ht
    rw [ht]
    cases t <;> simp
  · rename_i h
    split
    · rename_i u hu; exact absurd hu (h u)
    · rfl
theorem c_block (id : Nat) (c : SC) : cwp P n (.block id c) Q fr S = cwp P n c (blockQ id Q) fr S := _root_.id rfl
theorem c_exit (id : Nat) : cwp P n (.exit id) Q fr S = Q (.exit id) fr S := _root_.id rfl
theorem c_ret : cwp P n .ret Q fr S = Q .ret fr S := _root_.id rfl
theorem l_skip : SC.loops .skip = false := _root_.id rfl
theorem l_reg (l : List SOper) : SC.loops (.reg l) = false := _root_.id rfl
theorem l_regL (l : List (Bool × Bool × SOper)) : SC.loops (.regL l) = false := _root_.id rfl
theorem l_regH (fl : List (Nat × Nat)) (l : List (Bool × Option Nat × SOper)) : SC.loops (.regH fl l) = false := _root_.id rfl
theorem l_regC (l : List (Bool × SOper)) : SC.loops (.regC l) = false := _root_.id rfl
theorem l_regE (l : List SOper) : SC.loops (.regE l) = false := _root_.id rfl
theorem l_regD (l : List SOper) : SC.loops (.regD l) = false := _root_.id rfl
theorem l_seq (a b : SC) : SC.loops (.seq a b) = (a.loops || b.loops) := _root_.id rfl
theorem l_cond (c : SA) (a b : SC) : SC.loops (.cond c a b) = (a.loops || b.loops) := _root_.id rfl
theorem l_block (i : Nat) (a : SC) : SC.loops (.block i a) = a.loops := _root_.id rfl
theorem l_loop (a : SC) : SC.loops (.loop a) = true := _root_.id rfl
theorem l_exit (i : Nat) : SC.loops (.exit i) = false := _root_.id rfl
theorem l_ret : SC.loops .ret = false := _root_.id rfl
theorem c_loop (c : SC) : cwp P n (.loop c) Q fr S = SWp P n (.loop c) Q fr S := _root_.id rfl
def seqC (P : Program) (n : Nat) (b : SC) (l : Bool) (Q : Exit → Fr → St → Prop) : Exit → Fr → St → Prop
  | .normal, fr, S => if l = true then SWp P n b Q fr S else cwp P n b Q fr S
  | e, fr, S => Q e fr S
theorem q_normal (b : SC) (l : Bool) : seqC P n b l Q .normal fr S = if l = true then SWp P n b Q fr S else cwp P n b Q fr S := _root_.id rfl
theorem q_ret (b : SC) (l : Bool) : seqC P n b l Q .ret fr S = Q .ret fr S := _root_.id rfl
theorem q_exit (b : SC) (l : Bool) (id : Nat) : seqC P n b l Q (.exit id) fr S = Q (.exit id) fr S := _root_.id rfl
theorem b_normal (id : Nat) : blockQ id Q .normal fr S = Q .normal fr S := _root_.id rfl
theorem b_ret (id : Nat) : blockQ id Q .ret fr S = Q .ret fr S := _root_.id rfl
theorem b_exit (id id' : Nat) : blockQ id Q (.exit id') fr S = if id' = id then Q .normal fr S else Q (.exit id') fr S := _root_.id rfl
variable {M : Fr → St → Prop}
theorem t_normal : thenQ M Q .normal fr S = M fr S := _root_.id rfl
theorem t_ret : thenQ M Q .ret fr S = Q .ret fr S := _root_.id rfl
theorem t_exit (id : Nat) : thenQ M Q (.exit id) fr S = Q (.exit id) fr S := _root_.id rfl
theorem r_one (fr : Fr) (t : RV) : resAV fr [t] = rvAV fr t := _root_.id rfl
theorem r_two (fr : Fr) (t u : RV) : resAV fr [t, u] = .tup [rvAV fr t, rvAV fr u] := _root_.id rfl
theorem rv_tmp (fr : Fr) (t : Nat) : rvAV fr (.tmp t) = fr t := _root_.id rfl
def rcAV (k : Option Nat) (x : AV) : AV := match x with
    | .rop cs => match k with
      | none => cs.headD .junk
      | some k => .agg (cs.take k)
    | _ => .junk
def rcOk (k : Option Nat) (x : AV) : Prop := match x with
    | .rop cs => match k with
      | none => cs ≠ []
      | some k => k ≤ cs.length
    | _ => False
theorem rv_cell (fr : Fr) (a : Nat) (k : Option Nat) : rvAV fr (.cell a k) = rcAV k (fr a) := _root_.id rfl
theorem rk_nil (fr : Fr) : rvsOk fr [] = True := _root_.id rfl
theorem rk_tmp (fr : Fr) (t : Nat) (rs : List RV) : rvsOk fr (.tmp t :: rs) = rvsOk fr rs := by simp [rvsOk, rvOk]
theorem rk_cell (fr : Fr) (a : Nat) (k : Option Nat) (rs : List RV) : rvsOk fr (.cell a k :: rs) = (rcOk k (fr a) ∧ rvsOk fr rs) := _root_.id rfl
theorem rc_k (k : Nat) (cs : List AV) : rcAV (some k) (.rop cs) = .agg (cs.take k) := _root_.id rfl
theorem ro_k (k : Nat) (cs : List AV) : rcOk (some k) (.rop cs) = (k ≤ cs.length) := _root_.id rfl
theorem c_seq (a b : SC) : cwp P n (.seq a b) Q fr S = cwp P n a (seqC P n b a.loops Q) fr S := by
  have e : (if a.loops = true then thenQ (SWp P n b Q) Q else thenQ (cwp P n b Q) Q) = seqC P n b a.loops Q := by
    funext e fr S
    cases hl : a.loops <;> cases e <;> rfl
  rw [← e]
  simp only [cwp]
  split <;> rfl
end

/-! ### ends -/
theorem n_bool (D : Nat → Bool) (S : St) (d : Nat) (b : Bool) : seen D S d (.sc (.bool b)) = .sc (.bool b) := by cases d <;> rfl
theorem n_int (D : Nat → Bool) (S : St) (d : Nat) (k : IntKind) (b : Int) : seen D S d (.sc (.int k b)) = .sc (.int k b) := by cases d <;> rfl
theorem n_str (D : Nat → Bool) (S : St) (d : Nat) (b : ByteArray) : seen D S d (.sc (.string b)) = .sc (.string b) := by cases d <;> rfl
theorem n_nil (D : Nat → Bool) (S : St) : seen D S 4 (.sc (.slice none 0 0)) = .ro 0 [] := _root_.id rfl
theorem n_ro (D : Nat → Bool) (S : St) (d n : Nat) (cs : List AV) : seen D S d (.ro n cs) = .ro n cs := by cases d <;> rfl
theorem n_rop (D : Nat → Bool) (S : St) (d : Nat) (cs : List AV) : seen D S d (.rop cs) = .rop cs := by cases d <;> rfl
theorem n_fn (D : Nat → Bool) (S : St) (d : Nat) (f : FuncId) : seen D S d (.clo f []) = .clo f [] := by cases d <;> rfl
theorem n_clo (D : Nat → Bool) (S : St) (f : FuncId) (cs : List AV) : seen D S 4 (.clo f cs) = .clo f (cs.map (seen D S 3)) := _root_.id rfl
theorem n_agg (D : Nat → Bool) (S : St) (cs : List AV) : seen D S 4 (.agg cs) = .agg (cs.map (seen D S 3)) := _root_.id rfl
theorem n_nil3 (D : Nat → Bool) (S : St) : seen D S 3 (.sc (.slice none 0 0)) = .ro 0 [] := _root_.id rfl
theorem map_same {g : AV → AV} {cs : List AV} (h : ∀ x, x ∈ cs → g x = x) : cs.map g = cs := by
  induction cs with
  | nil => rfl
  | cons x xs ih => rw [List.map_cons, h x (by simp), ih fun y hy => h y (by simp [hy])]

/-! ### calls -/
theorem seen_false (S S' : St) (d : Nat) : ∀ x : AV, seen (fun _ => false) S d x = seen (fun _ => false) S' d x := by
  induction d with
  | zero => intro x; rfl
  | succ d ih =>
    intro x
    have e : seen (fun _ => false) S d = seen (fun _ => false) S' d := funext ih
    cases x with
    | tup vs => simp only [seen, e]
    | agg vs => simp only [seen, e]
    | clo f vs => simp only [seen, e]
    | bnd f vs => simp only [seen, e]
    | sc v =>
      cases v with
      | slice a n c => cases a <;> cases n <;> cases c <;> rfl
      | _ => rfl
    | _ => rfl
section
variable {P : Program} {q : Bool} {fr : Fr} {S : St} {K : AV → St → Prop}
theorem e_mv (x : SA) : ewp q P (.mv x) fr S K = dwp P (.mv x) fr S fun r => r.bel S.n ∧ K r S := _root_.id rfl
theorem e_load (k : Option Nat) (a : SA) : ewp q P (.load k a) fr S K = dwp P (.load k a) fr S fun r => r.bel S.n ∧ K r S := _root_.id rfl
theorem e_store (k : Nat) (a x : SA) : ewp q P (.store k a x) fr S K = swp P (.store k a x) fr S K := _root_.id rfl
theorem e_buildSl (e k len : Nat) (zs : List Value) (ps : List (Nat × Nat × SA)) : ewp q P (.buildSl e k len zs ps) fr S K = dwp P (.buildSl e k len zs ps) fr S fun r => r.bel S.n ∧ K r S := _root_.id rfl
theorem e_nilck (x : SA) : ewp q P (.nilck x) fr S K = dwp P (.nilck x) fr S fun r => r.bel S.n ∧ K r S := _root_.id rfl
theorem e_faddr (off : Nat) (x : SA) : ewp q P (.faddr off x) fr S K = dwp P (.faddr off x) fr S fun r => r.bel S.n ∧ K r S := _root_.id rfl
theorem e_iaddr (k : Nat) (x i : SA) : ewp q P (.iaddr k x i) fr S K = dwp P (.iaddr k x i) fr S fun r => r.bel S.n ∧ K r S := _root_.id rfl
theorem e_app (e k bytes : Nat) (x y : SA) : ewp q P (.app e k bytes x y) fr S K = swp P (.app e k bytes x y) fr S K := _root_.id rfl
theorem e_max (x y : SA) : ewp q P (.max x y) fr S K = dwp P (.max x y) fr S fun r => r.bel S.n ∧ K r S := _root_.id rfl
end
section
variable {P : Program} {fr : Fr} {S : St} {K : Fr → St → Prop} {os : List SOper} {d : Option Nat} {op : SOp}
theorem eo_nil : eops P [] K fr S = K fr S := _root_.id rfl
theorem eo_none : eops P (⟨d, op, none⟩ :: os) K fr S = ewp false P op fr S fun r S' => eops P os K (fr.put d r) S' := _root_.id rfl
end

/-! ### regions with loads and stores -/

/-! ### regions that append to what is new -/
section
variable {P : Program} {fr : Fr} {S : St} {os : List (Bool × SOper)} {d : Option Nat} {op : SOp} {fl : Bool} {S0 : St}
theorem gn_nil {K : Fr → St → Prop} : nops P S0 [] K fr S = K fr S := _root_.id rfl
theorem gn_none {K : Fr → St → Prop} : nops P S0 ((fl, ⟨d, op, none⟩) :: os) K fr S = nwp P S0 fl op fr S fun r S' => nops P S0 os K (fr.put d r) S' := _root_.id rfl
/-! ### regions with literals that are gone on with -/
theorem gl_nil {K : Fr → St → Prop} : lops P S0 [] K fr S = K fr S := _root_.id rfl
theorem gl_f {os : List (Bool × Bool × SOper)} {K : Fr → St → Prop} : lops P S0 ((false, fl, ⟨d, op, none⟩) :: os) K fr S = nwp P S0 fl op fr S fun r S' => lops P S0 os K (fr.put d r) S' := _root_.id rfl
theorem gl_t {os : List (Bool × Bool × SOper)} {K : Fr → St → Prop} : lops P S0 ((true, fl, ⟨d, op, none⟩) :: os) K fr S = swp P op fr S fun r S' => (fl = true → Ext S0 S') ∧ lops P S0 os K (fr.put d r) S' := _root_.id rfl
/-! ### regions in which a variable is made at any time -/
theorem hg_nil {B : Nat} {K : Fr → St → Prop} : hops P S0 B [] K fr S = K fr S := _root_.id rfl
theorem hg_none {B : Nat} {os : List (Bool × Option Nat × SOper)} {K : Fr → St → Prop} : hops P S0 B ((fl, none, ⟨d, op, none⟩) :: os) K fr S = (op.fit fr ∧ nwp P S0 fl op fr S fun r S' => hops P S0 B os K (fr.put d r) S') := _root_.id rfl
theorem hg_new {B q e k : Nat} {z : Value} {zs : List Value} {os : List (Bool × Option Nat × SOper)} {K : Fr → St → Prop} : hops P S0 B ((fl, some q, ⟨d, .alloc e k (z :: zs), none⟩) :: os) K fr S = ((z :: zs).length ≤ 281474976710656 ∧ S.row? (B + q) 0 = some (e, k, []) ∧
    letK (S.set (B + q) (.row e k ((z :: zs).map .sc))) (fun S' => letK (.ptr (B + q) (z :: zs).length 0) (fun r => hops P S0 B os K (fr.put d r) S') ()) ()) := by
  simp only [hops, letK, true_and, ne_eq, reduceCtorEq, not_false_eq_true]
theorem adds_nil : addsE S [] = S := _root_.id rfl
theorem adds_cons (p : Nat × Nat) (l : List (Nat × Nat)) : addsE S (p :: l) = addsE (S.add (.row p.1 p.2 [])) l := _root_.id rfl
theorem below_nil (b : Nat) : below b [] = True := _root_.id rfl
variable {K : AV → St → Prop}
theorem w_mv (x : SA) : nwp P S0 fl (.mv x) fr S K = ((fl = true → Ext S0 S) ∧ dwp P (.mv x) fr (cond fl S0 S) fun r => r.bel (cond fl S0 S).n ∧ K r S) := _root_.id rfl
theorem w_load (k : Option Nat) (a : SA) : nwp P S0 fl (.load k a) fr S K = ((fl = true → Ext S0 S) ∧ dwp P (.load k a) fr (cond fl S0 S) fun r => r.bel (cond fl S0 S).n ∧ K r S) := _root_.id rfl
theorem w_store (k : Nat) (a x : SA) : nwp P S0 fl (.store k a x) fr S K = swp P (.store k a x) fr S fun r S' => (fl = true → Ext S0 S') ∧ K r S' := _root_.id rfl
theorem w_build (zs : List Value) (ps : List (Nat × Nat × SA)) : nwp P S0 fl (.build zs ps) fr S K = ((fl = true → Ext S0 S) ∧ dwp P (.build zs ps) fr (cond fl S0 S) fun r => r.bel (cond fl S0 S).n ∧ K r S) := _root_.id rfl
theorem w_buildSl1 (e k : Nat) (zs : List Value) (ps : List (Nat × Nat × SA)) : nwp P S0 fl (.buildSl e k 1 zs ps) fr S K = ((fl = true → Ext S0 S) ∧ dwp P (.buildSl e k 1 zs ps) fr (cond fl S0 S) fun r => r.bel (cond fl S0 S).n ∧ K r S) := _root_.id rfl
theorem w_bin (op : BinOp) (x y : SA) : nwp P S0 fl (.bin op x y) fr S K = ((fl = true → Ext S0 S) ∧ dwp P (.bin op x y) fr (cond fl S0 S) fun r => r.bel (cond fl S0 S).n ∧ K r S) := _root_.id rfl
theorem w_faddr (off : Nat) (x : SA) : nwp P S0 fl (.faddr off x) fr S K = ((fl = true → Ext S0 S) ∧ dwp P (.faddr off x) fr (cond fl S0 S) fun r => r.bel (cond fl S0 S).n ∧ K r S) := _root_.id rfl
theorem w_iaddr (k : Nat) (x i : SA) : nwp P S0 fl (.iaddr k x i) fr S K = ((fl = true → Ext S0 S) ∧ dwp P (.iaddr k x i) fr (cond fl S0 S) fun r => r.bel (cond fl S0 S).n ∧ K r S) := _root_.id rfl
theorem w_call (f : SA) (args : List SA) : nwp P S0 fl (.call f args) fr S K = ((fl = true → Ext S0 S) ∧ dwp P (.call f args) fr (cond fl S0 S) fun r => r.bel (cond fl S0 S).n ∧ K r S) := _root_.id rfl
theorem w_lenL (x : SA) : nwp P S0 fl (.lenL x) fr S K = ((fl = true → Ext S0 S) ∧ dwp P (.lenL x) fr (cond fl S0 S) fun r => r.bel (cond fl S0 S).n ∧ K r S) := _root_.id rfl
theorem w_app (e k bytes : Nat) (x y : SA) : nwp P S0 fl (.app e k bytes x y) fr S K = swp P (.app e k bytes x y) fr S fun r S' => (fl = true → Ext S0 S') ∧ K r S' := _root_.id rfl
end
end Go.Proofs.Ytfihpbeihlpfcaa.Ev
