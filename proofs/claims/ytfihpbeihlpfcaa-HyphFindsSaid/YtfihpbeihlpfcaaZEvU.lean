/- Maps as typed tables; functions that make rows of their own. -/
import Derived.Test.YtfihpbeihlpfcaaZEvS
set_option linter.unusedVariables false
set_option linter.unusedSimpArgs false
namespace Go.Proofs.Ytfihpbeihlpfcaa.Ev
open Go Go.RowKit

/-! ### tables -/
class Key (κ : Type) (kd : outParam KeyKd) [DecidableEq κ] where
  val : κ → Value
  is : ∀ x, kd.is (val x) = true
  eq : ∀ x y, keyEq (val x) (val y) = decide (x = y)
instance keyStr : Key ByteArray .str := ⟨fun s => .string s, fun _ => rfl, fun x y => by simp only [keyEq, ba_beq]⟩
section
variable {κ : Type} {kd : KeyKd} [DecidableEq κ] [Key κ kd] {α : Type} {k : Nat} [Enc α k]
/-- A value as a map holds it. -/
def valA (x : α) : AV := if k = 1 then (Enc.cells x).headD .junk else .agg (Enc.cells x)
def mapC (m : List (κ × α)) : List (Value × AV) := m.map fun p => (Key.val p.1, valA p.2)
theorem mapC_nil : mapC ([] : List (κ × α)) = [] := rfl
theorem keysOk_nil (kd : KeyKd) : keysOk kd [] = true := rfl
theorem updE_nil (v : Value) (y : AV) : updE [] v y = [(v, y)] := rfl
end
theorem is_str (v : ByteArray) : KeyKd.is .str (.string v) = true := rfl
theorem valA_i (x : Int) : valA x = intA x := rfl
theorem valA_s (x : ByteArray) : valA x = strA x := rfl
theorem valA_b (x : Bool) : valA x = boolA x := rfl
theorem valA_l {α : Type} {k : Nat} [Enc α k] (x : List α) : valA x = sl x := rfl
/-- What is found, or the zero value. -/
def getZ (z : Value) (o : Option AV) : AV := o.getD (avOf z)
def mapAt (L : List (Option Ob)) (j : Nat) : Option (List (Value × AV)) := match (L[j]?).join with
  | some (.map es) => some es
  | _ => none
theorem mapAt_zero (es : List (Value × AV)) (L : List (Option Ob)) : mapAt (some (.map es) :: L) 0 = some es := rfl
theorem mapAt_succ (x : Option Ob) (L : List (Option Ob)) (j : Nat) : mapAt (x :: L) (j + 1) = mapAt L j := rfl
theorem stk_map (S : St) (L : List (Option Ob)) (j : Nat) : (S.stk L).map? (S.nm j) = mapAt L j := by
  have e : ¬ S.n + j < S.n := by omega
  simp [St.map?, St.stk, St.nm, mapAt, e]
  cases (L[j]?).join with
  | none => rfl
  | some o => cases o <;> rfl
theorem mapOf_nil (S : St) : mapOf S (.sc (.map none)) = some [] := rfl
section
variable {P : Program} {fr : Fr} {S : St} {K : AV → St → Prop}
def mpH (x : AV) (K : Nat → Prop) (b : Dep K) : Prop := match x with | .mp l => K l | _ => False
theorem mpH_eq (l : Nat) (K : Nat → Prop) : mpH (.mp l) K () = K l := rfl
theorem x_mkmap : swp P .mkmap fr S K = letK (S.add (.map [])) (fun S' => letK (.mp S.n) (fun r => K r S') ()) () := rfl
def keyH (x : AV) (K : Value → Prop) (b : Dep K) : Prop := match keyV x with | some v => K v | none => False
theorem keyH_sc (v : Value) (K : Value → Prop) : keyH (.sc v) K () = K v := rfl
theorem scs_nil : scs [] = some [] := rfl
theorem scs_cons (v : Value) (cs : List AV) : scs (.sc v :: cs) = (scs cs).map (v :: ·) := rfl
theorem x_mupd (kd : KeyKd) (m k x : SA) : swp P (.mupd kd m k x) fr S K = mpH (evS fr m) (fun l => keyH (evS fr k) (fun v => orH (S.map? l) (fun es => req (keysOk kd es = true) (fun _ => req (kd.is v = true) (fun _ =>
    letK (S.set l (.map (updE es v (evS fr x)))) (fun S' => K (.sc undef) S') ()) ()) ()) ()) ()) () := by
  simp only [swp, mpH, keyH, orH, letK, req]
  generalize evS fr m = a
  generalize keyV (evS fr k) = b
  cases a <;> first | rfl | (cases b <;> rfl)
theorem x_look (kd : KeyKd) (z : Value) (ok : Bool) (m k : SA) : swp P (.look kd z ok m k) fr S K = keyH (evS fr k) (fun v => orH (mapOf S (evS fr m)) (fun es => req (keysOk kd es = true) (fun _ => req (kd.is v = true) (fun _ =>
    letK (if ok = true then AV.tup [getZ z (findE es v), .sc (.bool (findE es v).isSome)] else getZ z (findE es v)) (fun r => K r S) ()) ()) ()) ()) () := by
  simp only [swp, keyH, orH, letK, req, getZ]
  generalize keyV (evS fr k) = b
  cases b <;> rfl
/-! ### a map gone through -/
theorem x_rangeM (x : SA) : swp P (.rangeM x) fr S K = orH (romOf (evS fr x)) (fun es => letK (S.add (.iter (.map none es))) (fun S' => letK (.it S.n) (fun r => K r S') ()) ()) () := rfl
def nextH (p : Nat × List (Value × AV)) (S : St) (K : AV → St → Prop) (b : Dep2 K) : Prop := (p.2 = [] → K (.tup [.sc (.bool false)]) S) ∧ ∀ i (h : i < p.2.length), K (.tup [.sc (.bool true), avOf p.2[i].1, p.2[i].2]) (S.set p.1 (.iter (.map (some p.2[i]) (p.2.eraseIdx i))))
theorem x_nextM (x : SA) : swp P (.nextM x) fr S K = orH (itOf S (evS fr x)) (fun p => nextH p S K ()) () := rfl
def itAt (L : List (Option Ob)) (j : Nat) (l : Nat) : Option (Nat × List (Value × AV)) := match (L[j]?).join with
  | some (.iter (.map _ left)) => some (l, left)
  | _ => none
theorem itAt_zero (cur : Option (Value × AV)) (left : List (Value × AV)) (L : List (Option Ob)) (l : Nat) : itAt (some (.iter (.map cur left)) :: L) 0 l = some (l, left) := rfl
theorem itAt_succ (x : Option Ob) (L : List (Option Ob)) (j l : Nat) : itAt (x :: L) (j + 1) l = itAt L j l := rfl
def curAt (L : List (Option Ob)) (j : Nat) : Option (Value × AV) := match (L[j]?).join with
  | some (.iter (.map cur _)) => cur
  | _ => none
theorem curAt_zero (cur : Option (Value × AV)) (left : List (Value × AV)) (L : List (Option Ob)) : curAt (some (.iter (.map cur left)) :: L) 0 = cur := rfl
theorem curAt_succ (x : Option Ob) (L : List (Option Ob)) (j : Nat) : curAt (x :: L) (j + 1) = curAt L j := rfl
theorem x_entryM (x : SA) : swp P (.entryM x) fr S K = orH (curOf S (evS fr x)) (fun c => letK (.tup [avOf c.1, c.2]) (fun r => K r S) ()) () := rfl
def stampH (x : AV) (K : Nat → Value → Prop) (b : Dep2 K) : Prop := match x with | .stamp l v => K l v | _ => False
theorem stampH_eq (l : Nat) (v : Value) (K : Nat → Value → Prop) : stampH (.stamp l v) K () = K l v := rfl
theorem romOf_nil : romOf (.sc (.map none)) = some [] := rfl
theorem x_lenM (x : SA) : swp P (.lenM x) fr S K = orH (mapOf S (evS fr x)) (fun es => letK (.sc (.int .i64 es.length)) (fun r => K r S) ()) () := rfl
def zH (p : Option (KeyKd × Value × List (Value × AV))) (A : KeyKd × Value × List (Value × AV) → Prop) (B : Prop) : Prop := match p with | some p => A p | none => B
theorem zH_some (p : KeyKd × Value × List (Value × AV)) (A : KeyKd × Value × List (Value × AV) → Prop) (B : Prop) : zH (some p) A B = A p := rfl
theorem zH_none (A : KeyKd × Value × List (Value × AV) → Prop) (B : Prop) : zH none A B = B := rfl
def zAt (L : List (Option Ob)) (j : Nat) : Option (KeyKd × Value × List (Value × AV)) := match (L[j]?).join with
  | some (.iter (.mapz kd z es)) => some (kd, z, es)
  | _ => none
theorem zAt_map (es : List (Value × AV)) (L : List (Option Ob)) : zAt (some (.map es) :: L) 0 = none := rfl
theorem zAt_z (kd : KeyKd) (z : Value) (es : List (Value × AV)) (L : List (Option Ob)) : zAt (some (.iter (.mapz kd z es)) :: L) 0 = some (kd, z, es) := rfl
theorem zAt_succ (x : Option Ob) (L : List (Option Ob)) (j : Nat) : zAt (x :: L) (j + 1) = zAt L j := rfl
theorem zOf_rom (S : St) (ks : List Value) (vs : List AV) : zOf S (.rom ks vs) = none := rfl
theorem zOf_sc (S : St) (v : Value) : zOf S (.sc v) = none := rfl
theorem d_lenM {K : AV → Prop} (x : SA) : dwp P (.lenM x) fr S K = swp P (.lenM x) fr S fun r _ => K r := rfl
end
/-! ### functions that make rows -/
theorem head_dropC {α : Type} {k : Nat} [Enc α k] {l : List α} {i j : Nat} (h : i < l.length) (hj : j < k) : (List.drop j (cellsL (List.drop i l))).head? = (Enc.cells (nth l i))[j]? := by
  rw [drop_cells h, List.head?_drop, List.getElem?_append_left (by rw [Enc.len]; exact hj)]
theorem cells_p3 {α β γ : Type} [A0 : Enc α 1] [A1 : Enc β 1] [A2 : Enc γ 1] (x : α × β × γ) : @Enc.cells (α × β × γ) 3 (@encProd α (β × γ) 1 2 A0 (@encProd β (γ) 1 1 A1 A2)) x = Enc.cells x.1 ++ (Enc.cells x.2.1 ++ (Enc.cells x.2.2)) := rfl
theorem cells_p4 {α β γ δ : Type} [A0 : Enc α 1] [A1 : Enc β 1] [A2 : Enc γ 1] [A3 : Enc δ 1] (x : α × β × γ × δ) : @Enc.cells (α × β × γ × δ) 4 (@encProd α (β × γ × δ) 1 3 A0 (@encProd β (γ × δ) 1 2 A1 (@encProd γ (δ) 1 1 A2 A3))) x = Enc.cells x.1 ++ (Enc.cells x.2.1 ++ (Enc.cells x.2.2.1 ++ (Enc.cells x.2.2.2))) := rfl
theorem cells_p5 {α β γ δ ε : Type} [A0 : Enc α 1] [A1 : Enc β 1] [A2 : Enc γ 1] [A3 : Enc δ 1] [A4 : Enc ε 1] (x : α × β × γ × δ × ε) : @Enc.cells (α × β × γ × δ × ε) 5 (@encProd α (β × γ × δ × ε) 1 4 A0 (@encProd β (γ × δ × ε) 1 3 A1 (@encProd γ (δ × ε) 1 2 A2 (@encProd δ (ε) 1 1 A3 A4)))) x = Enc.cells x.1 ++ (Enc.cells x.2.1 ++ (Enc.cells x.2.2.1 ++ (Enc.cells x.2.2.2.1 ++ (Enc.cells x.2.2.2.2)))) := rfl
theorem cells_p6 {α β γ δ ε ζ : Type} [A0 : Enc α 1] [A1 : Enc β 1] [A2 : Enc γ 1] [A3 : Enc δ 1] [A4 : Enc ε 1] [A5 : Enc ζ 1] (x : α × β × γ × δ × ε × ζ) : @Enc.cells (α × β × γ × δ × ε × ζ) 6 (@encProd α (β × γ × δ × ε × ζ) 1 5 A0 (@encProd β (γ × δ × ε × ζ) 1 4 A1 (@encProd γ (δ × ε × ζ) 1 3 A2 (@encProd δ (ε × ζ) 1 2 A3 (@encProd ε (ζ) 1 1 A4 A5))))) x = Enc.cells x.1 ++ (Enc.cells x.2.1 ++ (Enc.cells x.2.2.1 ++ (Enc.cells x.2.2.2.1 ++ (Enc.cells x.2.2.2.2.1 ++ (Enc.cells x.2.2.2.2.2))))) := rfl
theorem cells_p7 {α β γ δ ε ζ η : Type} [A0 : Enc α 1] [A1 : Enc β 1] [A2 : Enc γ 1] [A3 : Enc δ 1] [A4 : Enc ε 1] [A5 : Enc ζ 1] [A6 : Enc η 1] (x : α × β × γ × δ × ε × ζ × η) : @Enc.cells (α × β × γ × δ × ε × ζ × η) 7 (@encProd α (β × γ × δ × ε × ζ × η) 1 6 A0 (@encProd β (γ × δ × ε × ζ × η) 1 5 A1 (@encProd γ (δ × ε × ζ × η) 1 4 A2 (@encProd δ (ε × ζ × η) 1 3 A3 (@encProd ε (ζ × η) 1 2 A4 (@encProd ζ (η) 1 1 A5 A6)))))) x = Enc.cells x.1 ++ (Enc.cells x.2.1 ++ (Enc.cells x.2.2.1 ++ (Enc.cells x.2.2.2.1 ++ (Enc.cells x.2.2.2.2.1 ++ (Enc.cells x.2.2.2.2.2.1 ++ (Enc.cells x.2.2.2.2.2.2)))))) := rfl
theorem valA_ne {α : Type} {k : Nat} [Enc α k] (h : k ≠ 1) (x : α) : valA x = .agg (Enc.cells x) := by unfold valA; rw [if_neg h]
/-- A row whose cells are told more weakly. -/
theorem View.row {fr : Fr} {S : St} {l : Nat} {e k : Nat} {cs cs' : List AV} (hm : S.m l = some (.row e k cs)) (hl : cs.length = cs'.length) (hw : ∀ (j : Nat) (x y : AV), cs[j]? = some x → cs'[j]? = some y → Wk x y) : View fr S fr (S.set l (.row e k cs')) := fun n G a h1 h2 h3 => by
  subst h1
  let G' : Ctx := ⟨G.w, G.μ, G.S.set l (.row e k cs')⟩
  have hsub : ∀ l' o', G'.S.m l' = some o' → (l' = l ∧ o' = .row e k cs') ∨ (l' ≠ l ∧ G.S.m l' = some o') := fun l' o' h => by
    by_cases e : l' = l
    · subst e; left; exact ⟨rfl, by simpa [G', St.set] using h.symm⟩
    · right; exact ⟨e, by simpa [G', St.set, e] using h⟩
  have hlv : ∀ l' b, G'.live l' b → G.live l' b := fun l' b h => by
    obtain ⟨⟨o', ho'⟩, hb⟩ := h
    rcases hsub l' o' ho' with ⟨rfl, _⟩ | ⟨_, h⟩
    · exact ⟨⟨_, hm⟩, hb⟩
    · exact ⟨⟨_, h⟩, hb⟩
  have hst : Step G G' := by
    refine ⟨rfl, rfl, Nat.le_refl _, rfl, Nat.le_refl _, fun _ _ => rfl, fun b _ ⟨l', h⟩ => ⟨l', hlv l' b h⟩, Nat.le_refl _, fun l' o' _ ho' => ?_, MapsGo.refl _⟩
    rcases hsub l' o' ho' with ⟨rfl, rfl⟩ | ⟨_, h⟩
    · exact ⟨cs, hm, by omega, fun _ => ⟨rfl, fun b c _ hc => ⟨c, hc, rfl⟩⟩⟩
    · cases o' with
      | row e k cs => exact ⟨cs, h, Nat.le_refl _, fun _ => ⟨rfl, fun b c _ hc => ⟨c, hc, rfl⟩⟩⟩
      | map es => exact ⟨es, h, rfl⟩
      | iter i => exact ⟨i, h, rfl⟩
  refine ⟨G', rfl, rfl, ⟨fun l' hl' => ?_, fun l' o' ho' => ?_, fun l1 l2 b a1 a2 => h2.inj l1 l2 b (hlv _ _ a1) (hlv _ _ a2)⟩, hst, h3.1, h3.2.1, fun j hj => (h3.2.2 j hj).step hst⟩
  · have := live_lt h2 hm
    have hn : l' ≠ l := by have : G.S.n ≤ l' := hl'; omega
    simpa [G', St.set, hn] using h2.dom l' hl'
  · rcases hsub l' o' ho' with ⟨rfl, rfl⟩ | ⟨_, h⟩
    · obtain ⟨q1, q2⟩ := h2.ok _ _ hm
      refine ⟨by omega, ?_⟩
      rcases q2 with ⟨q3, q4⟩ | ⟨b, c, q3, q4, q5, q6⟩
      · left; exact ⟨q3, List.eq_nil_of_length_eq_zero (by rw [← hl, q4]; rfl)⟩
      · right
        refine ⟨b, c, q3, q4, by omega, rat_iff.2 fun j y hy => ?_⟩
        have hj : j < cs.length := by have := (List.getElem?_eq_some_iff.1 hy).1; omega
        obtain ⟨v, hv, hr⟩ := rat_iff.1 q6 j cs[j] (by simp [hj])
        exact ⟨v, hv, (hw j _ y (by simp [hj]) hy G v hr).step hst⟩
    · exact (h2.ok _ _ h).keep hst rfl fun _ _ => rfl
def wks : List AV → List AV → Prop
  | [], [] => True
  | x :: xs, y :: ys => Wk x y ∧ wks xs ys
  | _, _ => False
theorem wks_nil : wks [] [] = True := rfl
theorem wks_cons (x y : AV) (xs ys : List AV) : wks (x :: xs) (y :: ys) = (Wk x y ∧ wks xs ys) := rfl
/-- What may be true, if p: whether an empty slice is nil. -/
def altH (p : Prop) (K : Bool → Prop) (b : Dep K) : Prop := K false ∧ (p → K true)
theorem alt_intro {p : Prop} {K : Bool → Prop} (h1 : K false) (h2 : p → K true) : altH p K () := ⟨h1, h2⟩
theorem eq_ronil {K : AV → Prop} (neg : Bool) (n : Nat) (cs : List AV) : eqH .slice neg (.ro n cs) (.sc (.slice none 0 0)) K () = altH (n = 0) (fun t => letK (boolK neg t) K ()) () := by
  apply propext
  constructor
  · intro h; exact ⟨h false (by simp), fun e => h true fun _ => e⟩
  · rintro ⟨h1, h2⟩ b hb
    cases b with
    | false => exact h1
    | true => exact h2 (hb rfl)
theorem bel_mapnil (n : Nat) : Ob.bel n (.map []) = True := rfl
attribute [go_sem ↓]
  x_mkmap x_mupd x_look x_lenM d_lenM x_rangeM x_nextM x_entryM
attribute [go_sem]
  wks_nil wks_cons wk_nil mpH_eq mapC_nil is_str valA_i valA_s valA_b valA_l valA_ne head_dropC cells_p3 cells_p4 cells_p5 cells_p6 cells_p7 mapAt_zero mapAt_succ stk_map mapOf_nil keysOk_nil bel_mapnil eq_ronil Ob.map.injEq keyH_sc scs_nil scs_cons itAt_zero itAt_succ romOf_nil curAt_zero curAt_succ stampH_eq Ob.iter.injEq It.map.injEq obE_self killD_set zH_some zH_none zAt_map zAt_z zAt_succ zOf_rom zOf_sc
end Go.Proofs.Ytfihpbeihlpfcaa.Ev
