/- Sets of texts: the reference's Set. -/
import Derived.Test.YtedbjmonfbpefaaFnO
import Derived.Test.YtedbjmonfbpefaaEvU
set_option linter.unusedVariables false
set_option linter.unusedSimpArgs false
namespace Go.Proofs.Ytedbjmonfbpefaa.Ev
open Go Go.Proofs

def insS (x : Str) : List Str → List Str
  | [] => [x]
  | y :: ys => if ltB x y = true then x :: y :: ys else if ltB y x = true then y :: insS x ys else y :: ys
/-- The texts of l, ascending, each once. -/
def setL (l : List Str) : List Str := l.foldr insS []
theorem mem_insS {x z : Str} : ∀ {l : List Str}, z ∈ insS x l ↔ z = x ∨ z ∈ l
  | [] => by simp [insS]
  | y :: ys => by
    simp only [insS]
    split
    · simp
    · rename_i h1
      split
      · simp only [List.mem_cons, mem_insS (l := ys)]
        constructor
        · rintro (h | h | h) <;> simp [h]
        · rintro (h | h | h) <;> simp [h]
      · rename_i h2
        have := ltB_tri (by simpa using h1) (by simpa using h2)
        subst this; simp
theorem asc_insS {x : Str} : ∀ {l : List Str}, l.Pairwise (fun a b => ltB a b = true) → (insS x l).Pairwise (fun a b => ltB a b = true)
  | [], _ => by simp [insS]
  | y :: ys, h => by
    obtain ⟨h1, h2⟩ := List.pairwise_cons.1 h
    simp only [insS]
    split
    · rename_i h3
      exact List.pairwise_cons.2 ⟨fun z hz => by
        rcases List.mem_cons.1 hz with rfl | hz
        · exact h3
        · exact ltB_trans h3 (h1 z hz), h⟩
    · split
      · rename_i h3
        exact List.pairwise_cons.2 ⟨fun z hz => by
          rcases mem_insS.1 hz with rfl | hz
          · exact h3
          · exact h1 z hz, asc_insS h2⟩
      · exact h
theorem mem_setL {z : Str} : ∀ {l : List Str}, z ∈ setL l ↔ z ∈ l
  | [] => by simp [setL]
  | x :: l => by
    have := mem_setL (z := z) (l := l)
    simp only [setL, List.foldr_cons, mem_insS, List.mem_cons] at this ⊢
    rw [this]
theorem asc_setL : ∀ (l : List Str), (setL l).Pairwise (fun a b => ltB a b = true)
  | [] => by simp [setL]
  | x :: l => asc_insS (asc_setL l)
theorem asc_eq : ∀ {a b : List Str}, a.Pairwise (fun a b => ltB a b = true) → b.Pairwise (fun a b => ltB a b = true) → (∀ z, z ∈ a ↔ z ∈ b) → a = b
  | [], [], _, _, _ => rfl
  | [], y :: b, _, _, h => by have := (h y).2 (by simp); simp at this
  | x :: a, [], _, _, h => by have := (h x).1 (by simp); simp at this
  | x :: a, y :: b, ha, hb, h => by
    obtain ⟨a1, a2⟩ := List.pairwise_cons.1 ha
    obtain ⟨b1, b2⟩ := List.pairwise_cons.1 hb
    have e : x = y := by
      have h1 := (h x).1 (by simp)
      have h2 := (h y).2 (by simp)
      rcases List.mem_cons.1 h1 with rfl | h1
      · rfl
      · rcases List.mem_cons.1 h2 with rfl | h2
        · rfl
        · have := ltB_asymm (a1 y h2); rw [b1 x h1] at this; cases this
    subst e
    congr 1
    refine asc_eq a2 b2 fun z => ⟨fun hz => ?_, fun hz => ?_⟩
    · rcases List.mem_cons.1 ((h z).1 (by simp [hz])) with rfl | h3
      · have := a1 z hz; rw [ltB_irrefl] at this; cases this
      · exact h3
    · rcases List.mem_cons.1 ((h z).2 (by simp [hz])) with rfl | h3
      · have := b1 z hz; rw [ltB_irrefl] at this; cases this
      · exact h3

def candB (out : List Str) (x : Str) : Bool := decide (out.length = 0) || ltB (nth out (out.length - 1)) x
theorem nth_last (out : List Str) (x : Str) : nth (out ++ [x]) ((out ++ [x]).length - 1) = x := by simp [nth]
theorem candB_app (out : List Str) (b x : Str) : candB (out ++ [b]) x = ltB b x := by
  rw [candB, nth_last]; simp
theorem filter_lt {α : Type} {p q : α → Bool} : ∀ {l : List α}, (∀ x ∈ l, p x = true → q x = true) → (∃ x ∈ l, q x = true ∧ p x = false) → (l.filter p).length < (l.filter q).length
  | [], _, h => by obtain ⟨x, h, _⟩ := h; simp at h
  | y :: l, h1, h2 => by
    have mono : ∀ {l : List α}, (∀ x ∈ l, p x = true → q x = true) → (l.filter p).length ≤ (l.filter q).length := by
      intro l
      induction l with
      | nil => intro _; simp
      | cons z l ih =>
        intro h
        have i := ih fun x hx => h x (by simp [hx])
        have hz := h z (by simp)
        cases hp : p z <;> cases hq : q z <;> simp [List.filter_cons, hp, hq] <;> first | omega | (rw [hp, hq] at hz; simp at hz)
    obtain ⟨x, hx, hq, hp⟩ := h2
    rcases List.mem_cons.1 hx with rfl | hx
    · have := mono (l := l) fun z hz => h1 z (by simp [hz])
      simp [List.filter_cons, hp, hq]; omega
    · have i := filter_lt (l := l) (fun z hz => h1 z (by simp [hz])) ⟨x, hx, hq, hp⟩
      have hz := h1 y (by simp)
      cases hp' : p y <;> cases hq' : q y <;> simp [List.filter_cons, hp', hq'] <;> first | omega | (rw [hp', hq'] at hz; simp at hz)
structure Inn (l out : List Str) (best : Str) (found : Bool) (i : Nat) : Prop where
  le : i ≤ l.length
  yes : found = true → best ∈ l ∧ candB out best = true
  all : ∀ j, j < i → candB out (nth l j) = true → found = true ∧ ltB (nth l j) best = false
theorem Inn.step_yes {l out : List Str} {best : Str} {found : Bool} {i : Nat} (h : Inn l out best found i) (hi : i < l.length) (hc : candB out (nth l i) = true) (hb : found = false ∨ ltB (nth l i) best = true) : Inn l out (nth l i) true (i + 1) := by
  refine ⟨hi, fun _ => ⟨nth_mem hi, hc⟩, fun j hj hcj => ⟨rfl, ?_⟩⟩
  by_cases e : j = i
  · subst e; exact ltB_irrefl _
  · obtain ⟨h1, h2⟩ := h.all j (by omega) hcj
    rcases hb with hb | hb
    · rw [hb] at h1; cases h1
    · rw [← Bool.not_eq_true]; intro h3
      rw [ltB_trans h3 hb] at h2; cases h2
theorem Inn.step_no {l out : List Str} {best : Str} {found : Bool} {i : Nat} (h : Inn l out best found i) (hi : i < l.length) (hn : candB out (nth l i) = false ∨ (found = true ∧ ltB (nth l i) best = false)) : Inn l out best found (i + 1) := by
  refine ⟨hi, h.yes, fun j hj hcj => ?_⟩
  by_cases e : j = i
  · subst e
    rcases hn with hn | hn
    · rw [hn] at hcj; cases hcj
    · exact hn
  · exact h.all j (by omega) hcj
structure Out (l out : List Str) : Prop where
  asc : out.Pairwise (fun a b => ltB a b = true)
  sub : ∀ x ∈ out, x ∈ l
  all : ∀ x ∈ l, x ∈ out ∨ candB out x = true
  len : out.length + (l.filter (candB out)).length ≤ l.length
theorem asc_last {out : List Str} (h : out.Pairwise (fun a b => ltB a b = true)) {x : Str} (hx : x ∈ out) : x = nth out (out.length - 1) ∨ ltB x (nth out (out.length - 1)) = true := by
  obtain ⟨j, hj, rfl⟩ := List.getElem_of_mem hx
  rw [nth_eq (by omega)]
  by_cases e : j = out.length - 1
  · left; congr
  · right; exact List.pairwise_iff_getElem.1 h j (out.length - 1) hj (by omega) (by omega)
theorem Out.step {l out : List Str} {best : Str} {i : Nat} (h : Out l out) (hi : Inn l out best true i) (hl : l.length ≤ i) : Out l (out ++ [best]) ∧ (l.filter (candB (out ++ [best]))).length < (l.filter (candB out)).length := by
  obtain ⟨hb1, hb2⟩ := hi.yes rfl
  have hb3 : ∀ x ∈ out, ltB x best = true := fun x hx => by
    have h0 : 0 < out.length := List.length_pos_of_mem hx
    have hc : ltB (nth out (out.length - 1)) best = true := by
      simp only [candB, Bool.or_eq_true, decide_eq_true_eq] at hb2
      rcases hb2 with hb2 | hb2
      · omega
      · exact hb2
    rcases asc_last h.asc hx with e | e
    · rw [e]; exact hc
    · exact ltB_trans e hc
  have hlt : (l.filter (candB (out ++ [best]))).length < (l.filter (candB out)).length := by
    refine filter_lt (fun x hx hc => ?_) ⟨best, hb1, hb2, by rw [candB_app, ltB_irrefl]⟩
    rw [candB_app] at hc
    simp only [candB, Bool.or_eq_true, decide_eq_true_eq] at hb2 ⊢
    rcases hb2 with hb2 | hb2
    · exact .inl hb2
    · exact .inr (ltB_trans hb2 hc)
  refine ⟨⟨?_, ?_, ?_, ?_⟩, hlt⟩
  · rw [List.pairwise_append]
    exact ⟨h.asc, by simp, fun a ha b hb => by simp at hb; subst hb; exact hb3 a ha⟩
  · intro x hx
    rcases List.mem_append.1 hx with hx | hx
    · exact h.sub x hx
    · simp at hx; subst hx; exact hb1
  · intro x hx
    rcases h.all x hx with h1 | h1
    · left; simp [h1]
    · obtain ⟨j, hj, rfl⟩ := List.getElem_of_mem hx
      have h2 := (hi.all j (by omega) (by rw [nth_eq hj]; exact h1)).2
      rw [nth_eq hj] at h2
      cases h3 : ltB best l[j] with
      | true => right; rw [candB_app]; exact h3
      | false => left; have := ltB_tri h3 h2; simp [this]
  · have := h.len; simp only [List.length_append, List.length_singleton]; omega
theorem Out.done {l out : List Str} {best : Str} {i : Nat} (h : Out l out) (hi : Inn l out best false i) (hl : l.length ≤ i) : out = setL l := by
  refine asc_eq h.asc (asc_setL l) fun z => ⟨fun hz => mem_setL.2 (h.sub z hz), fun hz => ?_⟩
  rcases h.all z (mem_setL.1 hz) with h1 | h1
  · exact h1
  · obtain ⟨j, hj, rfl⟩ := List.getElem_of_mem (mem_setL.1 hz)
    have := (hi.all j (by omega) (by rw [nth_eq hj]; exact h1)).1
    cases this

/-- ablaut/ablautref01.Set: 1 parameters, 0 captured -/
def s72 : SC := .seq (.reg [⟨(some 2), .mv (.c (.slice none 0 0)), none⟩])
  (.seq (.reg [⟨(some 3), .mv (.c (.slice none 0 0)), none⟩])
   (.block 0 (.loop (.block 1 (.seq (.reg [⟨(some 4), .mv (.c (.string ⟨#[]⟩)), none⟩,
          ⟨(some 5), .mv (.c (.bool false)), none⟩])
       (.seq (.seq (.reg [⟨(some 6), .mv (.c (.int .i64 0)), none⟩])
         (.block 2 (.loop (.seq (.seq (.reg [⟨(some 7), .mv (.t 6), none⟩,
                ⟨(some 8), .mv (.t 0), none⟩,
                ⟨(some 9), .lenL (.t 8), none⟩,
                ⟨(some 10), .bin .lss (.t 7) (.t 9), none⟩])
             (.cond (.t 10) (.skip) (.exit 2)))
            (.seq (.block 3 (.seq (.regD [⟨(some 13), .mv (.t 3), none⟩,
                  ⟨(some 14), .lenL (.t 13), none⟩,
                  ⟨(some 15), .bin .eql (.t 14) (.c (.int .i64 0)), none⟩,
                  ⟨(some 16), .mv (.t 15), none⟩,
                  ⟨(some 17), .mv (.t 0), some (16, false)⟩,
                  ⟨(some 18), .mv (.t 6), some (16, false)⟩,
                  ⟨(some 19), .iaddr 1 (.t 17) (.t 18), some (16, false)⟩,
                  ⟨(some 20), .load none (.t 19), some (16, false)⟩,
                  ⟨(some 21), .mv (.t 3), some (16, false)⟩,
                  ⟨(some 22), .mv (.t 3), some (16, false)⟩,
                  ⟨(some 23), .lenL (.t 22), some (16, false)⟩,
                  ⟨(some 24), .bin .sub (.t 23) (.c (.int .i64 1)), some (16, false)⟩,
                  ⟨(some 25), .iaddr 1 (.t 21) (.t 24), some (16, false)⟩,
                  ⟨(some 26), .load none (.t 25), some (16, false)⟩,
                  ⟨(some 27), .bin .gtr (.t 20) (.t 26), some (16, false)⟩,
                  ⟨(some 28), .pick (.t 16) (.c (.bool true)) (.t 27), none⟩,
                  ⟨(some 29), .mv (.t 28), none⟩,
                  ⟨(some 30), .mv (.t 5), some (29, true)⟩,
                  ⟨(some 31), .un .not (.t 30), some (29, true)⟩,
                  ⟨(some 32), .mv (.t 31), some (29, true)⟩,
                  ⟨(some 33), .mv (.t 0), some (32, false)⟩,
                  ⟨(some 34), .mv (.t 6), some (32, false)⟩,
                  ⟨(some 35), .iaddr 1 (.t 33) (.t 34), some (32, false)⟩,
                  ⟨(some 36), .load none (.t 35), some (32, false)⟩,
                  ⟨(some 37), .mv (.t 4), some (32, false)⟩,
                  ⟨(some 38), .bin .lss (.t 36) (.t 37), some (32, false)⟩,
                  ⟨(some 39), .pick (.t 32) (.c (.bool true)) (.t 38), some (29, true)⟩,
                  ⟨(some 40), .pick (.t 29) (.t 39) (.c (.bool false)), none⟩])
               (.cond (.t 40) (.reg [⟨(some 41), .mv (.t 0), none⟩,
                   ⟨(some 42), .mv (.t 6), none⟩,
                   ⟨(some 43), .iaddr 1 (.t 41) (.t 42), none⟩,
                   ⟨(some 44), .load none (.t 43), none⟩,
                   ⟨(some 4), .mv (.t 44), none⟩,
                   ⟨(some 5), .mv (.c (.bool true)), none⟩]) (.skip))))
             (.reg [⟨(some 11), .mv (.t 6), none⟩,
                ⟨(some 12), .bin .add (.t 11) (.c (.int .i64 1)), none⟩,
                ⟨(some 6), .mv (.t 12), none⟩]))))))
        (.seq (.seq (.reg [⟨(some 45), .mv (.t 5), none⟩,
             ⟨(some 46), .un .not (.t 45), none⟩])
          (.cond (.t 46) (.seq (.reg [⟨(some 47), .mv (.t 3), none⟩,
               ⟨(some 2), .mv (.t 47), none⟩])
            (.ret)) (.skip)))
         (.reg [⟨(some 48), .mv (.t 3), none⟩,
            ⟨(some 49), .mv (.t 4), none⟩,
            ⟨(some 50), .buildSl 9 1 1 [(.string ⟨#[]⟩)] [(0, 1, (.t 49))], none⟩,
            ⟨(some 51), .app 9 1 16 (.t 48) (.t 50), none⟩,
            ⟨(some 3), .mv (.t 51), none⟩]))))))))
theorem s72_ok : lookF Try.prog 72 = some (s72, 52, [.tmp 2]) := by kernel_rfl
set_option maxHeartbeats 1000000 in
theorem rSet_ok (l : List Str) (hl : l.length ≤ 4398046511104) : Fn P 72 [sl l] (sl (setL l)) := by
  (refine fn_look s72_ok (by simp) (by intro k; simp only [go_sem, Nat.reduceEqDiff, ↓reduceIte, reduceCtorEq, Nat.reduceAdd, Nat.reduceMul, Int.reduceToNat, List.reduceReplicate, Nat.reduceLeDiff, Nat.reduceLT, Int.reduceLT, Int.reduceLE, Int.reduceEq]) fun S hS => cwp_sound _ _ _ _ ?_; simp (disch := omega) only [s72, go_sem, Nat.reduceEqDiff, ↓reduceIte, reduceCtorEq, Nat.reduceAdd, Nat.reduceMul, Int.reduceToNat, List.reduceReplicate, Nat.reduceLeDiff, Nat.reduceLT, Int.reduceLT, Int.reduceLE, Int.reduceEq])
  refine nil_row 3 9 1 (by simp (disch := omega) only [go_sem, Nat.reduceEqDiff, ↓reduceIte, reduceCtorEq, Nat.reduceAdd, Nat.reduceMul, Int.reduceToNat, List.reduceReplicate, Nat.reduceLeDiff, Nat.reduceLT, Int.reduceLT, Int.reduceLE, Int.reduceEq]) ?_
  (refine loopC hS [0] (by simp only [go_sem, Nat.reduceEqDiff, ↓reduceIte, reduceCtorEq, Nat.reduceAdd, Nat.reduceMul, Int.reduceToNat, List.reduceReplicate, Nat.reduceLeDiff, Nat.reduceLT, Int.reduceLT, Int.reduceLE, Int.reduceEq]; try rfl) (fun (out : List Str) => [(3, own S 0 out)]) (fun (out : List Str) => [rowO 9 out]) (fun (out : List Str) => Out l out) (fun (out : List Str) => (l.filter (candB out)).length) ([]) ?h01 ?hn1 ?rd1; case hn1 => (intro s; first | rfl | (rcases s with ⟨_, _⟩; rfl) | (rcases s with ⟨_, _, _⟩; rfl) | (rcases s with ⟨_, _, _, _⟩; rfl) | (rcases s with ⟨_, _, _, _, _⟩; rfl)))
  · simp (disch := omega) only [go_sem, Nat.reduceEqDiff, ↓reduceIte, reduceCtorEq, Nat.reduceAdd, Nat.reduceMul, Int.reduceToNat, List.reduceReplicate, Nat.reduceLeDiff, Nat.reduceLT, Int.reduceLT, Int.reduceLE, Int.reduceEq]
    refine ⟨by simp, by simp, fun x hx => .inr rfl, ?_⟩
    simp only [List.length_nil, Nat.zero_add]; exact List.length_filter_le _ _
  · rintro out ho
    replace ho : Out l out := ho
    have hol := ho.len
    repeat' (first | (with_reducible refine in_seq ?_) | (with_reducible refine in_reg ?_) | (with_reducible refine in_block ?_) | (with_reducible refine in_cond ?_) | (with_reducible refine in_ret ?_) | (with_reducible refine in_skip ?_) | (simp (disch := omega) only [go_sem, Nat.reduceEqDiff, ↓reduceIte, reduceCtorEq, Nat.reduceAdd, Nat.reduceMul, Int.reduceToNat, List.reduceReplicate, Nat.reduceLeDiff, Nat.reduceLT, Int.reduceLT, Int.reduceLE, Int.reduceEq]) | (with_reducible refine giv_intro fun _h => ?_) | (with_reducible refine alt_intro ?_ (fun _h => ?_)) | ((first | with_reducible refine br_dec (fun _h => ?_) (fun _h => ?_) | with_reducible refine br_ndec (fun _h => ?_) (fun _h => ?_)) <;> (first | (exfalso; omega) | simp only [decide_eq_false _h] | simp only [decide_eq_true _h] | skip)) | ((first | with_reducible refine br_not (fun _h => ?_) (fun _h => ?_) | with_reducible refine br_var (fun _h => ?_) (fun _h => ?_)) <;> (try simp only [_h])) | fail)
    (refine loopC hS [0, 3] (by simp only [go_sem, Nat.reduceEqDiff, ↓reduceIte, reduceCtorEq, Nat.reduceAdd, Nat.reduceMul, Int.reduceToNat, List.reduceReplicate, Nat.reduceLeDiff, Nat.reduceLT, Int.reduceLT, Int.reduceLE, Int.reduceEq]; try rfl) (fun (⟨best, found, i⟩ : Str × Bool × Nat) => [(4, strA best), (5, boolA found), (6, intA i)]) (fun (⟨best, found, i⟩ : Str × Bool × Nat) => [rowO 9 out]) (fun (⟨best, found, i⟩ : Str × Bool × Nat) => Inn l out best found i) (fun (⟨best, found, i⟩ : Str × Bool × Nat) => l.length - i) ((⟨#[]⟩, false, 0)) ?h02 ?hn2 ?rd2; case hn2 => (intro s; first | rfl | (rcases s with ⟨_, _⟩; rfl) | (rcases s with ⟨_, _, _⟩; rfl) | (rcases s with ⟨_, _, _, _⟩; rfl) | (rcases s with ⟨_, _, _, _, _⟩; rfl)))
    · simp (disch := omega) only [go_sem, Nat.reduceEqDiff, ↓reduceIte, reduceCtorEq, Nat.reduceAdd, Nat.reduceMul, Int.reduceToNat, List.reduceReplicate, Nat.reduceLeDiff, Nat.reduceLT, Int.reduceLT, Int.reduceLE, Int.reduceEq]
      exact ⟨Nat.zero_le _, by simp, fun j hj => by omega⟩
    · rintro ⟨best, found, i⟩ h1
      replace h1 : Inn l out best found i := h1
      have hle := h1.le
      have e1 : ((out.length : Int) - 1).toNat = out.length - 1 := by omega
      by_cases hi : i < l.length
      · repeat' (first | (with_reducible refine in_seq ?_) | (with_reducible refine in_reg ?_) | (with_reducible refine in_block ?_) | (with_reducible refine in_cond ?_) | (with_reducible refine in_ret ?_) | (with_reducible refine in_skip ?_) | (simp (disch := omega) only [go_sem, Nat.reduceEqDiff, ↓reduceIte, reduceCtorEq, Nat.reduceAdd, Nat.reduceMul, Int.reduceToNat, List.reduceReplicate, Nat.reduceLeDiff, Nat.reduceLT, Int.reduceLT, Int.reduceLE, Int.reduceEq, e1]) | (with_reducible refine giv_intro fun _h => ?_) | (with_reducible refine alt_intro ?_ (fun _h => ?_)) | ((first | with_reducible refine br_dec (fun _h => ?_) (fun _h => ?_) | with_reducible refine br_ndec (fun _h => ?_) (fun _h => ?_)) <;> (first | (exfalso; omega) | simp only [decide_eq_false _h] | simp only [decide_eq_true _h] | skip)) | ((first | with_reducible refine br_not (fun _h => ?_) (fun _h => ?_) | with_reducible refine br_var (fun _h => ?_) (fun _h => ?_)) <;> (try simp only [_h])) | fail)
        all_goals first
          | (refine ⟨(nth l i, true, i + 1), ?_⟩; dsimp only; exact ⟨⟨by omega, h1.step_yes hi (by simp only [candB, Bool.or_eq_true, decide_eq_true_eq]; first | (left; omega) | (right; assumption)) (by first | (left; assumption) | (right; assumption))⟩, rfl, rfl, by omega⟩)
          | (have hf : found = true := (by assumption); refine ⟨(best, true, i + 1), ?_⟩; dsimp only; exact ⟨⟨by omega, hf ▸ h1.step_no hi (.inr ⟨hf, _h⟩)⟩, rfl, rfl, by omega⟩)
          | (refine ⟨(best, found, i + 1), ?_⟩; dsimp only; exact ⟨⟨by omega, h1.step_no hi (.inl (by simp only [candB, Bool.or_eq_false_iff, decide_eq_false_iff_not]; exact ⟨by omega, by assumption⟩))⟩, rfl, rfl, by omega⟩)
      · repeat' (first | (with_reducible refine in_seq ?_) | (with_reducible refine in_reg ?_) | (with_reducible refine in_block ?_) | (with_reducible refine in_cond ?_) | (with_reducible refine in_ret ?_) | (with_reducible refine in_skip ?_) | (simp (disch := omega) only [go_sem, Nat.reduceEqDiff, ↓reduceIte, reduceCtorEq, Nat.reduceAdd, Nat.reduceMul, Int.reduceToNat, List.reduceReplicate, Nat.reduceLeDiff, Nat.reduceLT, Int.reduceLT, Int.reduceLE, Int.reduceEq]) | (with_reducible refine giv_intro fun _h => ?_) | (with_reducible refine alt_intro ?_ (fun _h => ?_)) | ((first | with_reducible refine br_dec (fun _h => ?_) (fun _h => ?_) | with_reducible refine br_ndec (fun _h => ?_) (fun _h => ?_)) <;> (first | (exfalso; omega) | simp only [decide_eq_false _h] | simp only [decide_eq_true _h] | skip)) | ((first | with_reducible refine br_not (fun _h => ?_) (fun _h => ?_) | with_reducible refine br_var (fun _h => ?_) (fun _h => ?_)) <;> (try simp only [_h])) | fail)
        · rw [_h] at h1; rw [← ho.done h1 (by omega)]
        · rw [_h] at h1
          obtain ⟨h2, h3⟩ := ho.step h1 (by omega)
          exact ⟨out ++ [best], ⟨h3, h2⟩, by simp⟩
end Go.Proofs.Ytedbjmonfbpefaa.Ev
