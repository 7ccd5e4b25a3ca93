/- Sums of products of binomials. -/
import Derived.Test.YtedbjmonfbpefaaFnD
set_option linter.unusedVariables false
set_option linter.unusedSimpArgs false
namespace Go.Proofs.Ytedbjmonfbpefaa.Ev
open Go Go.Proofs

def sumN (T : Nat → Nat) : Nat → Nat
  | 0 => 0
  | j + 1 => sumN T j + T j
theorem sumN_shift (T : Nat → Nat) : ∀ j, sumN T (j + 1) = T 0 + sumN (fun i => T (i + 1)) j
  | 0 => by simp [sumN]
  | j + 1 => by rw [sumN, sumN_shift T j, sumN]; omega
theorem sumN_congr {T U : Nat → Nat} : ∀ j, (∀ i, i < j → T i = U i) → sumN T j = sumN U j
  | 0, _ => rfl
  | j + 1, h => by rw [sumN, sumN, sumN_congr j fun i hi => h i (by omega), h j (by omega)]
theorem sumN_zero {T : Nat → Nat} (k : Nat) : ∀ m, (∀ i, k ≤ i → T i = 0) → sumN T (k + m) = sumN T k
  | 0, _ => rfl
  | m + 1, h => by rw [← Nat.add_assoc, sumN, sumN_zero k m h, h (k + m) (by omega)]; omega

def cv (f g : Nat → Nat) : Nat → Nat
  | 0 => f 0 * g 0
  | k + 1 => f 0 * g (k + 1) + cv (fun j => f (j + 1)) g k
theorem cv_sum (g : Nat → Nat) : ∀ (k : Nat) (f : Nat → Nat), cv f g k = sumN (fun j => f j * g (k - j)) (k + 1)
  | 0, f => by simp [cv, sumN]
  | k + 1, f => by
    rw [sumN_shift, cv, cv_sum g k]
    congr 1
    exact sumN_congr _ fun i hi => by
      have : k + 1 - (i + 1) = k - i := by omega
      rw [this]
theorem cv_add (f f' g : Nat → Nat) : ∀ (k : Nat) (f f' : Nat → Nat), cv (fun j => f j + f' j) g k = cv f g k + cv f' g k
  | 0, f, f' => by simp [cv, Nat.add_mul]
  | k + 1, f, f' => by
    rw [cv, cv, cv, cv_add f f' g k, Nat.add_mul]; omega
theorem cv_zero (g : Nat → Nat) : ∀ k, cv (fun _ => 0) g k = 0
  | 0 => by simp [cv]
  | k + 1 => by rw [cv, cv_zero g k]; simp
theorem vander (m : Nat) : ∀ n k, cv (bin n) (bin m) k = bin (n + m) k
  | 0, 0 => by simp [cv, bin_zero]
  | 0, k + 1 => by
    rw [cv, show (fun j => bin 0 (j + 1)) = fun _ => 0 from rfl, cv_zero, bin_zero]; simp
  | n + 1, 0 => by simp [cv, bin_zero]
  | n + 1, k + 1 => by
    rw [cv, show (fun j => bin (n + 1) (j + 1)) = fun j => bin n j + bin n (j + 1) from rfl, cv_add (bin n) (bin n), vander m n k]
    have h := vander m n (k + 1)
    rw [cv] at h
    rw [bin_zero] at h
    rw [show n + 1 + m = (n + m) + 1 by omega, show bin (n + m + 1) (k + 1) = bin (n + m) k + bin (n + m) (k + 1) from rfl, ← h, bin_zero]
    omega

/-- From this table on. -/
def tlT (a b c d j : Nat) : Nat := exW (a + j) (b - j) (c - j) (d + j)
def tlW (a b c d : Nat) : Nat := sumN (tlT a b c d) (min b c + 1)
theorem tlW_step (a b c d : Nat) (hb : 0 < b) (hc : 0 < c) : tlW a b c d = exW a b c d + tlW (a + 1) (b - 1) (c - 1) (d + 1) := by
  unfold tlW
  have : min b c = min (b - 1) (c - 1) + 1 := by omega
  rw [sumN_shift, this]
  congr 1
  exact sumN_congr _ fun i hi => by
    unfold tlT
    rw [show a + (i + 1) = a + 1 + i by omega, show b - (i + 1) = b - 1 - i by omega, show c - (i + 1) = c - 1 - i by omega, show d + (i + 1) = d + 1 + i by omega]
theorem tlW_last (a b c d : Nat) (h : b = 0 ∨ c = 0) : tlW a b c d = exW a b c d := by
  unfold tlW
  rw [show min b c = 0 by omega]
  simp [sumN, tlT]
theorem tlW_all_a (b c d : Nat) : tlW 0 b c d = allW 0 b c d := by
  unfold tlW allW
  have h1 : sumN (tlT 0 b c d) (min b c + 1) = sumN (fun j => bin b j * bin (c + d) (c - j)) (min b c + 1) := sumN_congr _ fun i hi => by
    unfold tlT exW
    rw [show 0 + i + (b - i) = b by omega, show c - i + (d + i) = c + d by omega, Nat.zero_add]
  rw [h1]
  have h2 : sumN (fun j => bin b j * bin (c + d) (c - j)) (min b c + 1) = sumN (fun j => bin b j * bin (c + d) (c - j)) (c + 1) := by
    rcases Nat.le_total c b with h | h
    · rw [Nat.min_eq_right h]
    · rw [Nat.min_eq_left h]
      have := sumN_zero (T := fun j => bin b j * bin (c + d) (c - j)) (b + 1) (c - b) fun i hi => by rw [bin_gt b i (by omega)]; simp
      rw [← this]
      congr 1
      omega
  rw [h2, ← cv_sum, vander]
  congr 1 <;> omega
theorem tlW_all_d (a b c : Nat) : tlW a b c 0 = allW a b c 0 := by
  unfold tlW allW
  have h1 : sumN (tlT a b c 0) (min b c + 1) = sumN (fun j => bin c j * bin (a + b) (b - j)) (min b c + 1) := sumN_congr _ fun i hi => by
    unfold tlT exW
    rw [show a + i + (b - i) = a + b by omega, show c - i + (0 + i) = c by omega, ← bin_sym c i (by omega), bin_sym (a + b) (a + i) (by omega), Nat.mul_comm]
    congr 2
    omega
  rw [h1]
  have h2 : sumN (fun j => bin c j * bin (a + b) (b - j)) (min b c + 1) = sumN (fun j => bin c j * bin (a + b) (b - j)) (b + 1) := by
    rcases Nat.le_total b c with h | h
    · rw [Nat.min_eq_left h]
    · rw [Nat.min_eq_right h]
      have := sumN_zero (T := fun j => bin c j * bin (a + b) (b - j)) (c + 1) (b - c) fun i hi => by rw [bin_gt c i (by omega)]; simp
      rw [← this]
      congr 1
      omega
  rw [h2, ← cv_sum, vander, bin_sym (a + b + c + 0) (a + c) (by omega)]
  congr 1 <;> omega
end Go.Proofs.Ytedbjmonfbpefaa.Ev
