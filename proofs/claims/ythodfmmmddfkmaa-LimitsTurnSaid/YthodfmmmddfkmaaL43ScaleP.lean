/- LimitsScale and LimitsTurn: the plain facts -/
import Derived.Test.YthodfmmmddfkmaaL43HoldP
namespace Go.Proofs.Ythodfmmmddfkmaa
open Go.RowKit
set_option linter.unusedVariables false

theorem ab_mul (x s : Int) (hs : 0 ≤ s) : ab (x * s) = ab x * s := by
  unfold ab
  rcases Int.le_total 0 x with h | h
  · have h1 : 0 ≤ x * s := Int.mul_nonneg h hs
    rw [show max (x * s) (-(x * s)) = x * s by omega, show max x (-x) = x by omega]
  · have h1 : 0 ≤ (-x) * s := Int.mul_nonneg (by omega) hs
    rw [Int.neg_mul] at h1
    rw [show max (x * s) (-(x * s)) = -(x * s) by omega, show max x (-x) = -x by omega, Int.neg_mul]
theorem ab_sub (x y : Int) : ab (x - y) = ab (y - x) := by unfold ab; omega
theorem mul_zero_iff {x s : Int} (hs : 1 ≤ s) : x * s = 0 ↔ x = 0 := by
  constructor
  · intro h
    rcases Int.mul_eq_zero.1 h with h | h
    · exact h
    · omega
  · intro h; rw [h, Int.zero_mul]
theorem max_mul {x y s : Int} (hs : 0 ≤ s) : max (x * s) (y * s) = max x y * s := by
  rcases Int.le_total x y with h | h
  · have := Int.mul_le_mul_of_nonneg_right h hs
    rw [show max x y = y by omega, show max (x * s) (y * s) = y * s by omega]
  · have := Int.mul_le_mul_of_nonneg_right h hs
    rw [show max x y = x by omega, show max (x * s) (y * s) = x * s by omega]
theorem dom4_mul (a b c d s : Int) (hs : 0 ≤ s) : dom4 (a * s) (b * s) (c * s) (d * s) = dom4 a b c d * s := by
  unfold dom4
  rw [ab_mul _ _ hs, ab_mul _ _ hs, ab_mul _ _ hs, ab_mul _ _ hs, ← max_mul hs, ← max_mul hs, ← max_mul hs, ← max_mul hs, Int.zero_mul]
theorem ddaDom_mul (a b c d s : Int) (hs : 0 ≤ s) (hv : ddaValid a b c d = true) (hv' : ddaValid (a * s) (b * s) (c * s) (d * s) = true) : ddaDom (a * s) (b * s) (c * s) (d * s) = ddaDom a b c d * s := by
  unfold ddaDom
  rw [if_pos hv, if_pos hv', dom4_mul _ _ _ _ _ hs]
theorem limC_mul (a b c d s : Int) : ∀ k, limC (a * s) (b * s) (c * s) (d * s) k = limC a b c d k * s
  | 0 => rfl
  | 1 => rfl
  | 2 => rfl
  | _ + 3 => rfl
theorem lesser_mul (v p n c s : Int) (hs : 1 ≤ s) : lesser v p (n * s) (c * s) = lesser v p n c := by
  unfold lesser
  rw [← Int.mul_assoc, Int.mul_ediv_mul_of_pos_left _ _ (by omega)]
theorem limK_mul (o : Nat) (f : Nat → Int) (n cap a b c d s : Int) (hs : 1 ≤ s) : ∀ k, limK o f (n * s) cap (a * s) (b * s) (c * s) (d * s) k = limK o f n cap a b c d k
  | 0 => rfl
  | k + 1 => by
    show lim1 _ _ _ _ = lim1 _ _ _ _
    rw [limK_mul o f n cap a b c d s hs k, limC_mul]
    unfold lim1
    by_cases h : limC a b c d k = 0
    · rw [if_pos h, if_pos ((mul_zero_iff hs).2 h)]
    · rw [if_neg h, if_neg (fun e => h ((mul_zero_iff hs).1 e)), ab_mul _ _ (by omega), lesser_mul _ _ _ _ _ hs]
theorem jun1_mul (v j n k p q s r : Int) (hs : 1 ≤ s) (hr : 1 ≤ r) : jun1 v j (n * s) (k * r) (p * s) (q * r) = jun1 v j n k p q := by
  unfold jun1
  have e : p * s * (k * r) - q * r * (n * s) = (p * k - q * n) * (s * r) := by
    rw [Int.sub_mul]
    have e1 : p * s * (k * r) = p * k * (s * r) := by rw [Int.mul_assoc, Int.mul_assoc, Int.mul_left_comm s k r]
    have e2 : q * r * (n * s) = q * n * (s * r) := by rw [Int.mul_assoc, Int.mul_assoc, Int.mul_left_comm r n s, Int.mul_comm r s]
    rw [e1, e2]
  have hsr : 1 ≤ s * r := by
    have := Int.mul_le_mul hs hr (by omega) (by omega)
    omega
  rw [e, ab_mul _ _ (by omega)]
  generalize ab (p * k - q * n) = D
  by_cases h : D = 0
  · rw [if_pos h, if_pos ((mul_zero_iff hsr).2 h)]
  · rw [if_neg h, if_neg (fun e => h ((mul_zero_iff hsr).1 e))]
    unfold lesser
    have e3 : j * (n * s) * (k * r) = j * n * k * (s * r) := by
      rw [← Int.mul_assoc j n s, Int.mul_assoc (j * n) s (k * r), Int.mul_left_comm s k r, ← Int.mul_assoc (j * n) k (s * r)]
    rw [e3, Int.mul_ediv_mul_of_pos_left _ _ (by omega)]
theorem junK_mul (f : Nat → Int) (n k a b c d a' b' c' d' s r : Int) (hs : 1 ≤ s) (hr : 1 ≤ r) : ∀ i, junK f (n * s) (k * r) (a * s) (b * s) (c * s) (d * s) (a' * r) (b' * r) (c' * r) (d' * r) i = junK f n k a b c d a' b' c' d' i
  | 0 => rfl
  | i + 1 => by
    show jun1 _ _ _ _ _ _ = jun1 _ _ _ _ _ _
    rw [junK_mul f n k a b c d a' b' c' d' s r hs hr i, limC_mul, limC_mul, jun1_mul _ _ _ _ _ _ _ _ hs hr]
theorem jun1_swap (v j n k p q : Int) : jun1 v j k n q p = jun1 v j n k p q := by
  unfold jun1
  rw [ab_sub (q * n) (p * k)]
  unfold lesser
  rw [Int.mul_assoc j k n, Int.mul_comm k n, ← Int.mul_assoc]
theorem junK_swap (f : Nat → Int) (n k a b c d a' b' c' d' : Int) : ∀ i, junK f k n a' b' c' d' a b c d i = junK f n k a b c d a' b' c' d' i
  | 0 => rfl
  | i + 1 => by
    show jun1 _ _ _ _ _ _ = jun1 _ _ _ _ _ _
    rw [junK_swap f n k a b c d a' b' c' d' i, jun1_swap]
theorem junK_same (f : Nat → Int) (n a b c d : Int) : ∀ i, junK f n n a b c d a b c d i = 1048576
  | 0 => rfl
  | i + 1 => by
    show jun1 _ _ _ _ _ _ = _
    unfold jun1
    rw [Int.sub_self, if_pos (by rfl), junK_same f n a b c d i]
theorem ddaValid_neg (a b c d : Int) : ddaValid (-a) (-b) (-c) (-d) = ddaValid a b c d := by
  unfold ddaValid; rw [Bool.eq_iff_iff]; simp; omega
theorem ddaDom_neg (a b c d : Int) : ddaDom (-a) (-b) (-c) (-d) = ddaDom a b c d := by
  unfold ddaDom
  rw [ddaValid_neg]
  have e : ∀ x : Int, ab (-x) = ab x := fun x => by unfold ab; omega
  unfold dom4
  rw [e, e, e, e]
theorem limC_neg (a b c d : Int) : ∀ k, limC (-a) (-b) (-c) (-d) k = -limC a b c d k
  | 0 => rfl
  | 1 => rfl
  | 2 => rfl
  | _ + 3 => rfl
/-- Where motor i makes the dominant count and turns back, twice the junction speed is at most its jerk. -/
theorem junK_back (f : Nat → Int) (n a b c d : Int) (hn : 1 ≤ n) (i : Nat) (hi : i < 4) (h : ab (limC a b c d i) = n) (hf : 0 ≤ f (7 * i + 4)) : 2 * junK f n n a b c d (-a) (-b) (-c) (-d) 4 ≤ f (7 * i + 4) := by
  have e : junD n n a b c d (-a) (-b) (-c) (-d) i = 2 * (n * n) := by
    unfold junD
    rw [limC_neg, Int.neg_mul, show limC a b c d i * n - -(limC a b c d i * n) = (2 * limC a b c d i) * n by rw [Int.mul_assoc]; omega, ab_mul _ _ (by omega), show ab (2 * limC a b c d i) = 2 * n by rw [← h]; unfold ab; omega, Int.mul_assoc]
  have hnn : 1 ≤ n * n := by
    have := Int.mul_le_mul hn hn (by omega) (by omega)
    omega
  have h1 := junK_step f n n a b c d (-a) (-b) (-c) (-d) i hi (by omega)
  rw [e] at h1
  generalize junK f n n a b c d (-a) (-b) (-c) (-d) 4 = v at *
  generalize f (7 * i + 4) = j at *
  have h2 := Int.mul_le_of_le_ediv (by omega : 0 < 2 * (n * n)) h1
  rw [← Int.mul_assoc v 2 (n * n)] at h2
  have h3 := Int.le_of_mul_le_mul_right h2 (by omega)
  omega
end Go.Proofs.Ythodfmmmddfkmaa
