/- Plain facts on the steps of a motor: nearness, bounds, signs, the ends -/
import Derived.Test.YtleohgnnbpicjaaDdaPulse
namespace Go.Proofs.Ytleohgnnbpicjaa

theorem ab_neg (x : Int) : ab (-x) = ab x := by unfold ab; omega
theorem dom4_neg (a b c d : Int) : dom4 (-a) (-b) (-c) (-d) = dom4 a b c d := by unfold dom4; rw [ab_neg, ab_neg, ab_neg, ab_neg]
theorem ddaValid_neg (a b c d : Int) : ddaValid (-a) (-b) (-c) (-d) = ddaValid a b c d := by
  unfold ddaValid; rw [Bool.eq_iff_iff]; simp; omega
theorem ddaDom_neg (a b c d : Int) : ddaDom (-a) (-b) (-c) (-d) = ddaDom a b c d := by
  unfold ddaDom; rw [ddaValid_neg, dom4_neg]

theorem atI_neg (n i x : Int) (hn : 1 ≤ n) : atI n i (-x) = - atI n i x := by
  unfold atI
  rw [ab_neg]
  by_cases h0 : x = 0
  · subst h0
    have e : (2 * i * ab 0 + n) / (2 * n) = 0 := by
      have : ab 0 = 0 := by unfold ab; omega
      rw [this, Int.mul_zero, Int.zero_add]
      exact Int.ediv_eq_zero_of_lt (by omega) (by omega)
    rw [e]; simp
  · by_cases h : x < 0
    · rw [if_neg (by omega), if_pos h]; omega
    · rw [if_pos (by omega), if_neg h]
theorem atM_neg (n i x : Int) (hn : 0 ≤ n) : atM n i (-x) = - atM n i x := by
  unfold atM
  split
  · rfl
  · exact atI_neg n _ x (by omega)

/-- The size of the steps: k with 2 n k - n ≤ 2 i |x| ≤ 2 n k + n. -/
theorem at_near (n i x : Int) (hn : 1 ≤ n) : 2 * n * ((2 * i * ab x + n) / (2 * n)) - n ≤ 2 * i * ab x ∧ 2 * i * ab x ≤ 2 * n * ((2 * i * ab x + n) / (2 * n)) + n := by
  have h1 := Int.mul_ediv_add_emod (2 * i * ab x + n) (2 * n)
  have h2 := Int.emod_nonneg (2 * i * ab x + n) (b := 2 * n) (by omega)
  have h3 := Int.emod_lt_of_pos (2 * i * ab x + n) (b := 2 * n) (by omega)
  omega
theorem atI_near (n i x : Int) (hn : 1 ≤ n) : -n ≤ 2 * atI n i x * n - 2 * i * x ∧ 2 * atI n i x * n - 2 * i * x ≤ n := by
  have h := at_near n i x hn
  unfold atI
  generalize hq : (2 * i * ab x + n) / (2 * n) = q at *
  have e1 : 2 * n * q = 2 * q * n := by rw [Int.mul_assoc, Int.mul_assoc, Int.mul_comm n q]
  by_cases hx : x < 0
  · rw [if_pos hx]
    have e2 : ab x = -x := by unfold ab; omega
    rw [e2, Int.mul_neg] at h
    have e3 : 2 * -q * n = -(2 * q * n) := by rw [Int.mul_neg, Int.neg_mul]
    rw [e3]
    omega
  · rw [if_neg hx]
    have e2 : ab x = x := by unfold ab; omega
    rw [e2] at h
    omega
/-- A motor makes no more steps than it has. -/
theorem at_le (n i x : Int) (hn : 1 ≤ n) (h0 : 0 ≤ i) (h1 : i ≤ n) : 0 ≤ (2 * i * ab x + n) / (2 * n) ∧ (2 * i * ab x + n) / (2 * n) ≤ ab x := by
  have hab : 0 ≤ ab x := by unfold ab; omega
  constructor
  · exact Int.ediv_nonneg (by have : 0 ≤ 2 * i * ab x := Int.mul_nonneg (by omega) hab; omega) (by omega)
  · have h2 : 2 * i * ab x ≤ 2 * n * ab x := Int.mul_le_mul_of_nonneg_right (by omega) hab
    have h3 : (2 * i * ab x + n) / (2 * n) ≤ (n + ab x * (2 * n)) / (2 * n) := Int.ediv_le_ediv (by omega) (by rw [Int.mul_comm (ab x)]; omega)
    have h4 : n / (2 * n) = 0 := Int.ediv_eq_zero_of_lt (by omega) (by omega)
    rw [Int.add_mul_ediv_right _ _ (by omega), h4] at h3
    omega
theorem atI_le (n i x : Int) (hn : 1 ≤ n) (h0 : 0 ≤ i) (h1 : i ≤ n) (hx : -16777216 ≤ x ∧ x ≤ 16777216) : -16777216 ≤ atI n i x ∧ atI n i x ≤ 16777216 := by
  have h := at_le n i x hn h0 h1
  have h2 := ab_in (B := 16777216) hx.1 hx.2
  unfold atI
  split <;> omega
theorem atI_full (n x : Int) (hn : 1 ≤ n) : atI n n x = x := by
  unfold atI
  have e : (2 * n * ab x + n) / (2 * n) = ab x := by
    rw [Int.add_comm, Int.mul_comm (2 * n), Int.add_mul_ediv_right _ _ (by omega), Int.ediv_eq_zero_of_lt (by omega) (by omega)]; omega
  rw [e]; unfold ab
  split <;> omega
theorem atI_none (n x : Int) (hn : 1 ≤ n) : atI n 0 x = 0 := by
  unfold atI
  have e : (2 * 0 * ab x + n) / (2 * n) = 0 := by
    rw [Int.mul_zero, Int.zero_mul, Int.zero_add]; exact Int.ediv_eq_zero_of_lt (by omega) (by omega)
  rw [e]; simp
end Go.Proofs.Ytleohgnnbpicjaa
