/- Plain facts on a body's next temperature: monotone in the temperature and in the duty; between Ambient and Top; without heating not hotter -/
import Derived.Test.YthpomgkeoogamaaThStep
namespace Go.Proofs.Ythpomgkeoogamaa

theorem thNext_t (p l m a s t d : Int) (hl : 1 ≤ l) (hm : l ≤ m) (h : s ≤ t) : thNext p l m a s d ≤ thNext p l m a t d := by
  unfold thNext
  have hT : thT s ≤ thT t := by unfold thT; omega
  generalize thT s = S at *
  generalize thT t = T at *
  generalize thD d = D
  have h1 : l * (T - S) ≤ m * (T - S) := Int.mul_le_mul_of_nonneg_right hm (by omega)
  have e1 : l * (S - a) = l * (T - a) - l * (T - S) := by rw [← Int.mul_sub]; congr 1; omega
  have h2 : (D * p - l * (S - a)) / m ≤ (D * p - l * (T - a) + (T - S) * m) / m := Int.ediv_le_ediv (by omega) (by rw [e1, Int.mul_comm (T - S) m]; omega)
  rw [Int.add_mul_ediv_right _ _ (by omega)] at h2
  omega
theorem thNext_d (p l m a t c d : Int) (hp : 0 ≤ p) (hm : 1 ≤ m) (h : c ≤ d) : thNext p l m a t c ≤ thNext p l m a t d := by
  unfold thNext
  have hD : thD c ≤ thD d := by unfold thD; omega
  have h1 : thD c * p ≤ thD d * p := Int.mul_le_mul_of_nonneg_right hD hp
  have h2 := Int.ediv_le_ediv (a := thD c * p - l * (thT t - a)) (b := thD d * p - l * (thT t - a)) (c := m) (by omega) (by omega)
  omega
theorem thStep_t (p l m a s t d : Int) (h : s ≤ t) : thStep p l m a s d ≤ thStep p l m a t d := by
  unfold thStep
  split
  · rename_i hv
    simp [thValid] at hv
    exact thNext_t p l m a s t d (by omega) (by omega) h
  · omega
theorem thStep_d (p l m a t c d : Int) (h : c ≤ d) : thStep p l m a t c ≤ thStep p l m a t d := by
  unfold thStep
  split
  · rename_i hv
    simp [thValid] at hv
    exact thNext_d p l m a t c d (by omega) (by omega) h
  · omega
/-- At the ambient temperature nothing changes without heating. -/
theorem thStep_rest (p l m a d : Int) (hv : thValid p l m a = true) (hd : d ≤ 0) : thStep p l m a a d = a := by
  unfold thStep thNext; rw [if_pos hv]
  simp [thValid] at hv
  have e1 : thT a = a := by unfold thT; omega
  have e2 : thD d = 0 := by unfold thD; omega
  rw [e1, e2]; simp
theorem thStep_cool (p l m a t : Int) (hv : thValid p l m a = true) (h : a ≤ t) : a ≤ thStep p l m a t 0 ∧ thStep p l m a t 0 ≤ t := by
  constructor
  · have h1 := thStep_t p l m a a t 0 h
    rw [thStep_rest p l m a 0 hv (by omega)] at h1
    exact h1
  · unfold thStep thNext; rw [if_pos hv]
    simp [thValid] at hv
    have e2 : thD 0 = 0 := by unfold thD; omega
    have e1 : a ≤ thT t := by unfold thT; omega
    have e3 : thT t ≤ t := by unfold thT; omega
    rw [e2]
    have h1 : 0 ≤ l * (thT t - a) := Int.mul_nonneg (by omega) (by omega)
    have h2 : (0 * p - l * (thT t - a)) / m ≤ 0 / m := Int.ediv_le_ediv (by omega) (by omega)
    simp at h2 ⊢
    omega
/-- Between Ambient and Top a step stays. -/
theorem thStep_between (p l m a t d : Int) (hv : thValid p l m a = true) (h0 : a ≤ t) (h1 : t ≤ thTop p l m a) : a ≤ thStep p l m a t d ∧ thStep p l m a t d ≤ thTop p l m a := by
  have hb := hv
  simp [thValid] at hb
  have htop : thTop p l m a = a - (-255 * p) / l := by unfold thTop; rw [if_pos hv]
  have q := th_quo (-255 * p) l 267386880 (by omega) (by omega) (by omega) (by omega)
  have hT : thT t = t := by unfold thT; rw [htop] at h1; omega
  constructor
  · have k1 := thStep_d p l m a t 0 (max d 0) (by omega)
    have k2 : thStep p l m a t (max d 0) = thStep p l m a t d := by
      unfold thStep thNext
      rw [show thD (max d 0) = thD d from by unfold thD; omega]
    have k3 := (thStep_cool p l m a t hv h0).1
    omega
  · unfold thStep thNext; rw [if_pos hv, hT]
    have hD : 0 ≤ thD d ∧ thD d ≤ 255 := by unfold thD; omega
    -- X = Top - a; l * X ≥ 255 * p
    generalize hX : thTop p l m a - a = X at *
    have hXe : X = - ((-255 * p) / l) := by omega
    have hlX : 255 * p ≤ l * X := by
      have := Int.ediv_mul_le (-255 * p) (b := l) (by omega)
      have e : l * X = - ((-255 * p) / l * l) := by rw [hXe, Int.mul_neg, Int.mul_comm l]
      omega
    have k1 : thD d * p ≤ 255 * p := Int.mul_le_mul_of_nonneg_right hD.2 (by omega)
    have k2 : l * (X - (t - a)) ≤ m * (X - (t - a)) := Int.mul_le_mul_of_nonneg_right (by omega) (by omega)
    have k3 : l * (X - (t - a)) = l * X - l * (t - a) := Int.mul_sub _ _ _
    have k4 : (thD d * p - l * (t - a)) / m ≤ (0 + (X - (t - a)) * m) / m := Int.ediv_le_ediv (by omega) (by rw [Int.mul_comm (X - (t - a)) m]; omega)
    rw [Int.add_mul_ediv_right _ _ (by omega)] at k4
    simp at k4
    omega
end Go.Proofs.Ythpomgkeoogamaa
