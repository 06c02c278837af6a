/- Plain facts on the squares and intervals of a block: steps, ends, reversal, monotony -/
import Derived.Test.YtkiadcgdmeebmaaRmpDur
namespace Go.Proofs.Ytkiadcgdmeebmaa

theorem sqI_step (n ac en cr ex i : Int) (a0 : 1 ≤ ac) : sqI n ac en cr ex (i + 1) - sqI n ac en cr ex i ≤ 2 * ac ∧ sqI n ac en cr ex i - sqI n ac en cr ex (i + 1) ≤ 2 * ac := by
  unfold sqI
  have e1 : 2 * ac * (i + 1) = 2 * ac * i + 2 * ac := by rw [Int.mul_add]; omega
  have e2 : 2 * ac * (n + 1 - i) = 2 * ac * (n + 1 - (i + 1)) + 2 * ac := by
    rw [show n + 1 - i = (n + 1 - (i + 1)) + 1 from by omega, Int.mul_add]; omega
  rw [e1, e2]
  generalize 2 * ac * i = x
  generalize 2 * ac * (n + 1 - (i + 1)) = y
  omega

theorem sqI_first (n ac en cr ex : Int) (a0 : 1 ≤ ac) (h0 : en ≤ cr) (h : en - ex ≤ 2 * ac * n) : sqI n ac en cr ex 1 - en ≤ 2 * ac ∧ en - sqI n ac en cr ex 1 ≤ 2 * ac := by
  unfold sqI
  rw [show n + 1 - 1 = n from by omega]
  generalize 2 * ac * n = y at *
  omega

theorem sqI_last (n ac en cr ex : Int) (a0 : 1 ≤ ac) (h0 : ex ≤ cr) (h : ex - en ≤ 2 * ac * n) : sqI n ac en cr ex n - ex ≤ 2 * ac ∧ ex - sqI n ac en cr ex n ≤ 2 * ac := by
  unfold sqI
  rw [show n + 1 - n = 1 from by omega]
  generalize 2 * ac * n = y at *
  omega

/-- The square before step i: that of the step before, and Entry at the first. -/
def lastI (n ac en cr ex i : Int) : Int := if i = 1 then en else sqI n ac en cr ex (i - 1)
theorem lastI_next (n ac en cr ex i : Int) (h : 1 ≤ i) : lastI n ac en cr ex (i + 1) = sqI n ac en cr ex i := by
  unfold lastI; rw [if_neg (by omega), show i + 1 - 1 = i from by omega]
theorem lastI_gap (n ac en cr ex i : Int) (a0 : 1 ≤ ac) (h0 : en ≤ cr) (h : en - ex ≤ 2 * ac * n ∨ i ≠ 1) : sqI n ac en cr ex i - lastI n ac en cr ex i ≤ 2 * ac ∧ lastI n ac en cr ex i - sqI n ac en cr ex i ≤ 2 * ac := by
  unfold lastI
  by_cases e : i = 1
  · subst e
    rw [if_pos rfl]
    exact sqI_first n ac en cr ex a0 h0 (by omega)
  · rw [if_neg e]
    have := sqI_step n ac en cr ex (i - 1) a0
    rw [show i - 1 + 1 = i from by omega] at this
    exact this

theorem sqI_turn (n ac en cr ex i : Int) : sqI n ac ex cr en (n + 1 - i) = sqI n ac en cr ex i := by
  unfold sqI
  rw [show n + 1 - (n + 1 - i) = i from by omega]
  generalize 2 * ac * i = x
  generalize 2 * ac * (n + 1 - i) = y
  omega

def sumTo (f : Nat → Int) : Nat → Int
  | 0 => 0
  | k + 1 => sumTo f k + f k
theorem sumTo_front (f : Nat → Int) : ∀ k, sumTo f (k + 1) = f 0 + sumTo (fun i => f (i + 1)) k
  | 0 => by simp [sumTo]
  | k + 1 => by
    rw [sumTo, sumTo_front f k, sumTo]; omega
theorem sumTo_congr (f g : Nat → Int) : ∀ k, (∀ i, i < k → f i = g i) → sumTo f k = sumTo g k
  | 0, _ => rfl
  | k + 1, h => by rw [sumTo, sumTo, sumTo_congr f g k (fun i hi => h i (by omega)), h k (by omega)]
theorem sumTo_turn : ∀ (k : Nat) (f : Nat → Int), sumTo (fun i => f (k - 1 - i)) k = sumTo f k
  | 0, _ => rfl
  | k + 1, f => by
    rw [sumTo_front]
    have := sumTo_turn k f
    rw [sumTo, ← this]
    simp only [Nat.add_sub_cancel, Nat.sub_zero]
    rw [sumTo_congr (fun i => f (k - (i + 1))) (fun i => f (k - 1 - i)) k (fun i hi => by show f _ = f _; congr 1; omega)]
    omega
theorem durS_sum (n ac en cr ex t : Int) : ∀ k, durS n ac en cr ex t k = sumTo (fun i => ivl (sqI n ac en cr ex ((i : Int) + 1)) t) k
  | 0 => rfl
  | k + 1 => by rw [durS, durS_sum n ac en cr ex t k, sumTo]
theorem durS_turn (N : Nat) (ac en cr ex t : Int) : durS (N : Int) ac ex cr en t N = durS (N : Int) ac en cr ex t N := by
  rw [durS_sum, durS_sum, ← sumTo_turn N (fun i => ivl (sqI (N : Int) ac en cr ex ((i : Int) + 1)) t)]
  refine sumTo_congr _ _ N (fun i hi => ?_)
  show ivl _ _ = ivl _ _
  rw [← sqI_turn (N : Int) ac ex cr en]
  congr 2
  omega
theorem durN_turn (b : Bool) (n ac en cr ex t : Int) (h : 0 ≤ n) : durN b n ac ex cr en t = durN b n ac en cr ex t := by
  unfold durN
  obtain ⟨N, rfl⟩ := Int.eq_ofNat_of_zero_le h
  rw [Int.toNat_natCast, durS_turn]
theorem blkValid_turn (a b c d ac en cr ex : Int) : blkValid a b c d ac ex cr en = blkValid a b c d ac en cr ex := by
  unfold blkValid
  congr 1
  rw [Bool.eq_iff_iff]; simp; omega
theorem blkN_turn (a b c d ac en cr ex : Int) : blkN a b c d ac ex cr en = blkN a b c d ac en cr ex := by unfold blkN; rw [blkValid_turn]

theorem isq_mono (M N : Nat) (h : M ≤ N) (hN : N < 18446744073709551616) : isq M ≤ isq N := by
  obtain ⟨a, _⟩ := isq_spec M (by omega)
  obtain ⟨_, b⟩ := isq_spec N hN
  rcases Nat.lt_or_ge (isq N) (isq M) with g | g
  · have : (isq N + 1) * (isq N + 1) ≤ isq M * isq M := Nat.mul_le_mul (by omega) (by omega)
    omega
  · exact g
theorem ivl_mono (s s' t : Int) (h0 : 1 ≤ s) (h : s ≤ s') (h1 : s' ≤ 1099511627776) (t0 : 1 ≤ t) : ivl s' t ≤ ivl s t := by
  obtain ⟨S, rfl⟩ := Int.eq_ofNat_of_zero_le (by omega : 0 ≤ s)
  obtain ⟨S', rfl⟩ := Int.eq_ofNat_of_zero_le (by omega : 0 ≤ s')
  have hp := isq_pos S (by omega) (by omega)
  have hm := isq_mono S S' (by omega) (by omega)
  unfold ivl
  rw [Int.toNat_natCast, Int.toNat_natCast]
  generalize (isq S) = v at *
  generalize (isq S') = u at *
  -- (t + u - 1) / u ≤ q where q * v ≥ t
  have e : (v : Int) * ((t + v - 1) / v) + (t + v - 1) % v = t + v - 1 := Int.mul_ediv_add_emod _ _
  have r1 := Int.emod_lt_of_pos (t + v - 1) (by omega : 0 < (v : Int))
  generalize (t + v - 1) / (v : Int) = q at *
  have hq : t ≤ v * q := by omega
  have q0 : 0 ≤ q := by
    rcases (by omega : q < 0 ∨ 0 ≤ q) with g | g
    · have : (v : Int) * q ≤ v * 0 := Int.mul_le_mul_of_nonneg_left (by omega) (by omega)
      omega
    · exact g
  have hq2 : (v : Int) * q ≤ u * q := Int.mul_le_mul_of_nonneg_right (by omega) q0
  have h5 : (t + u - 1) / (u : Int) < q + 1 := by
    rw [Int.ediv_lt_iff_lt_mul (by omega)]
    rw [Int.add_mul, Int.mul_comm q]
    omega
  omega
theorem sqI_slow (n ac en cr cr' ex i : Int) (h : cr' ≤ cr) : sqI n ac en cr' ex i ≤ sqI n ac en cr ex i := by
  unfold sqI
  generalize 2 * ac * i = x
  generalize 2 * ac * (n + 1 - i) = y
  omega
end Go.Proofs.Ytkiadcgdmeebmaa
