/- What Round returns, in the program and in the reference, for all numbers -/
import Derived.Test.YtkiadcgdmeebmaaProg
import Derived.WalkKit
import Derived.WalkLawsBesides
import Derived.IntWalk
import Derived.Outline
import Derived.Lib.Hide
import Derived.Test.YtkiadcgdmeebmaaNumFloor
namespace Go.Proofs.Ytkiadcgdmeebmaa
open Go.RowKit
set_option linter.unusedVariables false

/-- Is the part behind the point of a / b at least one half (q: the floor)? -/
def rndUp (a b q : Int) : Bool := decide ((0 < b ∧ b - (a - q * b) ≤ a - q * b) ∨ (b < 0 ∧ a - q * b ≤ b - (a - q * b)))
def rndQ (a b : Int) : Int := if flrBad a b then 0 else if rndUp a b (a.fdiv b) then a.fdiv b + 1 else a.fdiv b

/-- What is left behind the floor: from 0 to below the divisor, on the divisor's side. -/
theorem flr_left (a b : Int) : (0 < b → 0 ≤ a - a.fdiv b * b ∧ a - a.fdiv b * b < b) ∧ (b < 0 → b < a - a.fdiv b * b ∧ a - a.fdiv b * b ≤ 0) := by
  have e : a - a.fdiv b * b = a.fmod b := by
    have := Int.fmod_add_mul_fdiv a b
    rw [Int.mul_comm] at this
    omega
  rw [e]
  refine ⟨fun h => ⟨Int.fmod_nonneg_of_pos a h, Int.fmod_lt_of_pos a h⟩, fun h => ?_⟩
  have h1 : (-a).fmod (-b) = -(a.fmod b) := by rw [Int.fmod_def, Int.fmod_def, Int.neg_fdiv_neg, Int.neg_mul]; omega
  have h2 := Int.fmod_nonneg_of_pos (-a) (show 0 < -b by omega)
  have h3 := Int.fmod_lt_of_pos (-a) (show 0 < -b by omega)
  omega
theorem q_small (a b q : Int) (ha : -9223372036854775808 ≤ a ∧ a ≤ 9223372036854775807) (hb : 2 ≤ b ∨ b ≤ -2) (h : (0 ≤ a - q * b ∧ a - q * b < b) ∨ (b < a - q * b ∧ a - q * b ≤ 0)) : -4611686018427387904 ≤ q ∧ q ≤ 4611686018427387904 := by
  have hh : (0 ≤ q ∨ q < 0) := by omega
  rcases hb with hb | hb <;> rcases hh with hq | hq
  · have := Int.mul_le_mul_of_nonneg_left hb hq; omega
  · have := Int.mul_le_mul_of_nonneg_left hb (show 0 ≤ -q-1 by omega); rw [Int.sub_mul, Int.sub_mul, Int.neg_mul, Int.neg_mul] at this; omega
  · have := Int.mul_le_mul_of_nonneg_left (show 2 ≤ -b by omega) hq; rw [Int.mul_neg] at this; omega
  · have := Int.mul_le_mul_of_nonneg_left (show 2 ≤ -b by omega) (show 0 ≤ -q-1 by omega); rw [Int.sub_mul, Int.sub_mul, Int.neg_mul_neg, Int.neg_mul] at this; omega

/-- The nearest integer, for a divisor that is at least 1. -/
def rnd (a b : Int) : Int := (2 * a + b) / (2 * b)
theorem rnd_up (a b q : Int) (h0 : 0 ≤ a - q * b) (h1 : a - q * b < b) (h : b - (a - q*b) ≤ a - q * b) : rnd a b = q + 1 := by
  have e : 2 * a + b = (2 * (a - q * b) - b) + (q + 1) * (2 * b) := by
    rw [Int.add_mul, Int.mul_left_comm]; omega
  unfold rnd
  rw [e, Int.add_mul_ediv_right _ _ (by omega), Int.ediv_eq_zero_of_lt (by omega) (by omega)]; omega
theorem rnd_down (a b q : Int) (h0 : 0 ≤ a - q * b) (h1 : a - q * b < b) (h : ¬ b - (a - q*b) ≤ a - q * b) : rnd a b = q := by
  have e : 2 * a + b = (2 * (a - q * b) + b) + q * (2 * b) := by
    rw [Int.mul_left_comm]; omega
  unfold rnd
  rw [e, Int.add_mul_ediv_right _ _ (by omega), Int.ediv_eq_zero_of_lt (by omega) (by omega)]; omega
theorem rndQ_pos (a b : Int) (hb : 1 ≤ b) : rndQ a b = rnd a b := by
  have h1 := (flr_left a b).1 (by omega)
  unfold rndQ
  rw [if_neg (by unfold flrBad; simp; omega)]
  split
  · rename_i h
    unfold rndUp at h
    simp only [decide_eq_true_eq] at h
    exact (rnd_up a b _ h1.1 h1.2 (by omega)).symm
  · rename_i h
    unfold rndUp at h
    simp only [decide_eq_true_eq] at h
    exact (rnd_down a b _ h1.1 h1.2 (by omega)).symm

/-- The remainder as the code computes it. -/
theorem left_wraps (a b q : Int) (h : -9223372036854775808 ≤ a - q * b ∧ a - q * b ≤ 9223372036854775807) : RowKit.wrap64 (a - RowKit.wrap64 (q * b)) = a - q * b := by
  rw [← IntWalk.wrap64_in _ h]
  unfold RowKit.wrap64
  omega

theorem rnd_good (a b : Int) (ha : -9223372036854775808 ≤ a ∧ a ≤ 9223372036854775807) (hbi : -9223372036854775808 ≤ b ∧ b ≤ 9223372036854775807) (hg : flrBad a b = false) :
    ∃ q R : Int, flrQ a b = q ∧ flrE a b = 0 ∧ -9223372036854775808 ≤ q ∧ q ≤ 9223372036854775807 ∧ b ≠ 0 ∧ RowKit.wrap64 (a - RowKit.wrap64 (q * b)) = R ∧ R = a - q * b ∧ ((0 < b ∧ 0 ≤ R ∧ R < b) ∨ (b < 0 ∧ b < R ∧ R ≤ 0)) ∧ ((2 ≤ b ∨ b ≤ -2) → -4611686018427387904 ≤ q ∧ q ≤ 4611686018427387904) ∧ rndQ a b = if decide ((0 < b ∧ b - R ≤ R) ∨ (b < 0 ∧ R ≤ b - R)) then q + 1 else q := by
  have hb : b ≠ 0 := by intro h; subst h; simp [flrBad] at hg
  have hq := flrQ_in a b ha hbi
  have e : flrQ a b = a.fdiv b := by unfold flrQ; simp [hg]
  have hl := flr_left a b
  refine ⟨a.fdiv b, a - a.fdiv b * b, e, by unfold flrE; simp [hg, hb], by rw [← e]; exact hq.1, by rw [← e]; exact hq.2, hb, left_wraps a b _ (by omega), rfl, by omega, fun h2 => q_small a b _ ha h2 (by omega), ?_⟩
  unfold rndQ rndUp
  simp [hg]


set_option maxRecDepth 100000 in
theorem num_round_bad (a b : Int) (w : World) (ha : -9223372036854775808 ≤ a ∧ a ≤ 9223372036854775807) (hbi : -9223372036854775808 ≤ b ∧ b ≤ 9223372036854775807) (hg : flrBad a b = true) :
    Calls Try.prog 47 #[.int .i64 a, .int .i64 b] w fun e w' => e = .returned (.tuple #[.int .i64 (rndQ a b), .int .i64 (flrE a b)]) ∧ w = w' := by
  have k := fun w => num_floor a b w ha hbi
  have e1 : rndQ a b = 0 := by unfold rndQ; simp [hg]
  have e2 : flrQ a b = 0 := by unfold flrQ; simp [hg]
  have e3 : flrE a b ≠ 0 := by unfold flrE; rw [if_pos hg]; split <;> omega
  rw [e1]
  simp only [e2] at k
  generalize flrE a b = E at *
  have K := Lib.hid k
  have q0 : (E == 0) = false := by simp; exact e3
  clear e1 e2 k hg e3
  go_enter Try.func47, Try.ntmps47
  go_wp2_with (go_at_call 52; refine (K.out _).mono ?_; rintro e w1 ⟨rfl, rfl⟩)
  go_ret2
  exact ⟨rfl, rfl⟩

set_option maxRecDepth 100000 in
set_option maxHeartbeats 1000000 in
theorem num_round_good (a b : Int) (w : World) (ha : -9223372036854775808 ≤ a ∧ a ≤ 9223372036854775807) (hbi : -9223372036854775808 ≤ b ∧ b ≤ 9223372036854775807) (hg : flrBad a b = false) :
    Calls Try.prog 47 #[.int .i64 a, .int .i64 b] w fun e w' => e = .returned (.tuple #[.int .i64 (rndQ a b), .int .i64 (flrE a b)]) ∧ w = w' := by
  have k := fun w => num_floor a b w ha hbi
  obtain ⟨q, R, e1, e2, q0, q1, hb, hR, _, hs, h2, hQ⟩ := rnd_good a b ha hbi hg
  rw [e2]
  simp only [e1, e2] at k
  have K := Lib.hid k
  have HQ := Lib.hid hQ
  have HB := Lib.hid hb
  clear e1 e2 k hg hQ hb
  have hq1 : b - R ≤ R → 0 < b → q + 1 ≤ 9223372036854775807 := fun h3 h4 => by have := h2 (by omega); omega
  have hq2 : R ≤ b - R → b < 0 → q + 1 ≤ 9223372036854775807 := fun h3 h4 => by have := h2 (by omega); omega
  clear h2
  rcases hs with ⟨b0, r0, r1⟩ | ⟨b0, r0, r1⟩
  · by_cases hu : b - R ≤ R
    · have hq1 := hq1 hu b0
      clear hq2
      have HE : Hid (rndQ a b = q + 1) := Lib.hid (by rw [HQ.out, if_pos (by simp; omega)])
      clear HQ
      go_enter Try.func47, Try.ntmps47
      go_wp2_with (go_at_call 52; refine (K.out _).mono ?_; rintro e w1 ⟨rfl, rfl⟩)
      go_ret2
      exact ⟨ret_int2 HE.out.symm rfl, rfl⟩
    · have HE : Hid (rndQ a b = q) := Lib.hid (by rw [HQ.out, if_neg (by simp; omega)])
      clear HQ hq1 hq2
      go_enter Try.func47, Try.ntmps47
      go_wp2_with (go_at_call 52; refine (K.out _).mono ?_; rintro e w1 ⟨rfl, rfl⟩)
      go_ret2
      exact ⟨ret_int2 HE.out.symm rfl, rfl⟩
  · by_cases hu : R ≤ b - R
    · have hq2 := hq2 hu b0
      clear hq1
      have HE : Hid (rndQ a b = q + 1) := Lib.hid (by rw [HQ.out, if_pos (by simp; omega)])
      clear HQ
      go_enter Try.func47, Try.ntmps47
      go_wp2_with (go_at_call 52; refine (K.out _).mono ?_; rintro e w1 ⟨rfl, rfl⟩)
      go_ret2
      exact ⟨ret_int2 HE.out.symm rfl, rfl⟩
    · have HE : Hid (rndQ a b = q) := Lib.hid (by rw [HQ.out, if_neg (by simp; omega)])
      clear HQ hq1 hq2
      go_enter Try.func47, Try.ntmps47
      go_wp2_with (go_at_call 52; refine (K.out _).mono ?_; rintro e w1 ⟨rfl, rfl⟩)
      go_ret2
      exact ⟨ret_int2 HE.out.symm rfl, rfl⟩

theorem num_round (a b : Int) (w : World) (ha : -9223372036854775808 ≤ a ∧ a ≤ 9223372036854775807) (hbi : -9223372036854775808 ≤ b ∧ b ≤ 9223372036854775807) :
    Calls Try.prog 47 #[.int .i64 a, .int .i64 b] w fun e w' => e = .returned (.tuple #[.int .i64 (rndQ a b), .int .i64 (flrE a b)]) ∧ w = w' := by
  cases hg : flrBad a b
  · exact num_round_good a b w ha hbi hg
  · exact num_round_bad a b w ha hbi hg
theorem num_round_pos (a b : Int) (w : World) (ha : -9223372036854775808 ≤ a ∧ a ≤ 9223372036854775807) (hb : 1 ≤ b ∧ b ≤ 9223372036854775807) :
    Calls Try.prog 47 #[.int .i64 a, .int .i64 b] w fun e w' => e = .returned (.tuple #[.int .i64 (rnd a b), .int .i64 0]) ∧ w = w' := by
  have h := num_round a b w ha (by omega)
  rw [rndQ_pos a b hb.1, flrE_pos a b hb.1] at h
  exact h
theorem num_round_q (a b : Int) (w : World) (a0 : -9223372036854775808 ≤ a) (a1 : a ≤ 9223372036854775807) (b0 : 1 ≤ b) (b1 : b ≤ 9223372036854775807) :
    Calls Try.prog 47 #[.int .i64 a, .int .i64 b] w fun e w' => e = .returned (.tuple #[.int .i64 (rnd a b), .int .i64 0]) ∧ w' = w :=
  (num_round_pos a b w ⟨a0, a1⟩ ⟨b0, b1⟩).mono fun _ _ h => ⟨h.1, h.2.symm⟩
end Go.Proofs.Ytkiadcgdmeebmaa
