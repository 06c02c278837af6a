/- What Floor returns, in the program and in the reference, for all numbers -/
import Derived.Test.YtkiadcgdmeebmaaProg
import Derived.WalkKit
import Derived.WalkLawsBesides
import Derived.Lib.Hide
import Derived.Test.YtkiadcgdmeebmaaKit
namespace Go.Proofs.Ytkiadcgdmeebmaa
open Go.RowKit

def flrBad (a b : Int) : Bool := b == 0 || (a == -9223372036854775808 && b == -1)
def flrQ (a b : Int) : Int := if flrBad a b then 0 else a.fdiv b
def flrE (a b : Int) : Int := if b = 0 then 4 else if flrBad a b then 3 else 0

theorem flr_down (a b : Int) (hd : ¬ a.tmod b = 0) (hs : (!decide (a < 0) == decide (b < 0)) = true) (hb : b ≠ 0) : a.tdiv b - 1 = a.fdiv b := by
  rw [Int.fdiv_eq_tdiv, if_neg (fun h => hd (Int.tmod_eq_zero_of_dvd h))]
  by_cases ha : a < 0 <;> by_cases hb2 : b < 0
  all_goals simp [ha, hb2] at hs
  · have hbp : 0 < b := by omega
    rw [if_neg (by omega), if_pos (by omega), Int.sign_eq_one_of_pos hbp]
  · rw [if_pos (by omega), if_neg (by omega)]

theorem flr_keep (a b : Int) (h : a.tmod b = 0 ∨ (!decide (a < 0) == decide (b < 0)) = false) : a.tdiv b = a.fdiv b := by
  rw [Int.fdiv_eq_tdiv]
  rcases h with h | hs
  · rw [if_pos (Int.dvd_of_tmod_eq_zero h)]; omega
  · split
    · omega
    by_cases ha : a < 0 <;> by_cases hb2 : b < 0
    all_goals simp [ha, hb2] at hs
    · rw [if_neg (by omega), if_neg (by omega), Int.sign_eq_neg_one_of_neg hb2]; omega
    · rw [if_pos (by omega), if_pos (by omega)]; omega

theorem tdiv_in (a b : Int) (ha : -9223372036854775808 ≤ a ∧ a ≤ 9223372036854775807) (h : (a == -9223372036854775808 && b == -1) = false) : -9223372036854775808 ≤ a.tdiv b ∧ a.tdiv b ≤ 9223372036854775807 := by
  have h1 : (a.tdiv b).natAbs ≤ a.natAbs := by rw [Int.natAbs_tdiv]; exact Nat.div_le_self _ _
  by_cases hm : a = -9223372036854775808
  · subst hm
    have hb : b ≠ -1 := by simpa using h
    by_cases hp : 0 ≤ b
    · have : Int.tdiv (-9223372036854775808) b ≤ 0 := by
        rw [Int.neg_tdiv]
        have := Int.tdiv_nonneg (a := 9223372036854775808) (b := b) (by omega) hp
        omega
      omega
    · have h2 : (Int.tdiv (-9223372036854775808) b).natAbs ≤ 4611686018427387904 := by
        rw [Int.natAbs_tdiv]
        have : 2 ≤ b.natAbs := by omega
        calc Nat.div (Int.natAbs (-9223372036854775808)) b.natAbs ≤ Nat.div (Int.natAbs (-9223372036854775808)) 2 := Nat.div_le_div_left this (by omega)
          _ = 4611686018427387904 := by decide
      omega
  · omega

theorem fdiv_in (a b : Int) (ha : -9223372036854775808 ≤ a ∧ a ≤ 9223372036854775807) (h : (a == -9223372036854775808 && b == -1) = false) (hb : b ≠ 0) (hbi : -9223372036854775808 ≤ b ∧ b ≤ 9223372036854775807) : -9223372036854775808 ≤ a.fdiv b ∧ a.fdiv b ≤ 9223372036854775807 := by
  have h1 := tdiv_in a b ha h
  by_cases hk : a.tmod b = 0 ∨ (!decide (a < 0) == decide (b < 0)) = false
  · rw [← flr_keep a b hk]; exact h1
  · have hd : ¬ a.tmod b = 0 := fun hz => hk (.inl hz)
    have hs : (!decide (a < 0) == decide (b < 0)) = true := by
      cases hz : (!decide (a < 0) == decide (b < 0)) with
      | true => rfl
      | false => exact absurd (.inr hz) hk
    rw [← flr_down a b hd hs hb]
    have e := Int.tdiv_mul_add_tmod a b
    have : a.tdiv b ≠ -9223372036854775808 := by
      intro he
      rw [he] at e
      have hr : (a.tmod b).natAbs < b.natAbs := by rw [Int.natAbs_tmod]; exact Nat.mod_lt _ (by omega)
      by_cases b1 : b = 1
      · subst b1; simp at hd
      by_cases b2 : b = -1
      · subst b2; simp at hd
      by_cases hp : 0 ≤ b
      · omega
      · omega
    omega

theorem flr_keep2 (a b : Int) (h : (a.tmod b != 0) = false ∨ (!decide (a < 0) == decide (b < 0)) = false) : a.tdiv b = a.fdiv b := by
  rcases h with h | h
  · exact flr_keep a b (.inl (by simpa using h))
  · exact flr_keep a b (.inr h)
theorem flr_down2 (a b : Int) (hin : -9223372036854775808 ≤ a.fdiv b ∧ a.fdiv b ≤ 9223372036854775807) (hd : ¬ a.tmod b = 0) (hs : (a.tmod b != 0) = true ∧ (!decide (a < 0) == decide (b < 0)) = true) (hb : b ≠ 0) : RowKit.wrap64 (a.tdiv b - 1) = a.fdiv b := by
  rw [flr_down a b hd hs.2 hb]
  exact IntWalk.wrap64_in _ hin
theorem flrQ_in (a b : Int) (ha : -9223372036854775808 ≤ a ∧ a ≤ 9223372036854775807) (hbi : -9223372036854775808 ≤ b ∧ b ≤ 9223372036854775807) : -9223372036854775808 ≤ flrQ a b ∧ flrQ a b ≤ 9223372036854775807 := by
  unfold flrQ
  split
  · omega
  · rename_i h
    unfold flrBad at h
    simp only [Bool.or_eq_true, not_or, Bool.not_eq_true, beq_eq_false_iff_ne] at h
    exact fdiv_in a b ha h.2 h.1 hbi
/-- With a divisor that is at least 1 the quotient is the floor, and there is no error. -/
theorem flrQ_pos (a b : Int) (hb : 1 ≤ b) : flrQ a b = a / b := by
  unfold flrQ flrBad
  rw [if_neg (by simp; omega), Int.fdiv_eq_ediv_of_nonneg a (by omega)]
theorem flrE_pos (a b : Int) (hb : 1 ≤ b) : flrE a b = 0 := by
  unfold flrE flrBad
  rw [if_neg (by omega), if_neg (by simp; omega)]

theorem num_floor (a b : Int) (w : World) (ha : -9223372036854775808 ≤ a ∧ a ≤ 9223372036854775807) (hbi : -9223372036854775808 ≤ b ∧ b ≤ 9223372036854775807) :
    Calls Try.prog 52 #[.int .i64 a, .int .i64 b] w fun e w' => e = .returned (.tuple #[.int .i64 (flrQ a b), .int .i64 (flrE a b)]) ∧ w = w' := by
  by_cases hb : b = 0
  · subst hb
    go_enter Try.func52, Try.ntmps52
    go_wp2
    go_ret2
    exact ⟨rfl, rfl⟩
  · have hb0 : (b == 0) = false := by simp; omega
    cases hl : (a == -9223372036854775808) <;> cases hb1 : (b == -1)
    case true.true =>
      have H : flrQ a b = 0 ∧ flrE a b = 3 := by unfold flrQ flrE flrBad; simp [hl, hb1, hb]
      rw [H.1, H.2]
      clear H
      go_enter Try.func52, Try.ntmps52
      go_wp2
      go_ret2
      exact ⟨rfl, rfl⟩
    all_goals
      have hin := tdiv_in a b ha (by simp only [hl, hb1]; rfl)
      have H : Hid (flrQ a b = a.fdiv b ∧ flrE a b = 0) := by
        show _ ∧ _
        unfold flrQ flrE flrBad; simp [hl, hb1, hb]
      have HF := fdiv_in a b ha (by simp only [hl, hb1]; rfl) hb hbi
      have HB := Lib.hid hb
      clear hb
      go_enter Try.func52, Try.ntmps52
      go_wp2
      all_goals go_ret2
      all_goals rw [H.out.1, H.out.2]
      all_goals refine ⟨ret_int2 ?_ rfl, rfl⟩
      all_goals first
        | exact flr_keep a b (.inl (by assumption))
        | exact flr_down2 a b HF (by assumption) (by assumption) HB.out
        | exact flr_keep2 a b (by assumption)
theorem num_floor_pos (a b : Int) (w : World) (ha : -9223372036854775808 ≤ a ∧ a ≤ 9223372036854775807) (hb : 1 ≤ b ∧ b ≤ 9223372036854775807) :
    Calls Try.prog 52 #[.int .i64 a, .int .i64 b] w fun e w' => e = .returned (.tuple #[.int .i64 (a / b), .int .i64 0]) ∧ w = w' := by
  have h := num_floor a b w ha (by omega)
  rw [flrQ_pos a b hb.1, flrE_pos a b hb.1] at h
  exact h
end Go.Proofs.Ytkiadcgdmeebmaa
