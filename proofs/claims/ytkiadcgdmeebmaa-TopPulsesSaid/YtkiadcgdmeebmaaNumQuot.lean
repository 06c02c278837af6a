/- Division bit by bit: what the reference's quotient returns -/
import Derived.LoopTactic
import Derived.Test.YtkiadcgdmeebmaaNumDivP
import Derived.Test.YtkiadcgdmeebmaaNumMul
namespace Go.Proofs.Ytkiadcgdmeebmaa
open Go.RowKit
set_option linter.unusedVariables false

/-- One bit more: the quotient and the rest so far, and what is left of the lower half. -/
theorem qt_step (q r d b l N P : Nat) (h : (q * d + r) * 18446744073709551616 + (b * 9223372036854775808 + l) = N * P) :
    ((2 * q) * d + (2 * r + b)) * 18446744073709551616 + 2 * l = N * (P * 2) := by
  have e : 2 * q * d = 2 * (q * d) := Nat.mul_assoc _ _ _
  have e2 : N * (P * 2) = 2 * (N * P) := by rw [← Nat.mul_assoc, Nat.mul_comm]
  rw [e, e2, ← h]
  generalize q * d = x
  clear h e e2
  omega
theorem qt_more (q r d : Nat) (h : d ≤ r) : (2 * q + 1) * d + (r - d) = (2 * q) * d + r := by
  rw [Nat.add_mul, Nat.one_mul]; omega
theorem qt_lt (q r d l high low P : Nat) (hd : high < d) (hl : low < 18446744073709551616) (hP : 1 ≤ P) (h : (q * d + r) * 18446744073709551616 + l = (high * 18446744073709551616 + low) * P) : q < P := by
  have h1 : (high * 18446744073709551616 + low) < d * 18446744073709551616 := by
    have := Nat.mul_le_mul_right 18446744073709551616 (show high + 1 ≤ d from hd)
    rw [Nat.add_mul, Nat.one_mul] at this
    exact Nat.lt_of_lt_of_le (Nat.add_lt_add_left hl _) this
  have h2 := Nat.mul_lt_mul_of_pos_right h1 (show 0 < P from hP)
  have h3 : q * d * 18446744073709551616 < P * d * 18446744073709551616 := by
    have e : d * 18446744073709551616 * P = P * d * 18446744073709551616 := by rw [Nat.mul_right_comm, Nat.mul_comm d P]
    rw [← e]
    have : q * d * 18446744073709551616 ≤ (q * d + r) * 18446744073709551616 + l := by
      rw [Nat.add_mul]
      exact Nat.le_trans (Nat.le_add_right _ _) (Nat.le_add_right _ _)
    rw [← h] at h2
    exact Nat.lt_of_le_of_lt this h2
  have h4 := Nat.lt_of_mul_lt_mul_right h3
  exact Nat.lt_of_mul_lt_mul_right h4
theorem qt_end (q r d l N : Nat) (hl : l < 18446744073709551616) (h : (q * d + r) * 18446744073709551616 + l = N * 2 ^ 64) : q * d + r = N := by
  generalize q * d + r = x at *
  rw [show (2 : Nat) ^ 64 = 18446744073709551616 from rfl] at h
  have h1 : (x * 18446744073709551616 + l) / 18446744073709551616 = N * 18446744073709551616 / 18446744073709551616 := by rw [h]
  rw [Nat.mul_comm x, Nat.mul_add_div (by decide), Nat.div_eq_of_lt hl, Nat.mul_div_cancel _ (by decide)] at h1
  exact h1
theorem or_bit (a b : Nat) (hb : b ≤ 1) (ha : a < 9223372036854775808) : bits .or .u64 ((a * 2 : Nat) : Int) (b : Int) = ((a * 2 + b : Nat) : Int) := by
  have h := or_add a b 1 (by simpa using Nat.lt_succ_of_le hb) (by simp; omega)
  simpa using h

def QRel (high low d : Nat) (s1 s9 s10 s11 : Value) : Prop :=
  ∃ i l q r : Nat, s11 = .int .i64 (i : Int) ∧ s1 = .int .u64 (l : Int) ∧ s9 = .int .u64 (q : Int) ∧ s10 = .int .u64 (r : Int) ∧ i ≤ 64 ∧ l < 18446744073709551616 ∧ r < d ∧ (q * d + r) * 18446744073709551616 + l = (high * 18446744073709551616 + low) * 2 ^ i

end Go.Proofs.Ytkiadcgdmeebmaa
