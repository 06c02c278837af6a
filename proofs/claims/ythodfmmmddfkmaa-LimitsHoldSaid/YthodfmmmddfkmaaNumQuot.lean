/- Division bit by bit: what the reference's quotient returns -/
import Derived.LoopTactic
import Derived.Test.YthodfmmmddfkmaaNumDivP
import Derived.Test.YthodfmmmddfkmaaNumMul
namespace Go.Proofs.Ythodfmmmddfkmaa
open Go.RowKit
set_option linter.unusedVariables false

/-- One bit more: the quotient and the rest so far, and what is left of the lower half. -/
theorem qt_step (q r d b l N P : Nat) (h : (q * d + r) * 18446744073709551616 + (b * 9223372036854775808 + l) = N * P) :
    ((2 * q) * d + (2 * r + b)) * 18446744073709551616 + 2 * l = N * (P * 2) := by
  have e : 2 * q * d = 2 * (q * d) := Nat.mul_assoc _ _ _
  have e2 : N * (P * 2) = 2 * (N * P) := by rw [← Nat.mul_assoc, Nat.mul_comm]
  rw [e, e2, ← h]
  generalize q * d = x
  clear h e e2
  omega
theorem qt_more (q r d : Nat) (h : d ≤ r) : (2 * q + 1) * d + (r - d) = (2 * q) * d + r := by
  rw [Nat.add_mul, Nat.one_mul]; omega
theorem qt_lt (q r d l high low P : Nat) (hd : high < d) (hl : low < 18446744073709551616) (hP : 1 ≤ P) (h : (q * d + r) * 18446744073709551616 + l = (high * 18446744073709551616 + low) * P) : q < P := by
  have h1 : (high * 18446744073709551616 + low) < d * 18446744073709551616 := by
    have := Nat.mul_le_mul_right 18446744073709551616 (show high + 1 ≤ d from hd)
    rw [Nat.add_mul, Nat.one_mul] at this
    exact Nat.lt_of_lt_of_le (Nat.add_lt_add_left hl _) this
  have h2 := Nat.mul_lt_mul_of_pos_right h1 (show 0 < P from hP)
  have h3 : q * d * 18446744073709551616 < P * d * 18446744073709551616 := by
    have e : d * 18446744073709551616 * P = P * d * 18446744073709551616 := by rw [Nat.mul_right_comm, Nat.mul_comm d P]
    rw [← e]
    have : q * d * 18446744073709551616 ≤ (q * d + r) * 18446744073709551616 + l := by
      rw [Nat.add_mul]
      exact Nat.le_trans (Nat.le_add_right _ _) (Nat.le_add_right _ _)
    rw [← h] at h2
    exact Nat.lt_of_le_of_lt this h2
  have h4 := Nat.lt_of_mul_lt_mul_right h3
  exact Nat.lt_of_mul_lt_mul_right h4
theorem qt_end (q r d l N : Nat) (hl : l < 18446744073709551616) (h : (q * d + r) * 18446744073709551616 + l = N * 2 ^ 64) : q * d + r = N := by
  generalize q * d + r = x at *
  rw [show (2 : Nat) ^ 64 = 18446744073709551616 from rfl] at h
  have h1 : (x * 18446744073709551616 + l) / 18446744073709551616 = N * 18446744073709551616 / 18446744073709551616 := by rw [h]
  rw [Nat.mul_comm x, Nat.mul_add_div (by decide), Nat.div_eq_of_lt hl, Nat.mul_div_cancel _ (by decide)] at h1
  exact h1
theorem or_bit (a b : Nat) (hb : b ≤ 1) (ha : a < 9223372036854775808) : bits .or .u64 ((a * 2 : Nat) : Int) (b : Int) = ((a * 2 + b : Nat) : Int) := by
  have h := or_add a b 1 (by simpa using Nat.lt_succ_of_le hb) (by simp; omega)
  simpa using h

def QRel (high low d : Nat) (s1 s9 s10 s11 : Value) : Prop :=
  ∃ i l q r : Nat, s11 = .int .i64 (i : Int) ∧ s1 = .int .u64 (l : Int) ∧ s9 = .int .u64 (q : Int) ∧ s10 = .int .u64 (r : Int) ∧ i ≤ 64 ∧ l < 18446744073709551616 ∧ r < d ∧ (q * d + r) * 18446744073709551616 + l = (high * 18446744073709551616 + low) * 2 ^ i

set_option maxRecDepth 1000000 in
set_option maxHeartbeats 4000000 in
theorem ref01_quot_yes (high low d : Nat) (w : World) (h1 : high < d) (h2 : d < 18446744073709551616) (h3 : low < 18446744073709551616) :
    Calls Try.prog 61 #[.int .u64 (high : Int), .int .u64 (low : Int), .int .u64 (d : Int)] w fun e w' => e = .returned (.tuple #[.int .u64 (((high * 18446744073709551616 + low) / d : Nat) : Int), .int .u64 (((high * 18446744073709551616 + low) % d : Nat) : Int), .bool true]) ∧ w = w' := by
  have hq : (high : Int) < (d : Int) := by omega
  have H1 := Lib.hid h1
  have H2 := Lib.hid h2
  have H3 := Lib.hid h3
  clear h1 h2 h3
  go_enter Try.func61, Try.ntmps61
  go_wp2
  clear hq
  go_loop [1, 9, 10, 11] (fun s1 s9 s10 s11 => QRel high low d s1 s9 s10 s11) (fun _ _ _ i => (64 - intOf i).toNat)
  case atStart => exact ⟨0, low, 0, high, rfl, rfl, rfl, rfl, by omega, H3.out, H1.out, by simp⟩
  case round =>
    obtain ⟨i, l, q, r, rfl, rfl, rfl, rfl, i0, i1, i2, i3⟩ := hrel
    have hp1 := Nat.two_pow_pos i
    by_cases hi : i < 64
    · have hP : 2 ^ i ≤ 2 ^ 63 := Nat.pow_le_pow_right (by omega) (by omega)
      have hq := qt_lt q r d l high low (2 ^ i) H1.out H3.out hp1 i3
      have hq2 : (q : Int) < 9223372036854775808 := by omega
      have E := qt_step q r d (l / 9223372036854775808) (l % 9223372036854775808) (high * 18446744073709551616 + low) (2 ^ i) (by rw [← i3, Nat.div_add_mod'])
      have HE := Lib.hid E
      have hi' : (i : Int) < 64 := by omega
      have hl1 : (l : Int) < 18446744073709551616 := by omega
      have hr1 : (r : Int) < (d : Int) := by omega
      have hd1 : (d : Int) < 18446744073709551616 := by have := H2.out; omega
      clear E i3 hp1 hP hq i0 hi i1 i2
      have hb : l / 9223372036854775808 ≤ 1 := by omega
      have hb1 : (l : Int) / 9223372036854775808 = ((l / 9223372036854775808 : Nat) : Int) := by omega
      have hl2 : IntKind.u64.wrap ((l : Int) * 2) = ((l % 9223372036854775808 * 2 : Nat) : Int) := by rw [IntKind.wrap_u64]; omega
      have hor0 := or_bit (r % 9223372036854775808) (l / 9223372036854775808) hb (by omega)
      have hr2 : IntKind.u64.wrap ((r : Int) * 2) = ((r % 9223372036854775808 * 2 : Nat) : Int) := by rw [IntKind.wrap_u64]; omega
      rw [← hr2, ← hb1] at hor0
      obtain ⟨X, hX⟩ : ∃ X, X = r % 9223372036854775808 * 2 + l / 9223372036854775808 := ⟨_, rfl⟩
      rw [← hX] at hor0
      have HX := Lib.hid hX
      have HB := Lib.hid hb
      clear hX hb hr2 hb1
      generalize l / 9223372036854775808 = b at HE HX HB
      by_cases hc : (9223372036854775808 : Int) ≤ (r : Int)
      · have hcar : (r : Int) / 9223372036854775808 = 1 := by omega
        go_upto_region 11 with (fail)
        clear hcar hl2 hor0
        have hx : (X : Int) + 18446744073709551616 = 2 * (r : Int) + (b : Int) := by have := HX.out; omega
        have hs : IntKind.u64.wrap ((X : Int) - (d : Int)) = ((2 * r + b - d : Nat) : Int) := by rw [IntKind.wrap_u64]; have := HB.out; omega
        have HS2 := Lib.hid hx
        clear hx
        go_wp2_with fail
        go_round
        case rel => have hx := HS2.out; have hb := HB.out; (try have hc := HC.out); exact ⟨i + 1, l % 9223372036854775808 * 2, 2 * q + 1, 2 * r + b - d, congrArg (Value.int IntKind.i64) (by omega), congrArg (Value.int IntKind.u64) (by omega), congrArg (Value.int IntKind.u64) (by omega), rfl, by omega, by omega, by omega, by rw [qt_more q (2 * r + b) d (by omega), Nat.pow_succ, Nat.mul_comm (l % 9223372036854775808) 2]; exact HE.out⟩
        case measure => simp [intOf]; omega
      · have hx : (X : Int) = 2 * (r : Int) + (b : Int) := by have := HX.out; omega
        have HS2 := Lib.hid hx
        clear hx
        rw [show IntKind.u64.wrap ((r : Int) * 2) = (r : Int) * 2 from by rw [IntKind.wrap_u64]; omega] at hor0
        by_cases hd : d ≤ X
        · have hcar : (r : Int) / 9223372036854775808 = 0 := by omega
          have HC := Lib.hid hc
          clear hc
          go_upto_region 11 with (fail)
          clear hl2 hor0
          go_wp2_with fail
          go_round
          case rel => have hx := HS2.out; have hb := HB.out; (try have hc := HC.out); exact ⟨i + 1, l % 9223372036854775808 * 2, 2 * q + 1, 2 * r + b - d, congrArg (Value.int IntKind.i64) (by omega), congrArg (Value.int IntKind.u64) (by omega), congrArg (Value.int IntKind.u64) (by omega), congrArg (Value.int IntKind.u64) (by first | omega | (rw [IntKind.wrap_u64]; omega)), by omega, by omega, by omega, by rw [qt_more q (2 * r + b) d (by omega), Nat.pow_succ, Nat.mul_comm (l % 9223372036854775808) 2]; exact HE.out⟩
          case measure => simp [intOf]; omega
        · have hcar : (r : Int) / 9223372036854775808 = 0 := by omega
          have HC := Lib.hid hc
          clear hc
          go_upto_region 11 with (fail)
          clear hl2 hor0
          go_wp2_with fail
          go_round
          case rel => have hx := HS2.out; have hb := HB.out; (try have hc := HC.out); exact ⟨i + 1, l % 9223372036854775808 * 2, 2 * q, 2 * r + b, congrArg (Value.int IntKind.i64) (by omega), congrArg (Value.int IntKind.u64) (by omega), congrArg (Value.int IntKind.u64) (by omega), congrArg (Value.int IntKind.u64) (by omega), by omega, by omega, by omega, by rw [Nat.pow_succ, Nat.mul_comm (l % 9223372036854775808) 2]; exact HE.out⟩
          case measure => simp [intOf]; omega
    · obtain rfl : i = 64 := by omega
      have hN := qt_end q r d l (high * 18446744073709551616 + low) i1 i3
      have HD : Hid ((high * 18446744073709551616 + low) / d = q ∧ (high * 18446744073709551616 + low) % d = r) := Lib.hid (by
        rw [← hN]
        have hd0 : 0 < d := by omega
        exact ⟨by rw [Nat.mul_comm q d, Nat.mul_add_div hd0, Nat.div_eq_of_lt i2, Nat.add_zero], by rw [Nat.mul_comm q d, Nat.mul_add_mod, Nat.mod_eq_of_lt i2]⟩)
      clear hN i0 i1 i2 i3 hi hp1
      go_wp2_with fail
      go_ret3
      have e1 : ((high : Int) * 18446744073709551616 + (low : Int)) / (d : Int) = (q : Int) := by rw [← HD.out.1]; simp
      have e2 : ((high : Int) * 18446744073709551616 + (low : Int)) % (d : Int) = (r : Int) := by rw [← HD.out.2]; simp
      refine ⟨?_, rfl⟩
      first | rw [HD.out.1, HD.out.2] | rw [e1, e2]
      first | done | rfl

theorem ref01_quot_no (high low d : Nat) (w : World) (h1 : d ≤ high) :
    Calls Try.prog 61 #[.int .u64 (high : Int), .int .u64 (low : Int), .int .u64 (d : Int)] w fun e w' => e = .returned (.tuple #[.int .u64 0, .int .u64 0, .bool false]) ∧ w = w' := by
  have hq : (d : Int) ≤ (high : Int) := by omega
  clear h1
  go_enter Try.func61, Try.ntmps61
  go_wp2
  go_ret3
  exact ⟨rfl, rfl⟩
end Go.Proofs.Ythodfmmmddfkmaa
