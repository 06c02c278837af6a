/- Long division by two digits, as plain arithmetic -/
import Derived.WalkKit
import Derived.IntWalk
import Derived.Laws.Bits64
import Derived.Laws.BitsAllLaws
import Derived.Laws.BitsLemmas
import Derived.Lib.Hide
namespace Go.Proofs.Ytkiadcgdmeebmaa
open Go.RowKit
set_option linter.unusedVariables false

/-- One digit: the quotient of U * 2^32 + d by Y. -/
def dgQ (U d Y : Nat) : Nat := (U * 4294967296 + d) / Y
def dgR (U d Y : Nat) : Nat := (U * 4294967296 + d) % Y
theorem dg_facts (U d Y : Nat) (hU : U < Y) (hd : d < 4294967296) : dgQ U d Y < 4294967296 ∧ dgR U d Y < Y ∧ U * 4294967296 + d = dgQ U d Y * Y + dgR U d Y := by
  unfold dgQ dgR
  refine ⟨?_, Nat.mod_lt _ (by omega), (Nat.div_add_mod' _ _).symm⟩
  rw [Nat.div_lt_iff_lt_mul (by omega)]
  have := Nat.mul_le_mul_right 4294967296 (show U + 1 ≤ Y by omega)
  rw [Nat.mul_comm 4294967296 Y]
  omega
theorem dg_more (q r y1 y0 U d Q R : Nat) (h : q * y1 + r = U) (e : U * 4294967296 + d = Q * (y1 * 4294967296 + y0) + R) (ht : 4294967296 * r + d < q * y0) : Q + 1 ≤ q := by
  rcases Nat.lt_or_ge Q q with h1 | h1
  · omega
  · exfalso
    have h2 := Nat.mul_le_mul_right (y1 * 4294967296 + y0) h1
    rw [Nat.mul_add, ← Nat.mul_assoc] at h2
    have h3 : U * 4294967296 = q * y1 * 4294967296 + r * 4294967296 := by rw [← h, Nat.add_mul]
    omega
theorem dg_less (q r y1 y0 U d Q R : Nat) (h : q * y1 + r = U) (e : U * 4294967296 + d = Q * (y1 * 4294967296 + y0) + R) (hR : R < y1 * 4294967296 + y0) (ht : q * y0 ≤ 4294967296 * r + d) : q ≤ Q := by
  have h3 : U * 4294967296 = q * y1 * 4294967296 + r * 4294967296 := by rw [← h, Nat.add_mul]
  have h4 : q * (y1 * 4294967296 + y0) < (Q + 1) * (y1 * 4294967296 + y0) := by
    rw [Nat.mul_add, ← Nat.mul_assoc, Nat.add_mul, Nat.one_mul]
    omega
  have := Nat.lt_of_mul_lt_mul_right h4
  omega
/-- The first guess is at most two too great. -/
theorem dg_guess (U y1 y0 : Nat) (hU : U < y1 * 4294967296 + y0) (h0 : y0 < 4294967296) (h1 : 2147483648 ≤ y1) : U / y1 ≤ 4294967297 := by
  rw [← Nat.lt_succ_iff, Nat.div_lt_iff_lt_mul (by omega)]
  omega
theorem dg_guess_ge (U d y1 y0 Q R : Nat) (hy : 1 ≤ y1) (hd : d < 4294967296) (e : U * 4294967296 + d = Q * (y1 * 4294967296 + y0) + R) : Q ≤ U / y1 := by
  rw [Nat.le_div_iff_mul_le (by omega)]
  have h : Q * y1 * 4294967296 ≤ U * 4294967296 + d := by
    rw [e, Nat.mul_add, ← Nat.mul_assoc]; omega
  omega
theorem dg_bound (q y0 : Nat) (hq : q ≤ 4294967296) (h0 : y0 < 4294967296) : q * y0 ≤ 4294967296 * y0 := Nat.mul_le_mul_right _ hq
theorem dg_bound2 (q y0 : Nat) (hq : q < 4294967296) (h0 : y0 < 4294967296) : q * y0 ≤ 18446744065119617025 := Nat.mul_le_mul (by omega : q ≤ 4294967295) (by omega : y0 ≤ 4294967295)
theorem dg_join0 (U Z p q R1 R0 : Nat) (a3 : U * 4294967296 + Z / 4294967296 = p + R1) (b3 : R1 * 4294967296 + Z % 4294967296 = q + R0) : U * 18446744073709551616 + Z = p * 4294967296 + q + R0 := by
  have hz := Nat.div_add_mod' Z 4294967296
  generalize Z / 4294967296 = zq at *
  generalize Z % 4294967296 = zr at *
  have h := congrArg (· * 4294967296) a3
  simp only [Nat.add_mul, Nat.mul_assoc, Nat.reduceMul] at h
  have h1 := congrArg (· + zr) h
  simp only [Nat.add_assoc] at h1
  rw [hz, b3] at h1
  rw [h1, Nat.add_assoc]
theorem dg_join (U Z Q1 Q0 R1 R0 Y : Nat) (a3 : U * 4294967296 + Z / 4294967296 = Q1 * Y + R1) (b3 : R1 * 4294967296 + Z % 4294967296 = Q0 * Y + R0) : U * 18446744073709551616 + Z = (Q1 * 4294967296 + Q0) * Y + R0 := by
  have h1 : Q1 * 4294967296 * Y = Q1 * Y * 4294967296 := Nat.mul_right_comm _ _ _
  rw [Nat.add_mul, h1]
  exact dg_join0 U Z _ _ R1 R0 a3 b3
theorem dg_two (U Z Y : Nat) (hU : U < Y) (hZ : Z < 18446744073709551616) (hY : Y < 18446744073709551616) :
    dgQ U (Z / 4294967296) Y * 4294967296 + dgQ (dgR U (Z / 4294967296) Y) (Z % 4294967296) Y = (U * 18446744073709551616 + Z) / Y ∧
    dgR (dgR U (Z / 4294967296) Y) (Z % 4294967296) Y = (U * 18446744073709551616 + Z) % Y := by
  obtain ⟨a1, a2, a3⟩ := dg_facts U (Z / 4294967296) Y hU (by omega)
  obtain ⟨b1, b2, b3⟩ := dg_facts (dgR U (Z / 4294967296) Y) (Z % 4294967296) Y a2 (by omega)
  generalize dgR (dgR U (Z / 4294967296) Y) (Z % 4294967296) Y = R0 at *
  generalize dgQ (dgR U (Z / 4294967296) Y) (Z % 4294967296) Y = Q0 at *
  generalize dgR U (Z / 4294967296) Y = R1 at *
  generalize dgQ U (Z / 4294967296) Y = Q1 at *
  have e := dg_join U Z Q1 Q0 R1 R0 Y a3 b3
  have hY0 : 0 < Y := by omega
  constructor
  · rw [e, Nat.mul_comm (Q1 * 4294967296 + Q0) Y, Nat.mul_add_div hY0, Nat.div_eq_of_lt b2, Nat.add_zero]
  · rw [e, Nat.mul_comm (Q1 * 4294967296 + Q0) Y, Nat.mul_add_mod, Nat.mod_eq_of_lt b2]
/-- Shifting both numbers by the same number of bits. -/
theorem dg_shift (hi lo y s : Nat) (h1 : hi < y) (h3 : lo < 18446744073709551616) (hs : s < 64) :
    (hi * 2 ^ s + lo / 2 ^ (64 - s)) * 18446744073709551616 + lo * 2 ^ s % 18446744073709551616 = (hi * 18446744073709551616 + lo) * 2 ^ s ∧ hi * 2 ^ s + lo / 2 ^ (64 - s) < y * 2 ^ s ∧ lo / 2 ^ (64 - s) < 2 ^ s := by
  have e : 2 ^ (64 - s) * 2 ^ s = 18446744073709551616 := by rw [← Nat.pow_add, show 64 - s + s = 64 from by omega]
  have hp := Nat.two_pow_pos s
  have hq := Nat.two_pow_pos (64 - s)
  have hd : lo * 2 ^ s / 18446744073709551616 = lo / 2 ^ (64 - s) := by rw [← e, Nat.mul_div_mul_right _ _ hp]
  have hl : lo / 2 ^ (64 - s) < 2 ^ s := by rw [Nat.div_lt_iff_lt_mul hq, Nat.mul_comm, e]; exact h3
  have hm := Nat.div_add_mod' (lo * 2 ^ s) 18446744073709551616
  rw [hd] at hm
  refine ⟨?_, ?_, hl⟩
  · rw [Nat.add_mul, Nat.add_mul, Nat.mul_right_comm hi]; omega
  · have := Nat.mul_le_mul_right (2 ^ s) (show hi + 1 ≤ y by omega)
    rw [Nat.add_mul] at this
    omega
theorem or_add (a b s : Nat) (hb : b < 2 ^ s) (ha : a * 2 ^ s + b < 18446744073709551616) : bits .or .u64 ((a * 2 ^ s : Nat) : Int) (b : Int) = ((a * 2 ^ s + b : Nat) : Int) := by
  have h : a * 2 ^ s ||| b = a * 2 ^ s + b := by
    have := Nat.two_pow_add_eq_or_of_lt (i := s) (b := b) hb a
    rw [Nat.mul_comm] at this
    exact this.symm
  have ofInt : ∀ a : Nat, a < 18446744073709551616 → (BitVec.ofInt 64 (a : Int)).toNat = a := fun a ha => by
    rw [BitVec.ofInt_natCast, BitVec.toNat_ofNat]; exact Nat.mod_eq_of_lt (by omega)
  show IntKind.u64.wrap ((BitVec.ofInt 64 ((a * 2 ^ s : Nat) : Int) ||| BitVec.ofInt 64 (b : Int)).toNat : Int) = _
  rw [BitVec.toNat_or, ofInt _ (by omega), ofInt _ (by omega), h, IntKind.wrap_u64]
  omega
theorem two_pow_cast (s : Nat) : ((2 : Int) ^ s) = ((2 ^ s : Nat) : Int) := by simp
/-- The remainder as the code computes it, modulo 2^64. -/
theorem rem_wraps (U d p R : Nat) (e : U * 4294967296 + d = p + R) (hR : R < 18446744073709551616) :
    IntKind.u64.wrap (IntKind.u64.wrap (IntKind.u64.wrap ((U : Int) * 4294967296) + (d : Int)) - IntKind.u64.wrap (p : Int)) = (R : Int) := by
  simp only [IntKind.wrap_u64]
  omega
theorem dg_next (q r y1 U : Nat) (h : q * y1 + r = U) (hq : 1 ≤ q) : (q - 1) * y1 + (r + y1) = U := by
  obtain ⟨p, rfl⟩ : ∃ p, q = p + 1 := ⟨q - 1, by omega⟩
  rw [Nat.add_mul, Nat.one_mul] at h
  rw [Nat.add_sub_cancel]
  omega
/-- A guess that is lowered once where it was too great, and whose rest has grown past 2^32, is the digit. -/
theorem dg_break (q r y1 y0 U d Q R : Nat) (h : q * y1 + r = U) (e : U * 4294967296 + d = Q * (y1 * 4294967296 + y0) + R) (hR : R < y1 * 4294967296 + y0) (hy : y0 < 4294967296) (hq : 1 ≤ q) (hq2 : q ≤ 4294967297) (hQ : Q + 1 ≤ q) (hb : 4294967296 ≤ r + y1) : q - 1 = Q := by
  have h2 := dg_next q r y1 U h hq
  have h3 := dg_bound (q - 1) y0 (by omega) hy
  have h4 := dg_less (q - 1) (r + y1) y1 y0 U d Q R h2 e hR (by omega)
  omega
end Go.Proofs.Ytkiadcgdmeebmaa
