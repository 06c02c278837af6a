/- What Duration of ramp returns, in the program and in the reference, for all blocks and numbers -/
import Derived.Test.YtkiadcgdmeebmaaProg
import Derived.WalkKit
import Derived.WalkLawsBesides
import Derived.Lib.Hide
import Derived.Test.YtkiadcgdmeebmaaKit3
import Derived.Test.YtkiadcgdmeebmaaRmpInterval
namespace Go.Proofs.Ytkiadcgdmeebmaa
open Go.RowKit
set_option linter.unusedVariables false

attribute [local go_sem] cell_past1 cell_past2 cell_past3 cell_past4 froz_past1 froz_past2 froz_past3

/-- The first k intervals of a block, added. -/
def durS (n ac en cr ex t : Int) : Nat → Int
  | 0 => 0
  | k + 1 => durS n ac en cr ex t k + ivl (sqI n ac en cr ex ((k : Int) + 1)) t

theorem ivl_in (s t : Int) (h0 : 1 ≤ s) (h1 : s ≤ 1099511627776) (t0 : 1 ≤ t) : 1 ≤ ivl s t ∧ ivl s t ≤ t := by
  obtain ⟨S, rfl⟩ := Int.eq_ofNat_of_zero_le (by omega : 0 ≤ s)
  have hp := isq_pos S (by omega) (by omega)
  unfold ivl
  rw [Int.toNat_natCast]
  generalize hv : (isq S : Int) = v
  have v0 : 1 ≤ v := by omega
  have e : v * ((t + v - 1) / v) + (t + v - 1) % v = t + v - 1 := Int.mul_ediv_add_emod _ _
  have r0 := Int.emod_nonneg (t + v - 1) (by omega : v ≠ 0)
  have r1 := Int.emod_lt_of_pos (t + v - 1) (by omega : 0 < v)
  generalize (t + v - 1) / v = q at *
  constructor
  · rcases (by omega : q ≤ 0 ∨ 1 ≤ q) with h | h
    · have : v * q ≤ v * 0 := Int.mul_le_mul_of_nonneg_left h (by omega)
      omega
    · exact h
  · rcases (by omega : t + 1 ≤ q ∨ q ≤ t) with h | h
    · have k1 : v * (t + 1) ≤ v * q := Int.mul_le_mul_of_nonneg_left h (by omega)
      have k2 : v * (t + 1) = v * t + v := by rw [Int.mul_add]; omega
      have k3 : 1 * t ≤ v * t := Int.mul_le_mul_of_nonneg_right v0 (by omega)
      omega
    · exact h

theorem sqI_in (n ac en cr ex i : Int) (a0 : 1 ≤ ac) (a1 : ac ≤ 16777216) (c0 : 1 ≤ cr) (c1 : cr ≤ 1099511627776) (e0' : 0 ≤ en) (x0 : 0 ≤ ex) (n1 : n ≤ 16777216) (i0 : 1 ≤ i) (i1 : i ≤ n) :
    1 ≤ sqI n ac en cr ex i ∧ sqI n ac en cr ex i ≤ cr := by
  have k1 : 2 * ac * 1 ≤ 2 * ac * i := Int.mul_le_mul_of_nonneg_left i0 (by omega)
  have k2 : 2 * ac * 1 ≤ 2 * ac * (n + 1 - i) := Int.mul_le_mul_of_nonneg_left (by omega) (by omega)
  unfold sqI
  omega

theorem durS_in (n ac en cr ex t : Int) (a0 : 1 ≤ ac) (a1 : ac ≤ 16777216) (c0 : 1 ≤ cr) (c1 : cr ≤ 1099511627776) (e0' : 0 ≤ en) (x0 : 0 ≤ ex) (n1 : n ≤ 16777216) (t0 : 1 ≤ t) (t1 : t ≤ 1048576) :
    ∀ k : Nat, (k : Int) ≤ n → 0 ≤ durS n ac en cr ex t k ∧ durS n ac en cr ex t k ≤ 1048576 * k := by
  intro k
  induction k with
  | zero => intro _; unfold durS; omega
  | succ k ih =>
    intro hk
    have h := ih (by omega)
    obtain ⟨s0, s1⟩ := sqI_in n ac en cr ex ((k : Int) + 1) a0 a1 c0 c1 e0' x0 n1 (by omega) (by omega)
    have hi := ivl_in (sqI n ac en cr ex ((k : Int) + 1)) t s0 (by omega) t0
    rw [durS]
    omega

def durN (b : Bool) (n ac en cr ex t : Int) : Int := if b ∧ 1 ≤ t ∧ t ≤ 1048576 ∧ n ≤ 65536 then durS n ac en cr ex t n.toNat else 0
def durE (b : Bool) (n t : Int) : Int := if b ∧ 1 ≤ t ∧ t ≤ 1048576 then (if n ≤ 65536 then 0 else 2) else 1

def DurRel (n ac en cr ex t : Int) (w : World) (s8 s29 : Value) (wr : World) : Prop :=
  ∃ k : Nat, s29 = .int .i64 k ∧ (k : Int) ≤ n ∧ s8 = .int .i64 (durS n ac en cr ex t k) ∧ w = wr

def Dur2Rel (n ac en cr ex t : Int) (B : Nat) (c : Array Value) (w : World) (s7 s8 : Value) (wr : World) : Prop :=
  ∃ k : Nat, s8 = .int .i64 ((k : Int) + 1) ∧ (k : Int) ≤ n ∧ s7 = .int .i64 (durS n ac en cr ex t k) ∧ Live wr B c ∧ Below B w wr

end Go.Proofs.Ytkiadcgdmeebmaa
