/- What interval and Interval of ramp return, in the program and in the reference, for all blocks and numbers -/
import Derived.Test.YtkiadcgdmeebmaaProg
import Derived.WalkKit
import Derived.WalkLawsBesides
import Derived.Lib.Hide
import Derived.Test.YtkiadcgdmeebmaaKit3
import Derived.Test.YtkiadcgdmeebmaaNumIsqrt
import Derived.Test.YtkiadcgdmeebmaaRmpSquare
namespace Go.Proofs.Ytkiadcgdmeebmaa
open Go.RowKit
set_option linter.unusedVariables false

attribute [local go_sem] cell_past1 cell_past2 cell_past3 cell_past4 froz_past1 froz_past2 froz_past3

/-- The interval of a step with this square, at so many ticks a second. -/
def ivl (s t : Int) : Int := (t + (isq s.toNat : Int) - 1) / (isq s.toNat : Int)

theorem isq_pos (N : Nat) (h : 1 ≤ N) (h2 : N < 18446744073709551616) : 1 ≤ isq N ∧ isq N ≤ N := by
  obtain ⟨a, b⟩ := isq_spec N h2
  constructor
  · rcases Nat.eq_zero_or_pos (isq N) with e | e
    · rw [e] at b; omega
    · exact e
  · have : isq N * 1 ≤ isq N * isq N := Nat.mul_le_mul (Nat.le_refl _) (by
      rcases Nat.eq_zero_or_pos (isq N) with e | e
      · rw [e] at b; omega
      · exact e)
    omega

set_option maxRecDepth 100000 in
set_option maxHeartbeats 4000000 in
theorem ramp_ivl (s t : Int) (w : World) (h0 : 1 ≤ s) (h1 : s ≤ 1099511627776) (t0 : 1 ≤ t) (t1 : t ≤ 1048576) :
    Calls Try.prog 50 #[.int .i64 s, .int .i64 t] w fun e w' => e = .returned (.int .i64 (ivl s t)) ∧ w = w' := by
  obtain ⟨S, rfl⟩ := Int.eq_ofNat_of_zero_le (by omega : 0 ≤ s)
  have hp := isq_pos S (by omega) (by omega)
  have HV : Hid (ivl (S : Int) t = (t + (isq S : Int) - 1) / (isq S : Int)) := by show _ = _; unfold ivl; rw [Int.toNat_natCast]
  have hq0 : 0 ≤ (t + (isq S : Int) - 1) / (isq S : Int) := Int.ediv_nonneg (by omega) (by omega)
  have hq1 : (t + (isq S : Int) - 1) / (isq S : Int) ≤ t + (isq S : Int) - 1 := Int.ediv_le_self _ (by omega)
  go_enter Try.func50, Try.ntmps50
  go_wp2_with (go_at_call 56; refine (num_isqrt _ _ ?_).mono ?_; (· omega); rintro e w1 ⟨rfl, rfl⟩)
  go_ret
  exact ⟨ret_int HV.out.symm, rfl⟩

theorem sqV_in (a b c d ac en cr ex i : Int) : 0 ≤ sqV (blkN a b c d ac en cr ex) ac en cr ex i ∧ sqV (blkN a b c d ac en cr ex) ac en cr ex i ≤ 1099511627776 := by
  unfold sqV
  split
  · omega
  · rename_i h
    cases hv : blkValid a b c d ac en cr ex
    · have : blkN a b c d ac en cr ex = 0 := by unfold blkN; simp [hv]
      rw [this] at h
      omega
    · have hn := blkN_in a b c d ac en cr ex
      generalize blkN a b c d ac en cr ex = n at *
      simp [blkValid, blkSound] at hv
      obtain ⟨⟨_, a0, a1, c0, c1⟩, e0', e1', x0, x1⟩ := hv
      have m1 := sq_mul ac i (by omega) a1 (by omega) (by omega)
      have m2 := sq_mul ac (n + 1 - i) (by omega) a1 (by omega) (by omega)
      unfold sqI
      omega
def ivV (s t : Int) : Int := if s < 1 ∨ t < 1 ∨ 1048576 < t then 0 else ivl s t

set_option maxRecDepth 100000 in
set_option maxHeartbeats 4000000 in
theorem ramp_interval (a b c d ac en cr ex i t : Int) (w : World) :
    Calls Try.prog 41 #[.agg #[.int .i64 a, .int .i64 b, .int .i64 c, .int .i64 d, .int .i64 ac, .int .i64 en, .int .i64 cr, .int .i64 ex], .int .i64 i, .int .i64 t] w fun e w' => e = .returned (.int .i64 (ivV (sqV (blkN a b c d ac en cr ex) ac en cr ex i) t)) ∧ Below w.heap.size w w' := by
  obtain ⟨s0, s1⟩ := sqV_in a b c d ac en cr ex i
  generalize hS : sqV (blkN a b c d ac en cr ex) ac en cr ex i = S at *
  have HS := Lib.hid hS
  clear hS
  by_cases h : S < 1 ∨ t < 1 ∨ 1048576 < t
  · have HV : Hid (ivV S t = 0) := by show _ = _; unfold ivV; rw [if_pos h]
    rcases (by omega : S = 0 ∨ (1 ≤ S ∧ t < 1) ∨ (1 ≤ S ∧ 1048576 < t)) with h | ⟨h1, h⟩ | ⟨h1, h⟩
    · subst h
      go_enter Try.func41, Try.ntmps41
      go_wp2_with (go_at_call 10; refine (ramp_square _ _ _ _ _ _ _ _ _ _).mono ?_; rw [HS.out]; rintro e w1 ⟨rfl, hb1⟩; have z1 := hb1.size; (try simp at z1))
      all_goals go_ret
      all_goals exact ⟨ret_int HV.out.symm, by (repeat' (first | with_reducible exact Below.refl _ _ | with_reducible refine Below.drew ?_ | with_reducible refine below_drewN ?_ _ | with_reducible refine Below.alloc ?_ ?_ _ | with_reducible refine Below.setCell ?_ ?_ _ | with_reducible refine Below.trans ?_ (Below.mono (by with_reducible assumption) ?_) | (simp; done) | (simp; omega) | omega))⟩
    all_goals
      have hs : (S == 0) = false := beq_eq_false_iff_ne.2 (by omega)
      go_enter Try.func41, Try.ntmps41
      go_wp2_with (go_at_call 10; refine (ramp_square _ _ _ _ _ _ _ _ _ _).mono ?_; rw [HS.out]; rintro e w1 ⟨rfl, hb1⟩; have z1 := hb1.size; (try simp at z1))
      all_goals go_ret
      all_goals exact ⟨ret_int HV.out.symm, by (repeat' (first | with_reducible exact Below.refl _ _ | with_reducible refine Below.drew ?_ | with_reducible refine below_drewN ?_ _ | with_reducible refine Below.alloc ?_ ?_ _ | with_reducible refine Below.setCell ?_ ?_ _ | with_reducible refine Below.trans ?_ (Below.mono (by with_reducible assumption) ?_) | (simp; done) | (simp; omega) | omega))⟩
  · have HV : Hid (ivV S t = ivl S t) := by show _ = _; unfold ivV; rw [if_neg h]
    have hs : (S == 0) = false := beq_eq_false_iff_ne.2 (by omega)
    have t0 : 1 ≤ t := by omega
    have t1 : t ≤ 1048576 := by omega
    have s2 : 1 ≤ S := by omega
    clear h
    go_enter Try.func41, Try.ntmps41
    go_wp2_with (go_at_call 10; refine (ramp_square _ _ _ _ _ _ _ _ _ _).mono ?_; rw [HS.out]; rintro e w1 ⟨rfl, hb1⟩; have z1 := hb1.size; (try simp at z1))
    refine (ramp_ivl S t _ s2 s1 t0 t1).mono ?_
    rintro e w2 ⟨rfl, rfl⟩
    go_wp2
    go_ret
    exact ⟨ret_int HV.out.symm, by (repeat' (first | with_reducible exact Below.refl _ _ | with_reducible refine Below.drew ?_ | with_reducible refine below_drewN ?_ _ | with_reducible refine Below.alloc ?_ ?_ _ | with_reducible refine Below.setCell ?_ ?_ _ | with_reducible refine Below.trans ?_ (Below.mono (by with_reducible assumption) ?_) | (simp; done) | (simp; omega) | omega))⟩

end Go.Proofs.Ytkiadcgdmeebmaa
