/- What Valid of control returns, in the program and in the reference, for all controllers -/
import Derived.Test.YthpomgkeoogamaaProg
import Derived.WalkKit
import Derived.WalkLawsBesides
import Derived.Lib.Hide
import Derived.Test.YthpomgkeoogamaaKit
namespace Go.Proofs.Ythpomgkeoogamaa
open Go.RowKit

def ctlValid (t kp ki sc su li : Int) : Bool :=
  decide (0 ≤ t ∧ t ≤ 400000 ∧ 0 ≤ kp ∧ kp ≤ 1048576 ∧ 0 ≤ ki ∧ ki ≤ 1048576 ∧ 1 ≤ sc ∧ sc ≤ 1073741824 ∧ 0 ≤ li ∧ li ≤ 1099511627776 ∧ 0 ≤ su ∧ su ≤ li)



theorem ctl_zero (t kp ki sc su li : Int) : ∃ z : Bool, (z = true → sc = 0) ∧ ∀ w : World,
    (binOp .eql 23 (.agg #[.int .i64 t, .int .i64 kp, .int .i64 ki, .int .i64 sc, .int .i64 su, .int .i64 li]) (.agg #[.int .i64 0, .int .i64 0, .int .i64 0, .int .i64 0, .int .i64 0, .int .i64 0])).run Try.prog w = .ok (.bool z) w := by
  by_cases h : t = 0 ∧ kp = 0 ∧ ki = 0 ∧ sc = 0 ∧ su = 0 ∧ li = 0
  · obtain ⟨rfl, rfl, rfl, rfl, rfl, rfl⟩ := h
    exact ⟨true, fun _ => rfl, fun w => by go_simp⟩
  · refine ⟨false, (fun h => absurd h (by decide)), fun w => ?_⟩
    go_simp
    all_goals omega

set_option maxRecDepth 100000 in
set_option maxHeartbeats 4000000 in
theorem control_valid (t kp ki sc su li : Int) (w : World) :
    Calls Try.prog 18 #[.agg #[.int .i64 t, .int .i64 kp, .int .i64 ki, .int .i64 sc, .int .i64 su, .int .i64 li]] w fun e w' => e = .returned (.bool (ctlValid t kp ki sc su li)) ∧ w.alloc (.cells #[.int .i64 t, .int .i64 kp, .int .i64 ki, .int .i64 sc, .int .i64 su, .int .i64 li] 23) = w' := by
  obtain ⟨z, hz, HZ⟩ := ctl_zero t kp ki sc su li
  cases z
  · clear hz
    go_enter Try.func18, Try.ntmps18
    go_wp2
    all_goals go_ret
    all_goals refine ⟨ret_bool ?_, rfl⟩
    all_goals (unfold ctlValid; rw [Bool.eq_iff_iff]; simp; omega)
  · obtain rfl := hz rfl
    go_enter Try.func18, Try.ntmps18
    go_wp2
    all_goals go_ret
    all_goals refine ⟨ret_bool ?_, rfl⟩
    all_goals (unfold ctlValid; rw [Bool.eq_iff_iff]; simp)
set_option maxRecDepth 100000 in
set_option maxHeartbeats 4000000 in
theorem ref49_valid (t kp ki sc su li : Int) (w : World) :
    Calls Try.prog 31 #[.agg #[.int .i64 t, .int .i64 kp, .int .i64 ki, .int .i64 sc, .int .i64 su, .int .i64 li]] w fun e w' => e = .returned (.bool (ctlValid t kp ki sc su li)) ∧ w.alloc (.cells #[.int .i64 t, .int .i64 kp, .int .i64 ki, .int .i64 sc, .int .i64 su, .int .i64 li] 23) = w' := by
  obtain ⟨z, hz, HZ⟩ := ctl_zero t kp ki sc su li
  cases z
  · clear hz
    go_enter Try.func31, Try.ntmps31
    go_wp2
    all_goals go_ret
    all_goals refine ⟨ret_bool ?_, rfl⟩
    all_goals (unfold ctlValid; rw [Bool.eq_iff_iff]; simp; omega)
  · obtain rfl := hz rfl
    go_enter Try.func31, Try.ntmps31
    go_wp2
    all_goals go_ret
    all_goals refine ⟨ret_bool ?_, rfl⟩
    all_goals (unfold ctlValid; rw [Bool.eq_iff_iff]; simp)

end Go.Proofs.Ythpomgkeoogamaa
