/- What Aim of control returns, in the program and in the reference, for all controllers and targets -/
import Derived.Test.YthpomgkeoogamaaProg
import Derived.WalkKit
import Derived.WalkLawsBesides
import Derived.Lib.Hide
import Derived.Test.YthpomgkeoogamaaKit
import Derived.Test.YthpomgkeoogamaaCtlValid
namespace Go.Proofs.Ythpomgkeoogamaa
open Go.RowKit

set_option maxRecDepth 100000 in
set_option maxHeartbeats 4000000 in
theorem control_aim_ok (t kp ki sc su li g : Int) (w : World) (hv : ctlValid t kp ki sc su li = true) (h0 : 0 ≤ g) (h1 : g ≤ 400000) :
    Calls Try.prog 29 #[.agg #[.int .i64 t, .int .i64 kp, .int .i64 ki, .int .i64 sc, .int .i64 su, .int .i64 li], .int .i64 g] w fun e w' =>
      e = .returned (.tuple #[.agg #[.int .i64 g, .int .i64 kp, .int .i64 ki, .int .i64 sc, .int .i64 0, .int .i64 li], .int .i64 0]) ∧ Below w.heap.size w w' := by
  go_enter Try.func29, Try.ntmps29
  go_wp2_with (go_at_call 18; refine (control_valid _ _ _ _ _ _ _).mono ?_; rw [hv]; rintro e w1 ⟨rfl, rfl⟩)
  all_goals refine bodyPost_ret (v := .tuple #[.agg #[.int .i64 g, .int .i64 kp, .int .i64 ki, .int .i64 sc, .int .i64 0, .int .i64 li], .int .i64 0]) (by simp [results, Try.results29, go_sem]) rfl ⟨rfl, ?_⟩
  all_goals (repeat' (first | with_reducible exact Below.refl _ _ | with_reducible refine Below.drew ?_ | with_reducible refine below_drewN ?_ _ | with_reducible refine Below.alloc ?_ ?_ _ | with_reducible refine Below.setCell ?_ ?_ _ | with_reducible refine Below.trans ?_ (Below.mono (by with_reducible assumption) ?_) | (simp; done) | (simp; omega) | omega))

set_option maxRecDepth 100000 in
set_option maxHeartbeats 4000000 in
theorem control_aim_bad (t kp ki sc su li g : Int) (w : World) (hv : ctlValid t kp ki sc su li = false ∨ g < 0 ∨ 400000 < g) :
    Calls Try.prog 29 #[.agg #[.int .i64 t, .int .i64 kp, .int .i64 ki, .int .i64 sc, .int .i64 su, .int .i64 li], .int .i64 g] w fun e w' =>
      e = .returned (.tuple #[.agg #[.int .i64 0, .int .i64 0, .int .i64 0, .int .i64 0, .int .i64 0, .int .i64 0], .int .i64 1]) ∧ Below w.heap.size w w' := by
  cases hb : ctlValid t kp ki sc su li
  · clear hv
    go_enter Try.func29, Try.ntmps29
    go_wp2_with (go_at_call 18; refine (control_valid _ _ _ _ _ _ _).mono ?_; rw [hb]; rintro e w1 ⟨rfl, rfl⟩)
    all_goals refine bodyPost_ret (v := .tuple #[.agg #[.int .i64 0, .int .i64 0, .int .i64 0, .int .i64 0, .int .i64 0, .int .i64 0], .int .i64 1]) (by simp [results, Try.results29, go_sem]) rfl ⟨rfl, ?_⟩
    all_goals (repeat' (first | with_reducible exact Below.refl _ _ | with_reducible refine Below.drew ?_ | with_reducible refine below_drewN ?_ _ | with_reducible refine Below.alloc ?_ ?_ _ | with_reducible refine Below.setCell ?_ ?_ _ | with_reducible refine Below.trans ?_ (Below.mono (by with_reducible assumption) ?_) | (simp; done) | (simp; omega) | omega))
  · have hg : g < 0 ∨ 400000 < g := by simpa [hb] using hv
    clear hv
    rcases hg with hg | hg
    all_goals
      go_enter Try.func29, Try.ntmps29
      go_wp2_with (go_at_call 18; refine (control_valid _ _ _ _ _ _ _).mono ?_; rw [hb]; rintro e w1 ⟨rfl, rfl⟩)
      all_goals refine bodyPost_ret (v := .tuple #[.agg #[.int .i64 0, .int .i64 0, .int .i64 0, .int .i64 0, .int .i64 0, .int .i64 0], .int .i64 1]) (by simp [results, Try.results29, go_sem]) rfl ⟨rfl, ?_⟩
      all_goals (repeat' (first | with_reducible exact Below.refl _ _ | with_reducible refine Below.drew ?_ | with_reducible refine below_drewN ?_ _ | with_reducible refine Below.alloc ?_ ?_ _ | with_reducible refine Below.setCell ?_ ?_ _ | with_reducible refine Below.trans ?_ (Below.mono (by with_reducible assumption) ?_) | (simp; done) | (simp; omega) | omega))
set_option maxRecDepth 100000 in
set_option maxHeartbeats 4000000 in
theorem ref49_aim_ok (t kp ki sc su li g : Int) (w : World) (hv : ctlValid t kp ki sc su li = true) (h0 : 0 ≤ g) (h1 : g ≤ 400000) :
    Calls Try.prog 30 #[.agg #[.int .i64 t, .int .i64 kp, .int .i64 ki, .int .i64 sc, .int .i64 su, .int .i64 li], .int .i64 g] w fun e w' =>
      e = .returned (.tuple #[.agg #[.int .i64 g, .int .i64 kp, .int .i64 ki, .int .i64 sc, .int .i64 0, .int .i64 li], .int .i64 0]) ∧ Below w.heap.size w w' := by
  go_enter Try.func30, Try.ntmps30
  go_wp2_with (go_at_call 31; refine (ref49_valid _ _ _ _ _ _ _).mono ?_; rw [hv]; rintro e w1 ⟨rfl, rfl⟩)
  all_goals refine bodyPost_ret (v := .tuple #[.agg #[.int .i64 g, .int .i64 kp, .int .i64 ki, .int .i64 sc, .int .i64 0, .int .i64 li], .int .i64 0]) (by simp [results, Try.results30, go_sem]) rfl ⟨rfl, ?_⟩
  all_goals (repeat' (first | with_reducible exact Below.refl _ _ | with_reducible refine Below.drew ?_ | with_reducible refine below_drewN ?_ _ | with_reducible refine Below.alloc ?_ ?_ _ | with_reducible refine Below.setCell ?_ ?_ _ | with_reducible refine Below.trans ?_ (Below.mono (by with_reducible assumption) ?_) | (simp; done) | (simp; omega) | omega))

set_option maxRecDepth 100000 in
set_option maxHeartbeats 4000000 in
theorem ref49_aim_bad (t kp ki sc su li g : Int) (w : World) (hv : ctlValid t kp ki sc su li = false ∨ g < 0 ∨ 400000 < g) :
    Calls Try.prog 30 #[.agg #[.int .i64 t, .int .i64 kp, .int .i64 ki, .int .i64 sc, .int .i64 su, .int .i64 li], .int .i64 g] w fun e w' =>
      e = .returned (.tuple #[.agg #[.int .i64 0, .int .i64 0, .int .i64 0, .int .i64 0, .int .i64 0, .int .i64 0], .int .i64 1]) ∧ Below w.heap.size w w' := by
  cases hb : ctlValid t kp ki sc su li
  · clear hv
    go_enter Try.func30, Try.ntmps30
    go_wp2_with (go_at_call 31; refine (ref49_valid _ _ _ _ _ _ _).mono ?_; rw [hb]; rintro e w1 ⟨rfl, rfl⟩)
    all_goals refine bodyPost_ret (v := .tuple #[.agg #[.int .i64 0, .int .i64 0, .int .i64 0, .int .i64 0, .int .i64 0, .int .i64 0], .int .i64 1]) (by simp [results, Try.results30, go_sem]) rfl ⟨rfl, ?_⟩
    all_goals (repeat' (first | with_reducible exact Below.refl _ _ | with_reducible refine Below.drew ?_ | with_reducible refine below_drewN ?_ _ | with_reducible refine Below.alloc ?_ ?_ _ | with_reducible refine Below.setCell ?_ ?_ _ | with_reducible refine Below.trans ?_ (Below.mono (by with_reducible assumption) ?_) | (simp; done) | (simp; omega) | omega))
  · have hg : g < 0 ∨ 400000 < g := by simpa [hb] using hv
    clear hv
    rcases hg with hg | hg
    all_goals
      go_enter Try.func30, Try.ntmps30
      go_wp2_with (go_at_call 31; refine (ref49_valid _ _ _ _ _ _ _).mono ?_; rw [hb]; rintro e w1 ⟨rfl, rfl⟩)
      all_goals refine bodyPost_ret (v := .tuple #[.agg #[.int .i64 0, .int .i64 0, .int .i64 0, .int .i64 0, .int .i64 0, .int .i64 0], .int .i64 1]) (by simp [results, Try.results30, go_sem]) rfl ⟨rfl, ?_⟩
      all_goals (repeat' (first | with_reducible exact Below.refl _ _ | with_reducible refine Below.drew ?_ | with_reducible refine below_drewN ?_ _ | with_reducible refine Below.alloc ?_ ?_ _ | with_reducible refine Below.setCell ?_ ?_ _ | with_reducible refine Below.trans ?_ (Below.mono (by with_reducible assumption) ?_) | (simp; done) | (simp; omega) | omega))
end Go.Proofs.Ythpomgkeoogamaa
