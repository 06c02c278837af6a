/- What Step of control returns, in the program and in the reference, for all controllers and readings -/
import Derived.Test.YthpomgkeoogamaaProg
import Derived.WalkKit
import Derived.WalkLawsBesides
import Derived.Lib.Hide
import Derived.Deep.RegionWith
import Derived.Test.YthpomgkeoogamaaKit
import Derived.Test.YthpomgkeoogamaaNumClamp
import Derived.Test.YthpomgkeoogamaaNumFloor
import Derived.Test.YthpomgkeoogamaaCtlValid
namespace Go.Proofs.Ythpomgkeoogamaa
open Go.RowKit

def ctlSum (t ki su li r : Int) : Int := max 0 (min (su + ki * (t - r)) li)
def ctlDuty (t kp ki sc su li r : Int) : Int := max 0 (min ((kp * (t - r) + ctlSum t ki su li r) / sc) 255)
def ctlOk (t kp ki sc su li r : Int) : Bool := ctlValid t kp ki sc su li && decide (-1073741824 ≤ r ∧ r ≤ 1073741824)
def ctlSum2 (t kp ki sc su li r : Int) : Int := if ctlOk t kp ki sc su li r then (if t = 0 then 0 else ctlSum t ki su li r) else su
def ctlDuty2 (t kp ki sc su li r : Int) : Int := if ctlOk t kp ki sc su li r then (if t = 0 then 0 else ctlDuty t kp ki sc su li r) else 0

theorem mul_in (k B C e : Int) (h0 : 0 ≤ k) (h1 : k ≤ B) (h2 : -C ≤ e) (h3 : e ≤ C) (hC : 0 ≤ C) : -(B * C) ≤ k * e ∧ k * e ≤ B * C := by
  have a1 : k * e ≤ k * C := Int.mul_le_mul_of_nonneg_left h3 h0
  have a2 : k * C ≤ B * C := Int.mul_le_mul_of_nonneg_right h1 hC
  have a3 : k * (-C) ≤ k * e := Int.mul_le_mul_of_nonneg_left h2 h0
  rw [Int.mul_neg] at a3
  omega

set_option maxRecDepth 100000 in
set_option maxHeartbeats 4000000 in
theorem control_step_bad (t kp ki sc su li r : Int) (w : World) (hv : ctlValid t kp ki sc su li = false) :
    Calls Try.prog 15 #[.agg #[.int .i64 t, .int .i64 kp, .int .i64 ki, .int .i64 sc, .int .i64 su, .int .i64 li], .int .i64 r] w fun e w' =>
      e = .returned (.tuple #[.agg #[.int .i64 t, .int .i64 kp, .int .i64 ki, .int .i64 sc, .int .i64 su, .int .i64 li], .int .i64 0]) ∧ Below w.heap.size w w' := by
  go_enter Try.func15, Try.ntmps15
  go_wp2_with (go_at_call 18; refine (control_valid _ _ _ _ _ _ _).mono ?_; rw [hv]; rintro e w1 ⟨rfl, rfl⟩)
  refine bodyPost_ret (v := .tuple #[.agg #[.int .i64 t, .int .i64 kp, .int .i64 ki, .int .i64 sc, .int .i64 su, .int .i64 li], .int .i64 0]) (by simp [results, Try.results15, go_sem]) rfl ⟨rfl, ?_⟩
  (repeat' (first | with_reducible exact Below.refl _ _ | with_reducible refine Below.drew ?_ | with_reducible refine below_drewN ?_ _ | with_reducible refine Below.alloc ?_ ?_ _ | with_reducible refine Below.setCell ?_ ?_ _ | with_reducible refine Below.trans ?_ (Below.mono (by with_reducible assumption) ?_) | (simp; done) | (simp; omega) | omega))

set_option maxRecDepth 100000 in
set_option maxHeartbeats 4000000 in
theorem control_step_run (t kp ki sc su li r : Int) (w : World) (hv : ctlValid t kp ki sc su li = true) (hr : -1073741824 ≤ r ∧ r ≤ 1073741824) (ht : 1 ≤ t) :
    Calls Try.prog 15 #[.agg #[.int .i64 t, .int .i64 kp, .int .i64 ki, .int .i64 sc, .int .i64 su, .int .i64 li], .int .i64 r] w fun e w' =>
      e = .returned (.tuple #[.agg #[.int .i64 t, .int .i64 kp, .int .i64 ki, .int .i64 sc, .int .i64 (ctlSum t ki su li r), .int .i64 li], .int .i64 (ctlDuty t kp ki sc su li r)]) ∧ Below w.heap.size w w' := by
  have hb : 0 ≤ t ∧ t ≤ 400000 ∧ 0 ≤ kp ∧ kp ≤ 1048576 ∧ 0 ≤ ki ∧ ki ≤ 1048576 ∧ 1 ≤ sc ∧ sc ≤ 1073741824 ∧ 0 ≤ li ∧ li ≤ 1099511627776 ∧ 0 ≤ su ∧ su ≤ li := by simpa [ctlValid] using hv
  obtain ⟨t0, t1, p0, p1, k0, k1, s0, s1, l0, l1, u0, u1⟩ := hb
  obtain ⟨r0, r1⟩ := hr
  have m1 := mul_in ki 1048576 1074141824 (t - r) k0 k1 (by omega) (by omega) (by omega)
  have m2 := mul_in kp 1048576 1074141824 (t - r) p0 p1 (by omega) (by omega) (by omega)
  simp at m1 m2
  have HS : Hid (max 0 (min (su + ki * (t - r)) li) = ctlSum t ki su li r) := Lib.hid rfl
  have HD : Hid (max 0 (min ((kp * (t - r) + ctlSum t ki su li r) / sc) 255) = ctlDuty t kp ki sc su li r) := Lib.hid rfl
  have q0 : 0 ≤ ctlSum t ki su li r := by unfold ctlSum; omega
  have q1 : ctlSum t ki su li r ≤ li := by unfold ctlSum; omega
  go_enter Try.func15, Try.ntmps15
  go_wp2_with (first | (go_at_call 18; refine (control_valid _ _ _ _ _ _ _).mono ?_; rw [hv]; rintro e w1 ⟨rfl, rfl⟩))
  refine (num_clamp _ _ _ _).mono ?_
  rintro e w2 ⟨he, rfl⟩
  rw [HS.out] at he
  subst he
  go_wp2_with fail
  refine (num_floor_pos _ _ _ ?_ ?_).mono ?_
  · omega
  · omega
  rintro e w2 ⟨rfl, rfl⟩
  go_wp2_with fail
  go_region_with (go_at_call 32; refine (num_clamp _ _ _ _).mono ?_; rintro e w2 ⟨he, rfl⟩; rw [HD.out] at he; subst he)
  all_goals go_wp2_with fail
  all_goals refine bodyPost_ret (v := .tuple #[.agg #[.int .i64 t, .int .i64 kp, .int .i64 ki, .int .i64 sc, .int .i64 (ctlSum t ki su li r), .int .i64 li], .int .i64 (ctlDuty t kp ki sc su li r)]) (by simp [results, Try.results15, go_sem]) rfl ⟨rfl, ?_⟩
  all_goals (repeat' (first | with_reducible exact Below.refl _ _ | with_reducible refine Below.drew ?_ | with_reducible refine below_drewN ?_ _ | with_reducible refine Below.alloc ?_ ?_ _ | with_reducible refine Below.setCell ?_ ?_ _ | with_reducible refine Below.trans ?_ (Below.mono (by with_reducible assumption) ?_) | (simp; done) | (simp; omega) | omega))

set_option maxRecDepth 100000 in
set_option maxHeartbeats 4000000 in
theorem control_step_far (t kp ki sc su li r : Int) (w : World) (hv : ctlValid t kp ki sc su li = true) (hr : r < -1073741824 ∨ 1073741824 < r) :
    Calls Try.prog 15 #[.agg #[.int .i64 t, .int .i64 kp, .int .i64 ki, .int .i64 sc, .int .i64 su, .int .i64 li], .int .i64 r] w fun e w' =>
      e = .returned (.tuple #[.agg #[.int .i64 t, .int .i64 kp, .int .i64 ki, .int .i64 sc, .int .i64 su, .int .i64 li], .int .i64 0]) ∧ Below w.heap.size w w' := by
  rcases hr with hr | hr
  all_goals
    go_enter Try.func15, Try.ntmps15
    go_wp2_with (go_at_call 18; refine (control_valid _ _ _ _ _ _ _).mono ?_; rw [hv]; rintro e w1 ⟨rfl, rfl⟩)
    all_goals refine bodyPost_ret (v := .tuple #[.agg #[.int .i64 t, .int .i64 kp, .int .i64 ki, .int .i64 sc, .int .i64 su, .int .i64 li], .int .i64 0]) (by simp [results, Try.results15, go_sem]) rfl ⟨rfl, ?_⟩
    all_goals (repeat' (first | with_reducible exact Below.refl _ _ | with_reducible refine Below.drew ?_ | with_reducible refine below_drewN ?_ _ | with_reducible refine Below.alloc ?_ ?_ _ | with_reducible refine Below.setCell ?_ ?_ _ | with_reducible refine Below.trans ?_ (Below.mono (by with_reducible assumption) ?_) | (simp; done) | (simp; omega) | omega))

set_option maxRecDepth 100000 in
set_option maxHeartbeats 4000000 in
theorem control_step_zero (kp ki sc su li r : Int) (w : World) (hv : ctlValid 0 kp ki sc su li = true) (hr : -1073741824 ≤ r ∧ r ≤ 1073741824) :
    Calls Try.prog 15 #[.agg #[.int .i64 0, .int .i64 kp, .int .i64 ki, .int .i64 sc, .int .i64 su, .int .i64 li], .int .i64 r] w fun e w' =>
      e = .returned (.tuple #[.agg #[.int .i64 0, .int .i64 kp, .int .i64 ki, .int .i64 sc, .int .i64 0, .int .i64 li], .int .i64 0]) ∧ Below w.heap.size w w' := by
  go_enter Try.func15, Try.ntmps15
  go_wp2_with (go_at_call 18; refine (control_valid _ _ _ _ _ _ _).mono ?_; rw [hv]; rintro e w1 ⟨rfl, rfl⟩)
  all_goals refine bodyPost_ret (v := .tuple #[.agg #[.int .i64 0, .int .i64 kp, .int .i64 ki, .int .i64 sc, .int .i64 0, .int .i64 li], .int .i64 0]) (by simp [results, Try.results15, go_sem]) rfl ⟨rfl, ?_⟩
  all_goals (repeat' (first | with_reducible exact Below.refl _ _ | with_reducible refine Below.drew ?_ | with_reducible refine below_drewN ?_ _ | with_reducible refine Below.alloc ?_ ?_ _ | with_reducible refine Below.setCell ?_ ?_ _ | with_reducible refine Below.trans ?_ (Below.mono (by with_reducible assumption) ?_) | (simp; done) | (simp; omega) | omega))

theorem control_step (t kp ki sc su li r : Int) (w : World) :
    Calls Try.prog 15 #[.agg #[.int .i64 t, .int .i64 kp, .int .i64 ki, .int .i64 sc, .int .i64 su, .int .i64 li], .int .i64 r] w fun e w' =>
      e = .returned (.tuple #[.agg #[.int .i64 t, .int .i64 kp, .int .i64 ki, .int .i64 sc, .int .i64 (ctlSum2 t kp ki sc su li r), .int .i64 li], .int .i64 (ctlDuty2 t kp ki sc su li r)]) ∧ Below w.heap.size w w' := by
  cases hv : ctlValid t kp ki sc su li
  · have h := control_step_bad t kp ki sc su li r w hv
    unfold ctlSum2 ctlDuty2 ctlOk
    simpa [hv] using h
  by_cases hr : -1073741824 ≤ r ∧ r ≤ 1073741824
  · by_cases ht : t = 0
    · subst ht
      have h := control_step_zero kp ki sc su li r w hv hr
      unfold ctlSum2 ctlDuty2 ctlOk
      simpa [hv, hr] using h
    · have h := control_step_run t kp ki sc su li r w hv hr (by have := hv; simp [ctlValid] at this; omega)
      unfold ctlSum2 ctlDuty2 ctlOk
      simpa [hv, hr, ht] using h
  · have h := control_step_far t kp ki sc su li r w hv (by omega)
    unfold ctlSum2 ctlDuty2 ctlOk
    simpa [hv, hr] using h
set_option maxRecDepth 100000 in
set_option maxHeartbeats 4000000 in
theorem ref49_step_bad (t kp ki sc su li r : Int) (w : World) (hv : ctlValid t kp ki sc su li = false) :
    Calls Try.prog 16 #[.agg #[.int .i64 t, .int .i64 kp, .int .i64 ki, .int .i64 sc, .int .i64 su, .int .i64 li], .int .i64 r] w fun e w' =>
      e = .returned (.tuple #[.agg #[.int .i64 t, .int .i64 kp, .int .i64 ki, .int .i64 sc, .int .i64 su, .int .i64 li], .int .i64 0]) ∧ Below w.heap.size w w' := by
  go_enter Try.func16, Try.ntmps16
  go_wp2_with (go_at_call 31; refine (ref49_valid _ _ _ _ _ _ _).mono ?_; rw [hv]; rintro e w1 ⟨rfl, rfl⟩)
  refine bodyPost_ret (v := .tuple #[.agg #[.int .i64 t, .int .i64 kp, .int .i64 ki, .int .i64 sc, .int .i64 su, .int .i64 li], .int .i64 0]) (by simp [results, Try.results16, go_sem]) rfl ⟨rfl, ?_⟩
  (repeat' (first | with_reducible exact Below.refl _ _ | with_reducible refine Below.drew ?_ | with_reducible refine below_drewN ?_ _ | with_reducible refine Below.alloc ?_ ?_ _ | with_reducible refine Below.setCell ?_ ?_ _ | with_reducible refine Below.trans ?_ (Below.mono (by with_reducible assumption) ?_) | (simp; done) | (simp; omega) | omega))

set_option maxRecDepth 100000 in
set_option maxHeartbeats 4000000 in
theorem ref49_step_run (t kp ki sc su li r : Int) (w : World) (hv : ctlValid t kp ki sc su li = true) (hr : -1073741824 ≤ r ∧ r ≤ 1073741824) (ht : 1 ≤ t) :
    Calls Try.prog 16 #[.agg #[.int .i64 t, .int .i64 kp, .int .i64 ki, .int .i64 sc, .int .i64 su, .int .i64 li], .int .i64 r] w fun e w' =>
      e = .returned (.tuple #[.agg #[.int .i64 t, .int .i64 kp, .int .i64 ki, .int .i64 sc, .int .i64 (ctlSum t ki su li r), .int .i64 li], .int .i64 (ctlDuty t kp ki sc su li r)]) ∧ Below w.heap.size w w' := by
  have hb : 0 ≤ t ∧ t ≤ 400000 ∧ 0 ≤ kp ∧ kp ≤ 1048576 ∧ 0 ≤ ki ∧ ki ≤ 1048576 ∧ 1 ≤ sc ∧ sc ≤ 1073741824 ∧ 0 ≤ li ∧ li ≤ 1099511627776 ∧ 0 ≤ su ∧ su ≤ li := by simpa [ctlValid] using hv
  obtain ⟨t0, t1, p0, p1, k0, k1, s0, s1, l0, l1, u0, u1⟩ := hb
  obtain ⟨r0, r1⟩ := hr
  have m1 := mul_in ki 1048576 1074141824 (t - r) k0 k1 (by omega) (by omega) (by omega)
  have m2 := mul_in kp 1048576 1074141824 (t - r) p0 p1 (by omega) (by omega) (by omega)
  simp at m1 m2
  have HS : Hid (max 0 (min (su + ki * (t - r)) li) = ctlSum t ki su li r) := Lib.hid rfl
  have HD : Hid (max 0 (min ((kp * (t - r) + ctlSum t ki su li r) / sc) 255) = ctlDuty t kp ki sc su li r) := Lib.hid rfl
  have q0 : 0 ≤ ctlSum t ki su li r := by unfold ctlSum; omega
  have q1 : ctlSum t ki su li r ≤ li := by unfold ctlSum; omega
  go_enter Try.func16, Try.ntmps16
  go_wp2_with (first | (go_at_call 31; refine (ref49_valid _ _ _ _ _ _ _).mono ?_; rw [hv]; rintro e w1 ⟨rfl, rfl⟩))
  refine (ref01_clamp _ _ _ _).mono ?_
  rintro e w2 ⟨he, rfl⟩
  rw [HS.out] at he
  subst he
  go_wp2_with fail
  refine (ref01_floor_pos _ _ _ ?_ ?_).mono ?_
  · omega
  · omega
  rintro e w2 ⟨rfl, rfl⟩
  go_wp2_with fail
  go_region_with (go_at_call 34; refine (ref01_clamp _ _ _ _).mono ?_; rintro e w2 ⟨he, rfl⟩; rw [HD.out] at he; subst he)
  all_goals go_wp2_with fail
  all_goals refine bodyPost_ret (v := .tuple #[.agg #[.int .i64 t, .int .i64 kp, .int .i64 ki, .int .i64 sc, .int .i64 (ctlSum t ki su li r), .int .i64 li], .int .i64 (ctlDuty t kp ki sc su li r)]) (by simp [results, Try.results16, go_sem]) rfl ⟨rfl, ?_⟩
  all_goals (repeat' (first | with_reducible exact Below.refl _ _ | with_reducible refine Below.drew ?_ | with_reducible refine below_drewN ?_ _ | with_reducible refine Below.alloc ?_ ?_ _ | with_reducible refine Below.setCell ?_ ?_ _ | with_reducible refine Below.trans ?_ (Below.mono (by with_reducible assumption) ?_) | (simp; done) | (simp; omega) | omega))

set_option maxRecDepth 100000 in
set_option maxHeartbeats 4000000 in
theorem ref49_step_far (t kp ki sc su li r : Int) (w : World) (hv : ctlValid t kp ki sc su li = true) (hr : r < -1073741824 ∨ 1073741824 < r) :
    Calls Try.prog 16 #[.agg #[.int .i64 t, .int .i64 kp, .int .i64 ki, .int .i64 sc, .int .i64 su, .int .i64 li], .int .i64 r] w fun e w' =>
      e = .returned (.tuple #[.agg #[.int .i64 t, .int .i64 kp, .int .i64 ki, .int .i64 sc, .int .i64 su, .int .i64 li], .int .i64 0]) ∧ Below w.heap.size w w' := by
  rcases hr with hr | hr
  all_goals
    go_enter Try.func16, Try.ntmps16
    go_wp2_with (go_at_call 31; refine (ref49_valid _ _ _ _ _ _ _).mono ?_; rw [hv]; rintro e w1 ⟨rfl, rfl⟩)
    all_goals refine bodyPost_ret (v := .tuple #[.agg #[.int .i64 t, .int .i64 kp, .int .i64 ki, .int .i64 sc, .int .i64 su, .int .i64 li], .int .i64 0]) (by simp [results, Try.results16, go_sem]) rfl ⟨rfl, ?_⟩
    all_goals (repeat' (first | with_reducible exact Below.refl _ _ | with_reducible refine Below.drew ?_ | with_reducible refine below_drewN ?_ _ | with_reducible refine Below.alloc ?_ ?_ _ | with_reducible refine Below.setCell ?_ ?_ _ | with_reducible refine Below.trans ?_ (Below.mono (by with_reducible assumption) ?_) | (simp; done) | (simp; omega) | omega))

set_option maxRecDepth 100000 in
set_option maxHeartbeats 4000000 in
theorem ref49_step_zero (kp ki sc su li r : Int) (w : World) (hv : ctlValid 0 kp ki sc su li = true) (hr : -1073741824 ≤ r ∧ r ≤ 1073741824) :
    Calls Try.prog 16 #[.agg #[.int .i64 0, .int .i64 kp, .int .i64 ki, .int .i64 sc, .int .i64 su, .int .i64 li], .int .i64 r] w fun e w' =>
      e = .returned (.tuple #[.agg #[.int .i64 0, .int .i64 kp, .int .i64 ki, .int .i64 sc, .int .i64 0, .int .i64 li], .int .i64 0]) ∧ Below w.heap.size w w' := by
  go_enter Try.func16, Try.ntmps16
  go_wp2_with (go_at_call 31; refine (ref49_valid _ _ _ _ _ _ _).mono ?_; rw [hv]; rintro e w1 ⟨rfl, rfl⟩)
  all_goals refine bodyPost_ret (v := .tuple #[.agg #[.int .i64 0, .int .i64 kp, .int .i64 ki, .int .i64 sc, .int .i64 0, .int .i64 li], .int .i64 0]) (by simp [results, Try.results16, go_sem]) rfl ⟨rfl, ?_⟩
  all_goals (repeat' (first | with_reducible exact Below.refl _ _ | with_reducible refine Below.drew ?_ | with_reducible refine below_drewN ?_ _ | with_reducible refine Below.alloc ?_ ?_ _ | with_reducible refine Below.setCell ?_ ?_ _ | with_reducible refine Below.trans ?_ (Below.mono (by with_reducible assumption) ?_) | (simp; done) | (simp; omega) | omega))

theorem ref49_step (t kp ki sc su li r : Int) (w : World) :
    Calls Try.prog 16 #[.agg #[.int .i64 t, .int .i64 kp, .int .i64 ki, .int .i64 sc, .int .i64 su, .int .i64 li], .int .i64 r] w fun e w' =>
      e = .returned (.tuple #[.agg #[.int .i64 t, .int .i64 kp, .int .i64 ki, .int .i64 sc, .int .i64 (ctlSum2 t kp ki sc su li r), .int .i64 li], .int .i64 (ctlDuty2 t kp ki sc su li r)]) ∧ Below w.heap.size w w' := by
  cases hv : ctlValid t kp ki sc su li
  · have h := ref49_step_bad t kp ki sc su li r w hv
    unfold ctlSum2 ctlDuty2 ctlOk
    simpa [hv] using h
  by_cases hr : -1073741824 ≤ r ∧ r ≤ 1073741824
  · by_cases ht : t = 0
    · subst ht
      have h := ref49_step_zero kp ki sc su li r w hv hr
      unfold ctlSum2 ctlDuty2 ctlOk
      simpa [hv, hr] using h
    · have h := ref49_step_run t kp ki sc su li r w hv hr (by have := hv; simp [ctlValid] at this; omega)
      unfold ctlSum2 ctlDuty2 ctlOk
      simpa [hv, hr, ht] using h
  · have h := ref49_step_far t kp ki sc su li r w hv (by omega)
    unfold ctlSum2 ctlDuty2 ctlOk
    simpa [hv, hr] using h

end Go.Proofs.Ythpomgkeoogamaa
