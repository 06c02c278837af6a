/- limits.valid, for one array of counts and for two -/
import Derived.Test.YtkiadcgdmeebmaaKit6
import Derived.Test.YtkiadcgdmeebmaaKinMach
import Derived.Test.YtkiadcgdmeebmaaDdaValid
namespace Go.Proofs.Ytkiadcgdmeebmaa
open Go.RowKit
set_option linter.unusedVariables false

attribute [local go_sem] cell_past1 cell_past2 cell_past3 cell_past4 froz_past1 froz_past2 froz_past3

set_option maxRecDepth 100000 in
set_option maxHeartbeats 4000000 in
theorem lim_valid1 (f : Nat → Int) (x : Bool) (t : Int) (a b c d : Int) (g : Nat) (w : World) (hL : Live w g #[.int .i64 a, .int .i64 b, .int .i64 c, .int .i64 d]) :
    Calls Try.prog 34 #[.agg (mach f x t), .slice (some ⟨g, 0, none⟩) 1 1] w fun e w' => e = .returned (.bool (ddaValid a b c d && kinValid f t)) ∧ Below w.heap.size w w' := by
  generalize hz : kinValid f t = z
  generalize hv : ddaValid a b c d = v
  have HZ := Lib.hid hz
  have HV := Lib.hid hv
  clear hz hv
  go_enter Try.func34, Try.ntmps34
  go_upto_region 1 with (fail)
  refine gen_world (fun wx => Live wx w.heap.size (mach f x t) ∧ Live wx g #[.int .i64 a, .int .i64 b, .int .i64 c, .int .i64 d] ∧ Below w.heap.size w wx) ?_ ?_
  · refine ⟨live_new _ _ rfl, live_alloc hL _, ?_⟩
    (repeat' (first | with_reducible exact Below.refl _ _ | with_reducible refine Below.drew ?_ | with_reducible refine below_drewN ?_ _ | with_reducible refine Below.alloc ?_ ?_ _ | with_reducible refine Below.setCell ?_ ?_ _ | with_reducible refine Below.trans ?_ (Below.mono (by with_reducible assumption) ?_) | (simp; done) | (simp; omega) | omega))
  rintro wx ⟨L, L1, hb⟩
  have p0 := L.1
  have p1 := L1.1
  obtain ⟨q0, q1, q2, q3⟩ := live_four L1
  have hlt := hL.1
  cases v
  all_goals go_wp2_with fail
  all_goals refine wp_loop_rounds 2 ?_
  all_goals iterate 2
    all_goals (try (rw [rounds_succ]; go_wp2_with (first | ((with_reducible refine wpList_load_in (ty := 26) w.heap.size 0 (mach f x t) ?_ ?_ Try.underlying26 ?_ ?_ ?_); (· rfl); (· refine live_rangeAll ?_; (repeat (first | with_reducible assumption | ((with_reducible apply live_new) <;> (first | with_reducible rfl | (focus (simp; done)))) | with_reducible apply live_alloc | with_reducible apply live_drew | with_reducible apply live_drewN | ((with_reducible apply live_set_other); (case hb => first | omega | (simp; done))) | with_reducible apply live_set_same | (focus (simp; done))))); (· rfl); (· kernel_rfl)) | (go_at_call 45; refine (kin_valid_m _ _ _ _).mono ?_; rw [HZ.out]; rintro e w1 ⟨rfl, hb1⟩; have z1 := hb1.size; (try simp at z1)) | (go_at_call 42; refine (dda_valid _ _ _ _ _).mono ?_; rw [HV.out]; rintro e w1 ⟨rfl, rfl⟩))))
  all_goals go_ret
  all_goals refine ⟨ret_bool (by simp), ?_⟩
  all_goals (repeat' (first | with_reducible exact Below.refl _ _ | with_reducible refine Below.drew ?_ | with_reducible refine below_drewN ?_ _ | with_reducible refine Below.alloc ?_ ?_ _ | with_reducible refine Below.setCell ?_ ?_ _ | with_reducible refine Below.trans ?_ (Below.mono (by with_reducible assumption) ?_) | (simp; done) | (simp; omega) | omega))

set_option maxRecDepth 100000 in
set_option maxHeartbeats 4000000 in
theorem lim_valid2 (f : Nat → Int) (x : Bool) (t : Int) (a b c d a' b' c' d' : Int) (g : Nat) (w : World) (hL : Live w g #[.int .i64 a, .int .i64 b, .int .i64 c, .int .i64 d, .int .i64 a', .int .i64 b', .int .i64 c', .int .i64 d']) :
    Calls Try.prog 34 #[.agg (mach f x t), .slice (some ⟨g, 0, none⟩) 2 2] w fun e w' => e = .returned (.bool (ddaValid a b c d && (ddaValid a' b' c' d' && kinValid f t))) ∧ Below w.heap.size w w' := by
  have K1 := Lib.hid (fun w => dda_valid a b c d w)
  have K2 := Lib.hid (fun w => dda_valid a' b' c' d' w)
  generalize hz : kinValid f t = z
  generalize ddaValid a b c d = v at *
  generalize ddaValid a' b' c' d' = v' at *
  have HZ := Lib.hid hz
  clear hz
  go_enter Try.func34, Try.ntmps34
  go_upto_region 1 with (fail)
  refine gen_world (fun wx => Live wx w.heap.size (mach f x t) ∧ Live wx g #[.int .i64 a, .int .i64 b, .int .i64 c, .int .i64 d, .int .i64 a', .int .i64 b', .int .i64 c', .int .i64 d'] ∧ Below w.heap.size w wx) ?_ ?_
  · refine ⟨live_new _ _ rfl, live_alloc hL _, ?_⟩
    (repeat' (first | with_reducible exact Below.refl _ _ | with_reducible refine Below.drew ?_ | with_reducible refine below_drewN ?_ _ | with_reducible refine Below.alloc ?_ ?_ _ | with_reducible refine Below.setCell ?_ ?_ _ | with_reducible refine Below.trans ?_ (Below.mono (by with_reducible assumption) ?_) | (simp; done) | (simp; omega) | omega))
  rintro wx ⟨L, L1, hb⟩
  have p0 := L.1
  have p1 := L1.1
  obtain ⟨q0, q1, q2, q3, q4, q5, q6, q7⟩ : wx.cell? ⟨g, 0, none⟩ = some (.int .i64 a) ∧ wx.cell? ⟨g, 1, none⟩ = some (.int .i64 b) ∧ wx.cell? ⟨g, 2, none⟩ = some (.int .i64 c) ∧ wx.cell? ⟨g, 3, none⟩ = some (.int .i64 d) ∧ wx.cell? ⟨g, 4, none⟩ = some (.int .i64 a') ∧ wx.cell? ⟨g, 5, none⟩ = some (.int .i64 b') ∧ wx.cell? ⟨g, 6, none⟩ = some (.int .i64 c') ∧ wx.cell? ⟨g, 7, none⟩ = some (.int .i64 d') := ⟨L1.2.1 0, L1.2.1 1, L1.2.1 2, L1.2.1 3, L1.2.1 4, L1.2.1 5, L1.2.1 6, L1.2.1 7⟩
  have hlt := hL.1
  cases v
  case' true => cases v'
  all_goals go_wp2_with fail
  all_goals refine wp_loop_rounds 3 ?_
  all_goals iterate 3
    all_goals (try (rw [rounds_succ]; go_wp2_with (first | ((with_reducible refine wpList_load_in (ty := 26) w.heap.size 0 (mach f x t) ?_ ?_ Try.underlying26 ?_ ?_ ?_); (· rfl); (· refine live_rangeAll ?_; (repeat (first | with_reducible assumption | ((with_reducible apply live_new) <;> (first | with_reducible rfl | (focus (simp; done)))) | with_reducible apply live_alloc | with_reducible apply live_drew | with_reducible apply live_drewN | ((with_reducible apply live_set_other); (case hb => first | omega | (simp; done))) | with_reducible apply live_set_same | (focus (simp; done))))); (· rfl); (· kernel_rfl)) | (go_at_call 45; refine (kin_valid_m _ _ _ _).mono ?_; rw [HZ.out]; rintro e w1 ⟨rfl, hb1⟩; have z1 := hb1.size; (try simp at z1)) | (go_at_call 42; with_reducible refine (K1.out _).mono ?_; rintro e w1 ⟨rfl, rfl⟩) | (go_at_call 42; with_reducible refine (K2.out _).mono ?_; rintro e w1 ⟨rfl, rfl⟩))))
  all_goals go_ret
  all_goals refine ⟨ret_bool (by simp), ?_⟩
  all_goals (repeat' (first | with_reducible exact Below.refl _ _ | with_reducible refine Below.drew ?_ | with_reducible refine below_drewN ?_ _ | with_reducible refine Below.alloc ?_ ?_ _ | with_reducible refine Below.setCell ?_ ?_ _ | with_reducible refine Below.trans ?_ (Below.mono (by with_reducible assumption) ?_) | (simp; done) | (simp; omega) | omega))
end Go.Proofs.Ytkiadcgdmeebmaa
