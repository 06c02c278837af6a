/- What Position returns, in the program and in the reference, for all machines and positions of motors -/
import Derived.Outline
import Derived.Handy
import Derived.RegionTactic
import Derived.Deep.RegionHeld3
import Derived.Deep.QuietTactic
import Derived.BigQuiet
import Derived.Test.YthodfmmmddfkmaaKit6
import Derived.Test.YthodfmmmddfkmaaKinSteps
import Derived.Test.YthodfmmmddfkmaaNumFloor
import Derived.Test.YthodfmmmddfkmaaDdaEq
namespace Go.Proofs.Ythodfmmmddfkmaa
open Go.RowKit
set_option linter.unusedVariables false

attribute [local go_sem] cell_past1 cell_past2 cell_past3 cell_past4 froz_past1 froz_past2 froz_past3
attribute [local go_sem ↓] loadM_in

/-- What the positions of the first two motors stand for. -/
def poQ0 (x : Bool) (a b : Int) : Int := if x then (a + b) / 2 else a
def poQ1 (x : Bool) (a b : Int) : Int := if x then (a - b) / 2 else b
def poFar (a b c d : Int) : Bool := witB a 281474976710656 && (witB b 281474976710656 && (witB c 281474976710656 && witB d 281474976710656))
def poOk (f : Nat → Int) (x : Bool) (t a b c d : Int) : Bool := poFar a b c d && (unOk f t 0 (poQ0 x a b) && (unOk f t 1 (poQ1 x a b) && (unOk f t 2 c && unOk f t 3 d)))
def poV (f : Nat → Int) (x : Bool) (t a b c d : Int) (j : Nat) : Int :=
  if poOk f x t a b c d then (if j = 0 then unV f t 0 (poQ0 x a b) else if j = 1 then unV f t 1 (poQ1 x a b) else if j = 2 then unV f t 2 c else unV f t 3 d) else 0
def poE (f : Nat → Int) (x : Bool) (t a b c d : Int) : Int := if poOk f x t a b c d then 0 else 1

set_option maxRecDepth 100000 in
set_option maxHeartbeats 4000000 in
theorem kin_position_far0 (f : Nat → Int) (x : Bool) (t a b c d : Int) (w : World) (HW0 : Hid (witB a 281474976710656 = false)) :
    Calls Try.prog 25 #[.agg (mach f x t), .agg #[.int .i64 a, .int .i64 b, .int .i64 c, .int .i64 d]] w fun e w' => e = .returned (.tuple #[.agg #[.int .i64 0, .int .i64 0, .int .i64 0], .int .i64 0, .int .i64 1]) ∧ Below w.heap.size w w' := by
  obtain ⟨j0, j1, j2, j3⟩ := arr_idx a b c d
  go_enter Try.func25, Try.ntmps25
  go_upto_region 1 with (fail)
  refine gen_world (fun wx => Live wx (w.heap.size) (mach f x t) ∧ Live wx (w.heap.size + 1) #[.int .i64 a, .int .i64 b, .int .i64 c, .int .i64 d] ∧ Live wx (w.heap.size + 2) #[.int .i64 0, .int .i64 0, .int .i64 0] ∧ wx.heap.size = w.heap.size + 3 ∧ Below w.heap.size w wx) ?_ ?_
  · refine ⟨live_alloc (live_alloc (live_new _ _ rfl) _) _, live_alloc (live_new _ _ (by simp)) _, live_new _ _ (by simp), by simp, ?_⟩
    (repeat' (first | with_reducible exact Below.refl _ _ | with_reducible refine Below.drew ?_ | with_reducible refine below_drewN ?_ _ | with_reducible refine Below.alloc ?_ ?_ _ | with_reducible refine Below.setCell ?_ ?_ _ | with_reducible refine Below.trans ?_ (Below.mono (by with_reducible assumption) ?_) | (simp; done) | (simp; omega) | omega))
  rintro wx ⟨L, L1, L2, z0, hb⟩
  obtain ⟨p0, p1, p2, p3⟩ := live_four L1
  go_wp2_with fail
  clear p0 p1 p2 p3
  refine wp_loop_rounds 5 ?_
  obtain ⟨y0, y1, y2⟩ : wx.cell? ⟨w.heap.size + 2, 0, none⟩ = some (.int .i64 0) ∧ wx.cell? ⟨w.heap.size + 2, 1, none⟩ = some (.int .i64 0) ∧ wx.cell? ⟨w.heap.size + 2, 2, none⟩ = some (.int .i64 0) := ⟨L2.2.1 0, L2.2.1 1, L2.2.1 2⟩; have fz := L2.2.2
  rw [rounds_succ]
  go_wp2_with (go_at_call 39; ((with_reducible refine (kin_within a 281474976710656 _ (by decide) (by decide)).mono ?_); rw [HW0.out]; rintro e wf ⟨rfl, rfl⟩))
  refine bodyPost_ret (v := .tuple #[.agg #[.int .i64 0, .int .i64 0, .int .i64 0], .int .i64 0, .int .i64 1]) (by simp [results, Try.results25, go_sem, y0, y1, y2]) rfl ⟨rfl, ?_⟩
  (repeat' (first | with_reducible exact Below.refl _ _ | with_reducible refine Below.drew ?_ | with_reducible refine below_drewN ?_ _ | with_reducible refine Below.alloc ?_ ?_ _ | with_reducible refine Below.setCell ?_ ?_ _ | with_reducible refine Below.trans ?_ (Below.mono (by with_reducible assumption) ?_) | (simp; done) | (simp; omega) | omega))

set_option maxRecDepth 100000 in
set_option maxHeartbeats 4000000 in
theorem kin_position_far1 (f : Nat → Int) (x : Bool) (t a b c d : Int) (w : World) (HW0 : Hid (witB a 281474976710656 = true)) (HW1 : Hid (witB b 281474976710656 = false)) :
    Calls Try.prog 25 #[.agg (mach f x t), .agg #[.int .i64 a, .int .i64 b, .int .i64 c, .int .i64 d]] w fun e w' => e = .returned (.tuple #[.agg #[.int .i64 0, .int .i64 0, .int .i64 0], .int .i64 0, .int .i64 1]) ∧ Below w.heap.size w w' := by
  obtain ⟨j0, j1, j2, j3⟩ := arr_idx a b c d
  go_enter Try.func25, Try.ntmps25
  go_upto_region 1 with (fail)
  refine gen_world (fun wx => Live wx (w.heap.size) (mach f x t) ∧ Live wx (w.heap.size + 1) #[.int .i64 a, .int .i64 b, .int .i64 c, .int .i64 d] ∧ Live wx (w.heap.size + 2) #[.int .i64 0, .int .i64 0, .int .i64 0] ∧ wx.heap.size = w.heap.size + 3 ∧ Below w.heap.size w wx) ?_ ?_
  · refine ⟨live_alloc (live_alloc (live_new _ _ rfl) _) _, live_alloc (live_new _ _ (by simp)) _, live_new _ _ (by simp), by simp, ?_⟩
    (repeat' (first | with_reducible exact Below.refl _ _ | with_reducible refine Below.drew ?_ | with_reducible refine below_drewN ?_ _ | with_reducible refine Below.alloc ?_ ?_ _ | with_reducible refine Below.setCell ?_ ?_ _ | with_reducible refine Below.trans ?_ (Below.mono (by with_reducible assumption) ?_) | (simp; done) | (simp; omega) | omega))
  rintro wx ⟨L, L1, L2, z0, hb⟩
  obtain ⟨p0, p1, p2, p3⟩ := live_four L1
  go_wp2_with fail
  clear p0 p1 p2 p3
  refine wp_loop_rounds 5 ?_
  obtain ⟨y0, y1, y2⟩ : wx.cell? ⟨w.heap.size + 2, 0, none⟩ = some (.int .i64 0) ∧ wx.cell? ⟨w.heap.size + 2, 1, none⟩ = some (.int .i64 0) ∧ wx.cell? ⟨w.heap.size + 2, 2, none⟩ = some (.int .i64 0) := ⟨L2.2.1 0, L2.2.1 1, L2.2.1 2⟩; have fz := L2.2.2
  rw [rounds_succ]
  go_wp2_with (go_at_call 39; ((with_reducible refine (kin_within a 281474976710656 _ (by decide) (by decide)).mono ?_); rw [HW0.out]; rintro e wf ⟨rfl, rfl⟩))
  rw [rounds_succ]
  go_wp2_with (go_at_call 39; ((with_reducible refine (kin_within b 281474976710656 _ (by decide) (by decide)).mono ?_); rw [HW1.out]; rintro e wf ⟨rfl, rfl⟩))
  refine bodyPost_ret (v := .tuple #[.agg #[.int .i64 0, .int .i64 0, .int .i64 0], .int .i64 0, .int .i64 1]) (by simp [results, Try.results25, go_sem, y0, y1, y2]) rfl ⟨rfl, ?_⟩
  (repeat' (first | with_reducible exact Below.refl _ _ | with_reducible refine Below.drew ?_ | with_reducible refine below_drewN ?_ _ | with_reducible refine Below.alloc ?_ ?_ _ | with_reducible refine Below.setCell ?_ ?_ _ | with_reducible refine Below.trans ?_ (Below.mono (by with_reducible assumption) ?_) | (simp; done) | (simp; omega) | omega))

set_option maxRecDepth 100000 in
set_option maxHeartbeats 4000000 in
theorem kin_position_far2 (f : Nat → Int) (x : Bool) (t a b c d : Int) (w : World) (HW0 : Hid (witB a 281474976710656 = true)) (HW1 : Hid (witB b 281474976710656 = true)) (HW2 : Hid (witB c 281474976710656 = false)) :
    Calls Try.prog 25 #[.agg (mach f x t), .agg #[.int .i64 a, .int .i64 b, .int .i64 c, .int .i64 d]] w fun e w' => e = .returned (.tuple #[.agg #[.int .i64 0, .int .i64 0, .int .i64 0], .int .i64 0, .int .i64 1]) ∧ Below w.heap.size w w' := by
  obtain ⟨j0, j1, j2, j3⟩ := arr_idx a b c d
  go_enter Try.func25, Try.ntmps25
  go_upto_region 1 with (fail)
  refine gen_world (fun wx => Live wx (w.heap.size) (mach f x t) ∧ Live wx (w.heap.size + 1) #[.int .i64 a, .int .i64 b, .int .i64 c, .int .i64 d] ∧ Live wx (w.heap.size + 2) #[.int .i64 0, .int .i64 0, .int .i64 0] ∧ wx.heap.size = w.heap.size + 3 ∧ Below w.heap.size w wx) ?_ ?_
  · refine ⟨live_alloc (live_alloc (live_new _ _ rfl) _) _, live_alloc (live_new _ _ (by simp)) _, live_new _ _ (by simp), by simp, ?_⟩
    (repeat' (first | with_reducible exact Below.refl _ _ | with_reducible refine Below.drew ?_ | with_reducible refine below_drewN ?_ _ | with_reducible refine Below.alloc ?_ ?_ _ | with_reducible refine Below.setCell ?_ ?_ _ | with_reducible refine Below.trans ?_ (Below.mono (by with_reducible assumption) ?_) | (simp; done) | (simp; omega) | omega))
  rintro wx ⟨L, L1, L2, z0, hb⟩
  obtain ⟨p0, p1, p2, p3⟩ := live_four L1
  go_wp2_with fail
  clear p0 p1 p2 p3
  refine wp_loop_rounds 5 ?_
  obtain ⟨y0, y1, y2⟩ : wx.cell? ⟨w.heap.size + 2, 0, none⟩ = some (.int .i64 0) ∧ wx.cell? ⟨w.heap.size + 2, 1, none⟩ = some (.int .i64 0) ∧ wx.cell? ⟨w.heap.size + 2, 2, none⟩ = some (.int .i64 0) := ⟨L2.2.1 0, L2.2.1 1, L2.2.1 2⟩; have fz := L2.2.2
  rw [rounds_succ]
  go_wp2_with (go_at_call 39; ((with_reducible refine (kin_within a 281474976710656 _ (by decide) (by decide)).mono ?_); rw [HW0.out]; rintro e wf ⟨rfl, rfl⟩))
  rw [rounds_succ]
  go_wp2_with (go_at_call 39; ((with_reducible refine (kin_within b 281474976710656 _ (by decide) (by decide)).mono ?_); rw [HW1.out]; rintro e wf ⟨rfl, rfl⟩))
  rw [rounds_succ]
  go_wp2_with (go_at_call 39; ((with_reducible refine (kin_within c 281474976710656 _ (by decide) (by decide)).mono ?_); rw [HW2.out]; rintro e wf ⟨rfl, rfl⟩))
  refine bodyPost_ret (v := .tuple #[.agg #[.int .i64 0, .int .i64 0, .int .i64 0], .int .i64 0, .int .i64 1]) (by simp [results, Try.results25, go_sem, y0, y1, y2]) rfl ⟨rfl, ?_⟩
  (repeat' (first | with_reducible exact Below.refl _ _ | with_reducible refine Below.drew ?_ | with_reducible refine below_drewN ?_ _ | with_reducible refine Below.alloc ?_ ?_ _ | with_reducible refine Below.setCell ?_ ?_ _ | with_reducible refine Below.trans ?_ (Below.mono (by with_reducible assumption) ?_) | (simp; done) | (simp; omega) | omega))

set_option maxRecDepth 100000 in
set_option maxHeartbeats 4000000 in
theorem kin_position_far3 (f : Nat → Int) (x : Bool) (t a b c d : Int) (w : World) (HW0 : Hid (witB a 281474976710656 = true)) (HW1 : Hid (witB b 281474976710656 = true)) (HW2 : Hid (witB c 281474976710656 = true)) (HW3 : Hid (witB d 281474976710656 = false)) :
    Calls Try.prog 25 #[.agg (mach f x t), .agg #[.int .i64 a, .int .i64 b, .int .i64 c, .int .i64 d]] w fun e w' => e = .returned (.tuple #[.agg #[.int .i64 0, .int .i64 0, .int .i64 0], .int .i64 0, .int .i64 1]) ∧ Below w.heap.size w w' := by
  obtain ⟨j0, j1, j2, j3⟩ := arr_idx a b c d
  go_enter Try.func25, Try.ntmps25
  go_upto_region 1 with (fail)
  refine gen_world (fun wx => Live wx (w.heap.size) (mach f x t) ∧ Live wx (w.heap.size + 1) #[.int .i64 a, .int .i64 b, .int .i64 c, .int .i64 d] ∧ Live wx (w.heap.size + 2) #[.int .i64 0, .int .i64 0, .int .i64 0] ∧ wx.heap.size = w.heap.size + 3 ∧ Below w.heap.size w wx) ?_ ?_
  · refine ⟨live_alloc (live_alloc (live_new _ _ rfl) _) _, live_alloc (live_new _ _ (by simp)) _, live_new _ _ (by simp), by simp, ?_⟩
    (repeat' (first | with_reducible exact Below.refl _ _ | with_reducible refine Below.drew ?_ | with_reducible refine below_drewN ?_ _ | with_reducible refine Below.alloc ?_ ?_ _ | with_reducible refine Below.setCell ?_ ?_ _ | with_reducible refine Below.trans ?_ (Below.mono (by with_reducible assumption) ?_) | (simp; done) | (simp; omega) | omega))
  rintro wx ⟨L, L1, L2, z0, hb⟩
  obtain ⟨p0, p1, p2, p3⟩ := live_four L1
  go_wp2_with fail
  clear p0 p1 p2 p3
  refine wp_loop_rounds 5 ?_
  obtain ⟨y0, y1, y2⟩ : wx.cell? ⟨w.heap.size + 2, 0, none⟩ = some (.int .i64 0) ∧ wx.cell? ⟨w.heap.size + 2, 1, none⟩ = some (.int .i64 0) ∧ wx.cell? ⟨w.heap.size + 2, 2, none⟩ = some (.int .i64 0) := ⟨L2.2.1 0, L2.2.1 1, L2.2.1 2⟩; have fz := L2.2.2
  rw [rounds_succ]
  go_wp2_with (go_at_call 39; ((with_reducible refine (kin_within a 281474976710656 _ (by decide) (by decide)).mono ?_); rw [HW0.out]; rintro e wf ⟨rfl, rfl⟩))
  rw [rounds_succ]
  go_wp2_with (go_at_call 39; ((with_reducible refine (kin_within b 281474976710656 _ (by decide) (by decide)).mono ?_); rw [HW1.out]; rintro e wf ⟨rfl, rfl⟩))
  rw [rounds_succ]
  go_wp2_with (go_at_call 39; ((with_reducible refine (kin_within c 281474976710656 _ (by decide) (by decide)).mono ?_); rw [HW2.out]; rintro e wf ⟨rfl, rfl⟩))
  rw [rounds_succ]
  go_wp2_with (go_at_call 39; ((with_reducible refine (kin_within d 281474976710656 _ (by decide) (by decide)).mono ?_); rw [HW3.out]; rintro e wf ⟨rfl, rfl⟩))
  refine bodyPost_ret (v := .tuple #[.agg #[.int .i64 0, .int .i64 0, .int .i64 0], .int .i64 0, .int .i64 1]) (by simp [results, Try.results25, go_sem, y0, y1, y2]) rfl ⟨rfl, ?_⟩
  (repeat' (first | with_reducible exact Below.refl _ _ | with_reducible refine Below.drew ?_ | with_reducible refine below_drewN ?_ _ | with_reducible refine Below.alloc ?_ ?_ _ | with_reducible refine Below.setCell ?_ ?_ _ | with_reducible refine Below.trans ?_ (Below.mono (by with_reducible assumption) ?_) | (simp; done) | (simp; omega) | omega))

set_option maxRecDepth 100000 in
set_option maxHeartbeats 4000000 in
theorem kin_position_no0 (f : Nat → Int) (x : Bool) (t a b c d q0 q1 sa sb sc sd : Int) (w : World) (hq : x = true → (a + b) / 2 = q0 ∧ (a - b) / 2 = q1) (hq2 : x = false → q0 = a ∧ q1 = b) (ba : -281474976710656 ≤ a ∧ a ≤ 281474976710656) (bb : -281474976710656 ≤ b ∧ b ≤ 281474976710656) (HW0 : Hid (witB a 281474976710656 = true)) (HW1 : Hid (witB b 281474976710656 = true)) (HW2 : Hid (witB c 281474976710656 = true)) (HW3 : Hid (witB d 281474976710656 = true)) (HV0 : Hid (unV f t 0 q0 = sa)) (HE0 : Hid (unE f t 0 q0 = 1)) :
    Calls Try.prog 25 #[.agg (mach f x t), .agg #[.int .i64 a, .int .i64 b, .int .i64 c, .int .i64 d]] w fun e w' => e = .returned (.tuple #[.agg #[.int .i64 0, .int .i64 0, .int .i64 0], .int .i64 0, .int .i64 1]) ∧ Below w.heap.size w w' := by
  obtain ⟨j0, j1, j2, j3⟩ := arr_idx a b c d
  obtain ⟨i0, i1, i2, i3⟩ := arr_idx q0 q1 c d
  obtain ⟨ba0, ba1⟩ := ba
  obtain ⟨bb0, bb1⟩ := bb
  go_enter Try.func25, Try.ntmps25
  go_upto_region 1 with (fail)
  refine gen_world (fun wx => Live wx (w.heap.size) (mach f x t) ∧ Live wx (w.heap.size + 1) #[.int .i64 a, .int .i64 b, .int .i64 c, .int .i64 d] ∧ Live wx (w.heap.size + 2) #[.int .i64 0, .int .i64 0, .int .i64 0] ∧ wx.heap.size = w.heap.size + 3 ∧ Below w.heap.size w wx) ?_ ?_
  · refine ⟨live_alloc (live_alloc (live_new _ _ rfl) _) _, live_alloc (live_new _ _ (by simp)) _, live_new _ _ (by simp), by simp, ?_⟩
    (repeat' (first | with_reducible exact Below.refl _ _ | with_reducible refine Below.drew ?_ | with_reducible refine below_drewN ?_ _ | with_reducible refine Below.alloc ?_ ?_ _ | with_reducible refine Below.setCell ?_ ?_ _ | with_reducible refine Below.trans ?_ (Below.mono (by with_reducible assumption) ?_) | (simp; done) | (simp; omega) | omega))
  rintro wx ⟨L, L1, L2, z0, hb⟩
  have c28 := L.2.1 28
  rw [mach_28] at c28
  obtain ⟨p0, p1, p2, p3⟩ := live_four L1
  go_wp2_with fail
  clear p0 p1 p2 p3
  refine wp_loop_rounds 5 ?_
  rw [rounds_succ]
  go_wp2_with (go_at_call 39; ((with_reducible refine (kin_within a 281474976710656 _ (by decide) (by decide)).mono ?_); rw [HW0.out]; rintro e wf ⟨rfl, rfl⟩))
  rw [rounds_succ]
  go_wp2_with (go_at_call 39; ((with_reducible refine (kin_within b 281474976710656 _ (by decide) (by decide)).mono ?_); rw [HW1.out]; rintro e wf ⟨rfl, rfl⟩))
  rw [rounds_succ]
  go_wp2_with (go_at_call 39; ((with_reducible refine (kin_within c 281474976710656 _ (by decide) (by decide)).mono ?_); rw [HW2.out]; rintro e wf ⟨rfl, rfl⟩))
  rw [rounds_succ]
  go_wp2_with (go_at_call 39; ((with_reducible refine (kin_within d 281474976710656 _ (by decide) (by decide)).mono ?_); rw [HW3.out]; rintro e wf ⟨rfl, rfl⟩))
  rw [rounds_succ]
  go_upto_region 7 with (fail)
  obtain ⟨p0, p1, p2, p3⟩ := live_four L1
  have fp := L1.2.2
  have P1 := L1.1
  have HQ := Lib.hid hq
  have HQ2 := Lib.hid hq2
  clear hq hq2
  cases x
  · obtain ⟨rfl, rfl⟩ := HQ2.out rfl
    clear HQ HQ2
    go_upto_region 11 with (go_at_call 44; refine (num_floor_pos _ _ _ ⟨?_, ?_⟩ ⟨?_, ?_⟩).mono ?_; (· omega); (· omega); (· omega); (· omega); rintro e wf ⟨rfl, rfl⟩)
    refine gen_world (fun wx => Live wx (w.heap.size) (mach f false t) ∧ Live wx (w.heap.size + 1) #[.int .i64 q0, .int .i64 q1, .int .i64 c, .int .i64 d] ∧ Live wx (w.heap.size + 2) #[.int .i64 0, .int .i64 0, .int .i64 0] ∧ wx.heap.size = w.heap.size + 3 ∧ Below w.heap.size w wx) ⟨L, L1, L2, z0, hb⟩ ?_
    clear L L1 L2 z0 hb p0 p1 p2 p3 fp P1 c28
    rintro wx ⟨L, L1, L2, z0, hb⟩
    obtain ⟨p0, p1, p2, p3⟩ := live_four L1
    go_upto_region 12 with (fail)
    refine gen_world (fun wx => Live wx (w.heap.size) (mach f false t) ∧ Live wx (w.heap.size + 1) #[.int .i64 q0, .int .i64 q1, .int .i64 c, .int .i64 d] ∧ Live wx (w.heap.size + 2) #[.int .i64 0, .int .i64 0, .int .i64 0] ∧ Live wx (w.heap.size + 3) #[.int .i64 q0, .int .i64 q1, .int .i64 c, .int .i64 d] ∧ Below w.heap.size w wx) ?_ ?_
    · refine ⟨live_alloc L _, live_alloc L1 _, live_alloc L2 _, live_new _ _ z0, ?_⟩
      exact hb.alloc (by omega) _
    clear L L1 L2 z0 hb p0 p1 p2 p3
    rintro wx ⟨L, L1, L2, L3, hb⟩
    obtain ⟨p0, p1, p2, p3⟩ := live_four L1
    go_wp2_with fail
    clear p0 p1 p2 p3 L1
    refine wp_loop_rounds 5 ?_
    rw [rounds_succ]
    go_wp2_with (first | (((with_reducible refine wpList_load_in (ty := 26) (w.heap.size) 0 (mach f false t) ?_ ?_ Try.underlying26 ?_ ?_ ?_); (· rfl); (· exact live_rangeAll L); (· rfl); (· kernel_rfl))) | (go_at_call 21; ((with_reducible refine (kin_units f false t 0 q0 _).mono ?_); rw [HV0.out, HE0.out]; rintro e w1 ⟨rfl, hb1⟩; have z1 := hb1.size; have LM := live_below hb1 L; have LZ := live_below hb1 L2; have LO := live_below hb1 L3; clear L L2 L3; obtain ⟨o0, o1, o2, o3⟩ := live_four LO; obtain ⟨y0, y1, y2⟩ : w1.cell? ⟨w.heap.size + 2, 0, none⟩ = some (.int .i64 0) ∧ w1.cell? ⟨w.heap.size + 2, 1, none⟩ = some (.int .i64 0) ∧ w1.cell? ⟨w.heap.size + 2, 2, none⟩ = some (.int .i64 0) := ⟨LZ.2.1 0, LZ.2.1 1, LZ.2.1 2⟩; have fo := LO.2.2; have fz := LZ.2.2; have hb := hb.trans (hb1.mono hb.size); clear hb1)))
    refine bodyPost_ret (v := .tuple #[.agg #[.int .i64 0, .int .i64 0, .int .i64 0], .int .i64 0, .int .i64 1]) (by simp [results, Try.results25, go_sem, y0, y1, y2]) rfl ⟨rfl, ?_⟩
    (repeat' (first | with_reducible exact Below.refl _ _ | with_reducible refine Below.drew ?_ | with_reducible refine below_drewN ?_ _ | with_reducible refine Below.alloc ?_ ?_ _ | with_reducible refine Below.setCell ?_ ?_ _ | with_reducible refine Below.trans ?_ (Below.mono (by with_reducible assumption) ?_) | (simp; done) | (simp; omega) | omega))
  · obtain ⟨hqa, hqb⟩ := HQ.out rfl
    have HA := Lib.hid hqa
    have HB := Lib.hid hqb
    clear hqa hqb
    clear HQ HQ2
    go_upto_region 11 with (go_at_call 44; refine (num_floor_pos _ _ _ ⟨?_, ?_⟩ ⟨?_, ?_⟩).mono ?_; (· omega); (· omega); (· omega); (· omega); rintro e wf ⟨rfl, rfl⟩)
    refine gen_world (fun wx => Live wx (w.heap.size) (mach f true t) ∧ Live wx (w.heap.size + 1) #[.int .i64 q0, .int .i64 q1, .int .i64 c, .int .i64 d] ∧ Live wx (w.heap.size + 2) #[.int .i64 0, .int .i64 0, .int .i64 0] ∧ wx.heap.size = w.heap.size + 3 ∧ Below w.heap.size w wx) ?_ ?_
    · refine ⟨live_set_other (live_set_other L _ _ _ (by omega)) _ _ _ (by omega), live_conv (live_set_same (live_conv (live_set_same L1 0 _ (by simp)) rfl) 1 _ (by simp)) (by simp [HA.out, HB.out]), live_set_other (live_set_other L2 _ _ _ (by omega)) _ _ _ (by omega), by simpa [World.setCell] using z0, ?_⟩
      exact (hb.setCell (show w.heap.size ≤ w.heap.size + 1 by omega) _).setCell (show w.heap.size ≤ w.heap.size + 1 by omega) _
    clear L L1 L2 z0 hb p0 p1 p2 p3 fp P1 c28
    rintro wx ⟨L, L1, L2, z0, hb⟩
    obtain ⟨p0, p1, p2, p3⟩ := live_four L1
    go_upto_region 12 with (fail)
    refine gen_world (fun wx => Live wx (w.heap.size) (mach f true t) ∧ Live wx (w.heap.size + 1) #[.int .i64 q0, .int .i64 q1, .int .i64 c, .int .i64 d] ∧ Live wx (w.heap.size + 2) #[.int .i64 0, .int .i64 0, .int .i64 0] ∧ Live wx (w.heap.size + 3) #[.int .i64 q0, .int .i64 q1, .int .i64 c, .int .i64 d] ∧ Below w.heap.size w wx) ?_ ?_
    · refine ⟨live_alloc L _, live_alloc L1 _, live_alloc L2 _, live_new _ _ z0, ?_⟩
      exact hb.alloc (by omega) _
    clear L L1 L2 z0 hb p0 p1 p2 p3
    rintro wx ⟨L, L1, L2, L3, hb⟩
    obtain ⟨p0, p1, p2, p3⟩ := live_four L1
    go_wp2_with fail
    clear p0 p1 p2 p3 L1
    refine wp_loop_rounds 5 ?_
    rw [rounds_succ]
    go_wp2_with (first | (((with_reducible refine wpList_load_in (ty := 26) (w.heap.size) 0 (mach f true t) ?_ ?_ Try.underlying26 ?_ ?_ ?_); (· rfl); (· exact live_rangeAll L); (· rfl); (· kernel_rfl))) | (go_at_call 21; ((with_reducible refine (kin_units f true t 0 q0 _).mono ?_); rw [HV0.out, HE0.out]; rintro e w1 ⟨rfl, hb1⟩; have z1 := hb1.size; have LM := live_below hb1 L; have LZ := live_below hb1 L2; have LO := live_below hb1 L3; clear L L2 L3; obtain ⟨o0, o1, o2, o3⟩ := live_four LO; obtain ⟨y0, y1, y2⟩ : w1.cell? ⟨w.heap.size + 2, 0, none⟩ = some (.int .i64 0) ∧ w1.cell? ⟨w.heap.size + 2, 1, none⟩ = some (.int .i64 0) ∧ w1.cell? ⟨w.heap.size + 2, 2, none⟩ = some (.int .i64 0) := ⟨LZ.2.1 0, LZ.2.1 1, LZ.2.1 2⟩; have fo := LO.2.2; have fz := LZ.2.2; have hb := hb.trans (hb1.mono hb.size); clear hb1)))
    refine bodyPost_ret (v := .tuple #[.agg #[.int .i64 0, .int .i64 0, .int .i64 0], .int .i64 0, .int .i64 1]) (by simp [results, Try.results25, go_sem, y0, y1, y2]) rfl ⟨rfl, ?_⟩
    (repeat' (first | with_reducible exact Below.refl _ _ | with_reducible refine Below.drew ?_ | with_reducible refine below_drewN ?_ _ | with_reducible refine Below.alloc ?_ ?_ _ | with_reducible refine Below.setCell ?_ ?_ _ | with_reducible refine Below.trans ?_ (Below.mono (by with_reducible assumption) ?_) | (simp; done) | (simp; omega) | omega))

set_option maxRecDepth 100000 in
set_option maxHeartbeats 4000000 in
theorem kin_position_no1 (f : Nat → Int) (x : Bool) (t a b c d q0 q1 sa sb sc sd : Int) (w : World) (hq : x = true → (a + b) / 2 = q0 ∧ (a - b) / 2 = q1) (hq2 : x = false → q0 = a ∧ q1 = b) (ba : -281474976710656 ≤ a ∧ a ≤ 281474976710656) (bb : -281474976710656 ≤ b ∧ b ≤ 281474976710656) (HW0 : Hid (witB a 281474976710656 = true)) (HW1 : Hid (witB b 281474976710656 = true)) (HW2 : Hid (witB c 281474976710656 = true)) (HW3 : Hid (witB d 281474976710656 = true)) (HV0 : Hid (unV f t 0 q0 = sa)) (HE0 : Hid (unE f t 0 q0 = 0)) (HV1 : Hid (unV f t 1 q1 = sb)) (HE1 : Hid (unE f t 1 q1 = 1)) :
    Calls Try.prog 25 #[.agg (mach f x t), .agg #[.int .i64 a, .int .i64 b, .int .i64 c, .int .i64 d]] w fun e w' => e = .returned (.tuple #[.agg #[.int .i64 0, .int .i64 0, .int .i64 0], .int .i64 0, .int .i64 1]) ∧ Below w.heap.size w w' := by
  obtain ⟨j0, j1, j2, j3⟩ := arr_idx a b c d
  obtain ⟨i0, i1, i2, i3⟩ := arr_idx q0 q1 c d
  obtain ⟨ba0, ba1⟩ := ba
  obtain ⟨bb0, bb1⟩ := bb
  go_enter Try.func25, Try.ntmps25
  go_upto_region 1 with (fail)
  refine gen_world (fun wx => Live wx (w.heap.size) (mach f x t) ∧ Live wx (w.heap.size + 1) #[.int .i64 a, .int .i64 b, .int .i64 c, .int .i64 d] ∧ Live wx (w.heap.size + 2) #[.int .i64 0, .int .i64 0, .int .i64 0] ∧ wx.heap.size = w.heap.size + 3 ∧ Below w.heap.size w wx) ?_ ?_
  · refine ⟨live_alloc (live_alloc (live_new _ _ rfl) _) _, live_alloc (live_new _ _ (by simp)) _, live_new _ _ (by simp), by simp, ?_⟩
    (repeat' (first | with_reducible exact Below.refl _ _ | with_reducible refine Below.drew ?_ | with_reducible refine below_drewN ?_ _ | with_reducible refine Below.alloc ?_ ?_ _ | with_reducible refine Below.setCell ?_ ?_ _ | with_reducible refine Below.trans ?_ (Below.mono (by with_reducible assumption) ?_) | (simp; done) | (simp; omega) | omega))
  rintro wx ⟨L, L1, L2, z0, hb⟩
  have c28 := L.2.1 28
  rw [mach_28] at c28
  obtain ⟨p0, p1, p2, p3⟩ := live_four L1
  go_wp2_with fail
  clear p0 p1 p2 p3
  refine wp_loop_rounds 5 ?_
  rw [rounds_succ]
  go_wp2_with (go_at_call 39; ((with_reducible refine (kin_within a 281474976710656 _ (by decide) (by decide)).mono ?_); rw [HW0.out]; rintro e wf ⟨rfl, rfl⟩))
  rw [rounds_succ]
  go_wp2_with (go_at_call 39; ((with_reducible refine (kin_within b 281474976710656 _ (by decide) (by decide)).mono ?_); rw [HW1.out]; rintro e wf ⟨rfl, rfl⟩))
  rw [rounds_succ]
  go_wp2_with (go_at_call 39; ((with_reducible refine (kin_within c 281474976710656 _ (by decide) (by decide)).mono ?_); rw [HW2.out]; rintro e wf ⟨rfl, rfl⟩))
  rw [rounds_succ]
  go_wp2_with (go_at_call 39; ((with_reducible refine (kin_within d 281474976710656 _ (by decide) (by decide)).mono ?_); rw [HW3.out]; rintro e wf ⟨rfl, rfl⟩))
  rw [rounds_succ]
  go_upto_region 7 with (fail)
  obtain ⟨p0, p1, p2, p3⟩ := live_four L1
  have fp := L1.2.2
  have P1 := L1.1
  have HQ := Lib.hid hq
  have HQ2 := Lib.hid hq2
  clear hq hq2
  cases x
  · obtain ⟨rfl, rfl⟩ := HQ2.out rfl
    clear HQ HQ2
    go_upto_region 11 with (go_at_call 44; refine (num_floor_pos _ _ _ ⟨?_, ?_⟩ ⟨?_, ?_⟩).mono ?_; (· omega); (· omega); (· omega); (· omega); rintro e wf ⟨rfl, rfl⟩)
    refine gen_world (fun wx => Live wx (w.heap.size) (mach f false t) ∧ Live wx (w.heap.size + 1) #[.int .i64 q0, .int .i64 q1, .int .i64 c, .int .i64 d] ∧ Live wx (w.heap.size + 2) #[.int .i64 0, .int .i64 0, .int .i64 0] ∧ wx.heap.size = w.heap.size + 3 ∧ Below w.heap.size w wx) ⟨L, L1, L2, z0, hb⟩ ?_
    clear L L1 L2 z0 hb p0 p1 p2 p3 fp P1 c28
    rintro wx ⟨L, L1, L2, z0, hb⟩
    obtain ⟨p0, p1, p2, p3⟩ := live_four L1
    go_upto_region 12 with (fail)
    refine gen_world (fun wx => Live wx (w.heap.size) (mach f false t) ∧ Live wx (w.heap.size + 1) #[.int .i64 q0, .int .i64 q1, .int .i64 c, .int .i64 d] ∧ Live wx (w.heap.size + 2) #[.int .i64 0, .int .i64 0, .int .i64 0] ∧ Live wx (w.heap.size + 3) #[.int .i64 q0, .int .i64 q1, .int .i64 c, .int .i64 d] ∧ Below w.heap.size w wx) ?_ ?_
    · refine ⟨live_alloc L _, live_alloc L1 _, live_alloc L2 _, live_new _ _ z0, ?_⟩
      exact hb.alloc (by omega) _
    clear L L1 L2 z0 hb p0 p1 p2 p3
    rintro wx ⟨L, L1, L2, L3, hb⟩
    obtain ⟨p0, p1, p2, p3⟩ := live_four L1
    go_wp2_with fail
    clear p0 p1 p2 p3 L1
    refine wp_loop_rounds 5 ?_
    rw [rounds_succ]
    go_wp2_with (first | (((with_reducible refine wpList_load_in (ty := 26) (w.heap.size) 0 (mach f false t) ?_ ?_ Try.underlying26 ?_ ?_ ?_); (· rfl); (· exact live_rangeAll L); (· rfl); (· kernel_rfl))) | (go_at_call 21; ((with_reducible refine (kin_units f false t 0 q0 _).mono ?_); rw [HV0.out, HE0.out]; rintro e w1 ⟨rfl, hb1⟩; have z1 := hb1.size; have LM := live_below hb1 L; have LZ := live_below hb1 L2; have LO := live_below hb1 L3; clear L L2 L3; obtain ⟨o0, o1, o2, o3⟩ := live_four LO; obtain ⟨y0, y1, y2⟩ : w1.cell? ⟨w.heap.size + 2, 0, none⟩ = some (.int .i64 0) ∧ w1.cell? ⟨w.heap.size + 2, 1, none⟩ = some (.int .i64 0) ∧ w1.cell? ⟨w.heap.size + 2, 2, none⟩ = some (.int .i64 0) := ⟨LZ.2.1 0, LZ.2.1 1, LZ.2.1 2⟩; have fo := LO.2.2; have fz := LZ.2.2; have hb := hb.trans (hb1.mono hb.size); clear hb1)))
    refine gen_world (fun wx => Live wx (w.heap.size) (mach f false t) ∧ Live wx (w.heap.size + 2) #[.int .i64 0, .int .i64 0, .int .i64 0] ∧ Live wx (w.heap.size + 3) #[.int .i64 sa, .int .i64 q1, .int .i64 c, .int .i64 d] ∧ Below w.heap.size w wx) ?_ ?_
    · refine ⟨live_set_other LM _ _ _ (by omega), live_set_other LZ _ _ _ (by omega), live_conv (live_set_same LO 0 _ (by simp)) (by simp), hb.setCell (show w.heap.size ≤ w.heap.size + 3 by omega) _⟩
    clear LM LZ LO o0 o1 o2 o3 y0 y1 y2 fo fz hb z1
    rintro wx ⟨L, L2, L3, hb⟩
    rw [rounds_succ]
    go_wp2_with (first | (((with_reducible refine wpList_load_in (ty := 26) (w.heap.size) 0 (mach f false t) ?_ ?_ Try.underlying26 ?_ ?_ ?_); (· rfl); (· exact live_rangeAll L); (· rfl); (· kernel_rfl))) | (go_at_call 21; ((with_reducible refine (kin_units f false t 1 q1 _).mono ?_); rw [HV1.out, HE1.out]; rintro e w1 ⟨rfl, hb1⟩; have z1 := hb1.size; have LM := live_below hb1 L; have LZ := live_below hb1 L2; have LO := live_below hb1 L3; clear L L2 L3; obtain ⟨o0, o1, o2, o3⟩ := live_four LO; obtain ⟨y0, y1, y2⟩ : w1.cell? ⟨w.heap.size + 2, 0, none⟩ = some (.int .i64 0) ∧ w1.cell? ⟨w.heap.size + 2, 1, none⟩ = some (.int .i64 0) ∧ w1.cell? ⟨w.heap.size + 2, 2, none⟩ = some (.int .i64 0) := ⟨LZ.2.1 0, LZ.2.1 1, LZ.2.1 2⟩; have fo := LO.2.2; have fz := LZ.2.2; have hb := hb.trans (hb1.mono hb.size); clear hb1)))
    refine bodyPost_ret (v := .tuple #[.agg #[.int .i64 0, .int .i64 0, .int .i64 0], .int .i64 0, .int .i64 1]) (by simp [results, Try.results25, go_sem, y0, y1, y2]) rfl ⟨rfl, ?_⟩
    (repeat' (first | with_reducible exact Below.refl _ _ | with_reducible refine Below.drew ?_ | with_reducible refine below_drewN ?_ _ | with_reducible refine Below.alloc ?_ ?_ _ | with_reducible refine Below.setCell ?_ ?_ _ | with_reducible refine Below.trans ?_ (Below.mono (by with_reducible assumption) ?_) | (simp; done) | (simp; omega) | omega))
  · obtain ⟨hqa, hqb⟩ := HQ.out rfl
    have HA := Lib.hid hqa
    have HB := Lib.hid hqb
    clear hqa hqb
    clear HQ HQ2
    go_upto_region 11 with (go_at_call 44; refine (num_floor_pos _ _ _ ⟨?_, ?_⟩ ⟨?_, ?_⟩).mono ?_; (· omega); (· omega); (· omega); (· omega); rintro e wf ⟨rfl, rfl⟩)
    refine gen_world (fun wx => Live wx (w.heap.size) (mach f true t) ∧ Live wx (w.heap.size + 1) #[.int .i64 q0, .int .i64 q1, .int .i64 c, .int .i64 d] ∧ Live wx (w.heap.size + 2) #[.int .i64 0, .int .i64 0, .int .i64 0] ∧ wx.heap.size = w.heap.size + 3 ∧ Below w.heap.size w wx) ?_ ?_
    · refine ⟨live_set_other (live_set_other L _ _ _ (by omega)) _ _ _ (by omega), live_conv (live_set_same (live_conv (live_set_same L1 0 _ (by simp)) rfl) 1 _ (by simp)) (by simp [HA.out, HB.out]), live_set_other (live_set_other L2 _ _ _ (by omega)) _ _ _ (by omega), by simpa [World.setCell] using z0, ?_⟩
      exact (hb.setCell (show w.heap.size ≤ w.heap.size + 1 by omega) _).setCell (show w.heap.size ≤ w.heap.size + 1 by omega) _
    clear L L1 L2 z0 hb p0 p1 p2 p3 fp P1 c28
    rintro wx ⟨L, L1, L2, z0, hb⟩
    obtain ⟨p0, p1, p2, p3⟩ := live_four L1
    go_upto_region 12 with (fail)
    refine gen_world (fun wx => Live wx (w.heap.size) (mach f true t) ∧ Live wx (w.heap.size + 1) #[.int .i64 q0, .int .i64 q1, .int .i64 c, .int .i64 d] ∧ Live wx (w.heap.size + 2) #[.int .i64 0, .int .i64 0, .int .i64 0] ∧ Live wx (w.heap.size + 3) #[.int .i64 q0, .int .i64 q1, .int .i64 c, .int .i64 d] ∧ Below w.heap.size w wx) ?_ ?_
    · refine ⟨live_alloc L _, live_alloc L1 _, live_alloc L2 _, live_new _ _ z0, ?_⟩
      exact hb.alloc (by omega) _
    clear L L1 L2 z0 hb p0 p1 p2 p3
    rintro wx ⟨L, L1, L2, L3, hb⟩
    obtain ⟨p0, p1, p2, p3⟩ := live_four L1
    go_wp2_with fail
    clear p0 p1 p2 p3 L1
    refine wp_loop_rounds 5 ?_
    rw [rounds_succ]
    go_wp2_with (first | (((with_reducible refine wpList_load_in (ty := 26) (w.heap.size) 0 (mach f true t) ?_ ?_ Try.underlying26 ?_ ?_ ?_); (· rfl); (· exact live_rangeAll L); (· rfl); (· kernel_rfl))) | (go_at_call 21; ((with_reducible refine (kin_units f true t 0 q0 _).mono ?_); rw [HV0.out, HE0.out]; rintro e w1 ⟨rfl, hb1⟩; have z1 := hb1.size; have LM := live_below hb1 L; have LZ := live_below hb1 L2; have LO := live_below hb1 L3; clear L L2 L3; obtain ⟨o0, o1, o2, o3⟩ := live_four LO; obtain ⟨y0, y1, y2⟩ : w1.cell? ⟨w.heap.size + 2, 0, none⟩ = some (.int .i64 0) ∧ w1.cell? ⟨w.heap.size + 2, 1, none⟩ = some (.int .i64 0) ∧ w1.cell? ⟨w.heap.size + 2, 2, none⟩ = some (.int .i64 0) := ⟨LZ.2.1 0, LZ.2.1 1, LZ.2.1 2⟩; have fo := LO.2.2; have fz := LZ.2.2; have hb := hb.trans (hb1.mono hb.size); clear hb1)))
    refine gen_world (fun wx => Live wx (w.heap.size) (mach f true t) ∧ Live wx (w.heap.size + 2) #[.int .i64 0, .int .i64 0, .int .i64 0] ∧ Live wx (w.heap.size + 3) #[.int .i64 sa, .int .i64 q1, .int .i64 c, .int .i64 d] ∧ Below w.heap.size w wx) ?_ ?_
    · refine ⟨live_set_other LM _ _ _ (by omega), live_set_other LZ _ _ _ (by omega), live_conv (live_set_same LO 0 _ (by simp)) (by simp), hb.setCell (show w.heap.size ≤ w.heap.size + 3 by omega) _⟩
    clear LM LZ LO o0 o1 o2 o3 y0 y1 y2 fo fz hb z1
    rintro wx ⟨L, L2, L3, hb⟩
    rw [rounds_succ]
    go_wp2_with (first | (((with_reducible refine wpList_load_in (ty := 26) (w.heap.size) 0 (mach f true t) ?_ ?_ Try.underlying26 ?_ ?_ ?_); (· rfl); (· exact live_rangeAll L); (· rfl); (· kernel_rfl))) | (go_at_call 21; ((with_reducible refine (kin_units f true t 1 q1 _).mono ?_); rw [HV1.out, HE1.out]; rintro e w1 ⟨rfl, hb1⟩; have z1 := hb1.size; have LM := live_below hb1 L; have LZ := live_below hb1 L2; have LO := live_below hb1 L3; clear L L2 L3; obtain ⟨o0, o1, o2, o3⟩ := live_four LO; obtain ⟨y0, y1, y2⟩ : w1.cell? ⟨w.heap.size + 2, 0, none⟩ = some (.int .i64 0) ∧ w1.cell? ⟨w.heap.size + 2, 1, none⟩ = some (.int .i64 0) ∧ w1.cell? ⟨w.heap.size + 2, 2, none⟩ = some (.int .i64 0) := ⟨LZ.2.1 0, LZ.2.1 1, LZ.2.1 2⟩; have fo := LO.2.2; have fz := LZ.2.2; have hb := hb.trans (hb1.mono hb.size); clear hb1)))
    refine bodyPost_ret (v := .tuple #[.agg #[.int .i64 0, .int .i64 0, .int .i64 0], .int .i64 0, .int .i64 1]) (by simp [results, Try.results25, go_sem, y0, y1, y2]) rfl ⟨rfl, ?_⟩
    (repeat' (first | with_reducible exact Below.refl _ _ | with_reducible refine Below.drew ?_ | with_reducible refine below_drewN ?_ _ | with_reducible refine Below.alloc ?_ ?_ _ | with_reducible refine Below.setCell ?_ ?_ _ | with_reducible refine Below.trans ?_ (Below.mono (by with_reducible assumption) ?_) | (simp; done) | (simp; omega) | omega))

set_option maxRecDepth 100000 in
set_option maxHeartbeats 4000000 in
theorem kin_position_no2 (f : Nat → Int) (x : Bool) (t a b c d q0 q1 sa sb sc sd : Int) (w : World) (hq : x = true → (a + b) / 2 = q0 ∧ (a - b) / 2 = q1) (hq2 : x = false → q0 = a ∧ q1 = b) (ba : -281474976710656 ≤ a ∧ a ≤ 281474976710656) (bb : -281474976710656 ≤ b ∧ b ≤ 281474976710656) (HW0 : Hid (witB a 281474976710656 = true)) (HW1 : Hid (witB b 281474976710656 = true)) (HW2 : Hid (witB c 281474976710656 = true)) (HW3 : Hid (witB d 281474976710656 = true)) (HV0 : Hid (unV f t 0 q0 = sa)) (HE0 : Hid (unE f t 0 q0 = 0)) (HV1 : Hid (unV f t 1 q1 = sb)) (HE1 : Hid (unE f t 1 q1 = 0)) (HV2 : Hid (unV f t 2 c = sc)) (HE2 : Hid (unE f t 2 c = 1)) :
    Calls Try.prog 25 #[.agg (mach f x t), .agg #[.int .i64 a, .int .i64 b, .int .i64 c, .int .i64 d]] w fun e w' => e = .returned (.tuple #[.agg #[.int .i64 0, .int .i64 0, .int .i64 0], .int .i64 0, .int .i64 1]) ∧ Below w.heap.size w w' := by
  obtain ⟨j0, j1, j2, j3⟩ := arr_idx a b c d
  obtain ⟨i0, i1, i2, i3⟩ := arr_idx q0 q1 c d
  obtain ⟨ba0, ba1⟩ := ba
  obtain ⟨bb0, bb1⟩ := bb
  go_enter Try.func25, Try.ntmps25
  go_upto_region 1 with (fail)
  refine gen_world (fun wx => Live wx (w.heap.size) (mach f x t) ∧ Live wx (w.heap.size + 1) #[.int .i64 a, .int .i64 b, .int .i64 c, .int .i64 d] ∧ Live wx (w.heap.size + 2) #[.int .i64 0, .int .i64 0, .int .i64 0] ∧ wx.heap.size = w.heap.size + 3 ∧ Below w.heap.size w wx) ?_ ?_
  · refine ⟨live_alloc (live_alloc (live_new _ _ rfl) _) _, live_alloc (live_new _ _ (by simp)) _, live_new _ _ (by simp), by simp, ?_⟩
    (repeat' (first | with_reducible exact Below.refl _ _ | with_reducible refine Below.drew ?_ | with_reducible refine below_drewN ?_ _ | with_reducible refine Below.alloc ?_ ?_ _ | with_reducible refine Below.setCell ?_ ?_ _ | with_reducible refine Below.trans ?_ (Below.mono (by with_reducible assumption) ?_) | (simp; done) | (simp; omega) | omega))
  rintro wx ⟨L, L1, L2, z0, hb⟩
  have c28 := L.2.1 28
  rw [mach_28] at c28
  obtain ⟨p0, p1, p2, p3⟩ := live_four L1
  go_wp2_with fail
  clear p0 p1 p2 p3
  refine wp_loop_rounds 5 ?_
  rw [rounds_succ]
  go_wp2_with (go_at_call 39; ((with_reducible refine (kin_within a 281474976710656 _ (by decide) (by decide)).mono ?_); rw [HW0.out]; rintro e wf ⟨rfl, rfl⟩))
  rw [rounds_succ]
  go_wp2_with (go_at_call 39; ((with_reducible refine (kin_within b 281474976710656 _ (by decide) (by decide)).mono ?_); rw [HW1.out]; rintro e wf ⟨rfl, rfl⟩))
  rw [rounds_succ]
  go_wp2_with (go_at_call 39; ((with_reducible refine (kin_within c 281474976710656 _ (by decide) (by decide)).mono ?_); rw [HW2.out]; rintro e wf ⟨rfl, rfl⟩))
  rw [rounds_succ]
  go_wp2_with (go_at_call 39; ((with_reducible refine (kin_within d 281474976710656 _ (by decide) (by decide)).mono ?_); rw [HW3.out]; rintro e wf ⟨rfl, rfl⟩))
  rw [rounds_succ]
  go_upto_region 7 with (fail)
  obtain ⟨p0, p1, p2, p3⟩ := live_four L1
  have fp := L1.2.2
  have P1 := L1.1
  have HQ := Lib.hid hq
  have HQ2 := Lib.hid hq2
  clear hq hq2
  cases x
  · obtain ⟨rfl, rfl⟩ := HQ2.out rfl
    clear HQ HQ2
    go_upto_region 11 with (go_at_call 44; refine (num_floor_pos _ _ _ ⟨?_, ?_⟩ ⟨?_, ?_⟩).mono ?_; (· omega); (· omega); (· omega); (· omega); rintro e wf ⟨rfl, rfl⟩)
    refine gen_world (fun wx => Live wx (w.heap.size) (mach f false t) ∧ Live wx (w.heap.size + 1) #[.int .i64 q0, .int .i64 q1, .int .i64 c, .int .i64 d] ∧ Live wx (w.heap.size + 2) #[.int .i64 0, .int .i64 0, .int .i64 0] ∧ wx.heap.size = w.heap.size + 3 ∧ Below w.heap.size w wx) ⟨L, L1, L2, z0, hb⟩ ?_
    clear L L1 L2 z0 hb p0 p1 p2 p3 fp P1 c28
    rintro wx ⟨L, L1, L2, z0, hb⟩
    obtain ⟨p0, p1, p2, p3⟩ := live_four L1
    go_upto_region 12 with (fail)
    refine gen_world (fun wx => Live wx (w.heap.size) (mach f false t) ∧ Live wx (w.heap.size + 1) #[.int .i64 q0, .int .i64 q1, .int .i64 c, .int .i64 d] ∧ Live wx (w.heap.size + 2) #[.int .i64 0, .int .i64 0, .int .i64 0] ∧ Live wx (w.heap.size + 3) #[.int .i64 q0, .int .i64 q1, .int .i64 c, .int .i64 d] ∧ Below w.heap.size w wx) ?_ ?_
    · refine ⟨live_alloc L _, live_alloc L1 _, live_alloc L2 _, live_new _ _ z0, ?_⟩
      exact hb.alloc (by omega) _
    clear L L1 L2 z0 hb p0 p1 p2 p3
    rintro wx ⟨L, L1, L2, L3, hb⟩
    obtain ⟨p0, p1, p2, p3⟩ := live_four L1
    go_wp2_with fail
    clear p0 p1 p2 p3 L1
    refine wp_loop_rounds 5 ?_
    rw [rounds_succ]
    go_wp2_with (first | (((with_reducible refine wpList_load_in (ty := 26) (w.heap.size) 0 (mach f false t) ?_ ?_ Try.underlying26 ?_ ?_ ?_); (· rfl); (· exact live_rangeAll L); (· rfl); (· kernel_rfl))) | (go_at_call 21; ((with_reducible refine (kin_units f false t 0 q0 _).mono ?_); rw [HV0.out, HE0.out]; rintro e w1 ⟨rfl, hb1⟩; have z1 := hb1.size; have LM := live_below hb1 L; have LZ := live_below hb1 L2; have LO := live_below hb1 L3; clear L L2 L3; obtain ⟨o0, o1, o2, o3⟩ := live_four LO; obtain ⟨y0, y1, y2⟩ : w1.cell? ⟨w.heap.size + 2, 0, none⟩ = some (.int .i64 0) ∧ w1.cell? ⟨w.heap.size + 2, 1, none⟩ = some (.int .i64 0) ∧ w1.cell? ⟨w.heap.size + 2, 2, none⟩ = some (.int .i64 0) := ⟨LZ.2.1 0, LZ.2.1 1, LZ.2.1 2⟩; have fo := LO.2.2; have fz := LZ.2.2; have hb := hb.trans (hb1.mono hb.size); clear hb1)))
    refine gen_world (fun wx => Live wx (w.heap.size) (mach f false t) ∧ Live wx (w.heap.size + 2) #[.int .i64 0, .int .i64 0, .int .i64 0] ∧ Live wx (w.heap.size + 3) #[.int .i64 sa, .int .i64 q1, .int .i64 c, .int .i64 d] ∧ Below w.heap.size w wx) ?_ ?_
    · refine ⟨live_set_other LM _ _ _ (by omega), live_set_other LZ _ _ _ (by omega), live_conv (live_set_same LO 0 _ (by simp)) (by simp), hb.setCell (show w.heap.size ≤ w.heap.size + 3 by omega) _⟩
    clear LM LZ LO o0 o1 o2 o3 y0 y1 y2 fo fz hb z1
    rintro wx ⟨L, L2, L3, hb⟩
    rw [rounds_succ]
    go_wp2_with (first | (((with_reducible refine wpList_load_in (ty := 26) (w.heap.size) 0 (mach f false t) ?_ ?_ Try.underlying26 ?_ ?_ ?_); (· rfl); (· exact live_rangeAll L); (· rfl); (· kernel_rfl))) | (go_at_call 21; ((with_reducible refine (kin_units f false t 1 q1 _).mono ?_); rw [HV1.out, HE1.out]; rintro e w1 ⟨rfl, hb1⟩; have z1 := hb1.size; have LM := live_below hb1 L; have LZ := live_below hb1 L2; have LO := live_below hb1 L3; clear L L2 L3; obtain ⟨o0, o1, o2, o3⟩ := live_four LO; obtain ⟨y0, y1, y2⟩ : w1.cell? ⟨w.heap.size + 2, 0, none⟩ = some (.int .i64 0) ∧ w1.cell? ⟨w.heap.size + 2, 1, none⟩ = some (.int .i64 0) ∧ w1.cell? ⟨w.heap.size + 2, 2, none⟩ = some (.int .i64 0) := ⟨LZ.2.1 0, LZ.2.1 1, LZ.2.1 2⟩; have fo := LO.2.2; have fz := LZ.2.2; have hb := hb.trans (hb1.mono hb.size); clear hb1)))
    refine gen_world (fun wx => Live wx (w.heap.size) (mach f false t) ∧ Live wx (w.heap.size + 2) #[.int .i64 0, .int .i64 0, .int .i64 0] ∧ Live wx (w.heap.size + 3) #[.int .i64 sa, .int .i64 sb, .int .i64 c, .int .i64 d] ∧ Below w.heap.size w wx) ?_ ?_
    · refine ⟨live_set_other LM _ _ _ (by omega), live_set_other LZ _ _ _ (by omega), live_conv (live_set_same LO 1 _ (by simp)) (by simp), hb.setCell (show w.heap.size ≤ w.heap.size + 3 by omega) _⟩
    clear LM LZ LO o0 o1 o2 o3 y0 y1 y2 fo fz hb z1
    rintro wx ⟨L, L2, L3, hb⟩
    rw [rounds_succ]
    go_wp2_with (first | (((with_reducible refine wpList_load_in (ty := 26) (w.heap.size) 0 (mach f false t) ?_ ?_ Try.underlying26 ?_ ?_ ?_); (· rfl); (· exact live_rangeAll L); (· rfl); (· kernel_rfl))) | (go_at_call 21; ((with_reducible refine (kin_units f false t 2 c _).mono ?_); rw [HV2.out, HE2.out]; rintro e w1 ⟨rfl, hb1⟩; have z1 := hb1.size; have LM := live_below hb1 L; have LZ := live_below hb1 L2; have LO := live_below hb1 L3; clear L L2 L3; obtain ⟨o0, o1, o2, o3⟩ := live_four LO; obtain ⟨y0, y1, y2⟩ : w1.cell? ⟨w.heap.size + 2, 0, none⟩ = some (.int .i64 0) ∧ w1.cell? ⟨w.heap.size + 2, 1, none⟩ = some (.int .i64 0) ∧ w1.cell? ⟨w.heap.size + 2, 2, none⟩ = some (.int .i64 0) := ⟨LZ.2.1 0, LZ.2.1 1, LZ.2.1 2⟩; have fo := LO.2.2; have fz := LZ.2.2; have hb := hb.trans (hb1.mono hb.size); clear hb1)))
    refine bodyPost_ret (v := .tuple #[.agg #[.int .i64 0, .int .i64 0, .int .i64 0], .int .i64 0, .int .i64 1]) (by simp [results, Try.results25, go_sem, y0, y1, y2]) rfl ⟨rfl, ?_⟩
    (repeat' (first | with_reducible exact Below.refl _ _ | with_reducible refine Below.drew ?_ | with_reducible refine below_drewN ?_ _ | with_reducible refine Below.alloc ?_ ?_ _ | with_reducible refine Below.setCell ?_ ?_ _ | with_reducible refine Below.trans ?_ (Below.mono (by with_reducible assumption) ?_) | (simp; done) | (simp; omega) | omega))
  · obtain ⟨hqa, hqb⟩ := HQ.out rfl
    have HA := Lib.hid hqa
    have HB := Lib.hid hqb
    clear hqa hqb
    clear HQ HQ2
    go_upto_region 11 with (go_at_call 44; refine (num_floor_pos _ _ _ ⟨?_, ?_⟩ ⟨?_, ?_⟩).mono ?_; (· omega); (· omega); (· omega); (· omega); rintro e wf ⟨rfl, rfl⟩)
    refine gen_world (fun wx => Live wx (w.heap.size) (mach f true t) ∧ Live wx (w.heap.size + 1) #[.int .i64 q0, .int .i64 q1, .int .i64 c, .int .i64 d] ∧ Live wx (w.heap.size + 2) #[.int .i64 0, .int .i64 0, .int .i64 0] ∧ wx.heap.size = w.heap.size + 3 ∧ Below w.heap.size w wx) ?_ ?_
    · refine ⟨live_set_other (live_set_other L _ _ _ (by omega)) _ _ _ (by omega), live_conv (live_set_same (live_conv (live_set_same L1 0 _ (by simp)) rfl) 1 _ (by simp)) (by simp [HA.out, HB.out]), live_set_other (live_set_other L2 _ _ _ (by omega)) _ _ _ (by omega), by simpa [World.setCell] using z0, ?_⟩
      exact (hb.setCell (show w.heap.size ≤ w.heap.size + 1 by omega) _).setCell (show w.heap.size ≤ w.heap.size + 1 by omega) _
    clear L L1 L2 z0 hb p0 p1 p2 p3 fp P1 c28
    rintro wx ⟨L, L1, L2, z0, hb⟩
    obtain ⟨p0, p1, p2, p3⟩ := live_four L1
    go_upto_region 12 with (fail)
    refine gen_world (fun wx => Live wx (w.heap.size) (mach f true t) ∧ Live wx (w.heap.size + 1) #[.int .i64 q0, .int .i64 q1, .int .i64 c, .int .i64 d] ∧ Live wx (w.heap.size + 2) #[.int .i64 0, .int .i64 0, .int .i64 0] ∧ Live wx (w.heap.size + 3) #[.int .i64 q0, .int .i64 q1, .int .i64 c, .int .i64 d] ∧ Below w.heap.size w wx) ?_ ?_
    · refine ⟨live_alloc L _, live_alloc L1 _, live_alloc L2 _, live_new _ _ z0, ?_⟩
      exact hb.alloc (by omega) _
    clear L L1 L2 z0 hb p0 p1 p2 p3
    rintro wx ⟨L, L1, L2, L3, hb⟩
    obtain ⟨p0, p1, p2, p3⟩ := live_four L1
    go_wp2_with fail
    clear p0 p1 p2 p3 L1
    refine wp_loop_rounds 5 ?_
    rw [rounds_succ]
    go_wp2_with (first | (((with_reducible refine wpList_load_in (ty := 26) (w.heap.size) 0 (mach f true t) ?_ ?_ Try.underlying26 ?_ ?_ ?_); (· rfl); (· exact live_rangeAll L); (· rfl); (· kernel_rfl))) | (go_at_call 21; ((with_reducible refine (kin_units f true t 0 q0 _).mono ?_); rw [HV0.out, HE0.out]; rintro e w1 ⟨rfl, hb1⟩; have z1 := hb1.size; have LM := live_below hb1 L; have LZ := live_below hb1 L2; have LO := live_below hb1 L3; clear L L2 L3; obtain ⟨o0, o1, o2, o3⟩ := live_four LO; obtain ⟨y0, y1, y2⟩ : w1.cell? ⟨w.heap.size + 2, 0, none⟩ = some (.int .i64 0) ∧ w1.cell? ⟨w.heap.size + 2, 1, none⟩ = some (.int .i64 0) ∧ w1.cell? ⟨w.heap.size + 2, 2, none⟩ = some (.int .i64 0) := ⟨LZ.2.1 0, LZ.2.1 1, LZ.2.1 2⟩; have fo := LO.2.2; have fz := LZ.2.2; have hb := hb.trans (hb1.mono hb.size); clear hb1)))
    refine gen_world (fun wx => Live wx (w.heap.size) (mach f true t) ∧ Live wx (w.heap.size + 2) #[.int .i64 0, .int .i64 0, .int .i64 0] ∧ Live wx (w.heap.size + 3) #[.int .i64 sa, .int .i64 q1, .int .i64 c, .int .i64 d] ∧ Below w.heap.size w wx) ?_ ?_
    · refine ⟨live_set_other LM _ _ _ (by omega), live_set_other LZ _ _ _ (by omega), live_conv (live_set_same LO 0 _ (by simp)) (by simp), hb.setCell (show w.heap.size ≤ w.heap.size + 3 by omega) _⟩
    clear LM LZ LO o0 o1 o2 o3 y0 y1 y2 fo fz hb z1
    rintro wx ⟨L, L2, L3, hb⟩
    rw [rounds_succ]
    go_wp2_with (first | (((with_reducible refine wpList_load_in (ty := 26) (w.heap.size) 0 (mach f true t) ?_ ?_ Try.underlying26 ?_ ?_ ?_); (· rfl); (· exact live_rangeAll L); (· rfl); (· kernel_rfl))) | (go_at_call 21; ((with_reducible refine (kin_units f true t 1 q1 _).mono ?_); rw [HV1.out, HE1.out]; rintro e w1 ⟨rfl, hb1⟩; have z1 := hb1.size; have LM := live_below hb1 L; have LZ := live_below hb1 L2; have LO := live_below hb1 L3; clear L L2 L3; obtain ⟨o0, o1, o2, o3⟩ := live_four LO; obtain ⟨y0, y1, y2⟩ : w1.cell? ⟨w.heap.size + 2, 0, none⟩ = some (.int .i64 0) ∧ w1.cell? ⟨w.heap.size + 2, 1, none⟩ = some (.int .i64 0) ∧ w1.cell? ⟨w.heap.size + 2, 2, none⟩ = some (.int .i64 0) := ⟨LZ.2.1 0, LZ.2.1 1, LZ.2.1 2⟩; have fo := LO.2.2; have fz := LZ.2.2; have hb := hb.trans (hb1.mono hb.size); clear hb1)))
    refine gen_world (fun wx => Live wx (w.heap.size) (mach f true t) ∧ Live wx (w.heap.size + 2) #[.int .i64 0, .int .i64 0, .int .i64 0] ∧ Live wx (w.heap.size + 3) #[.int .i64 sa, .int .i64 sb, .int .i64 c, .int .i64 d] ∧ Below w.heap.size w wx) ?_ ?_
    · refine ⟨live_set_other LM _ _ _ (by omega), live_set_other LZ _ _ _ (by omega), live_conv (live_set_same LO 1 _ (by simp)) (by simp), hb.setCell (show w.heap.size ≤ w.heap.size + 3 by omega) _⟩
    clear LM LZ LO o0 o1 o2 o3 y0 y1 y2 fo fz hb z1
    rintro wx ⟨L, L2, L3, hb⟩
    rw [rounds_succ]
    go_wp2_with (first | (((with_reducible refine wpList_load_in (ty := 26) (w.heap.size) 0 (mach f true t) ?_ ?_ Try.underlying26 ?_ ?_ ?_); (· rfl); (· exact live_rangeAll L); (· rfl); (· kernel_rfl))) | (go_at_call 21; ((with_reducible refine (kin_units f true t 2 c _).mono ?_); rw [HV2.out, HE2.out]; rintro e w1 ⟨rfl, hb1⟩; have z1 := hb1.size; have LM := live_below hb1 L; have LZ := live_below hb1 L2; have LO := live_below hb1 L3; clear L L2 L3; obtain ⟨o0, o1, o2, o3⟩ := live_four LO; obtain ⟨y0, y1, y2⟩ : w1.cell? ⟨w.heap.size + 2, 0, none⟩ = some (.int .i64 0) ∧ w1.cell? ⟨w.heap.size + 2, 1, none⟩ = some (.int .i64 0) ∧ w1.cell? ⟨w.heap.size + 2, 2, none⟩ = some (.int .i64 0) := ⟨LZ.2.1 0, LZ.2.1 1, LZ.2.1 2⟩; have fo := LO.2.2; have fz := LZ.2.2; have hb := hb.trans (hb1.mono hb.size); clear hb1)))
    refine bodyPost_ret (v := .tuple #[.agg #[.int .i64 0, .int .i64 0, .int .i64 0], .int .i64 0, .int .i64 1]) (by simp [results, Try.results25, go_sem, y0, y1, y2]) rfl ⟨rfl, ?_⟩
    (repeat' (first | with_reducible exact Below.refl _ _ | with_reducible refine Below.drew ?_ | with_reducible refine below_drewN ?_ _ | with_reducible refine Below.alloc ?_ ?_ _ | with_reducible refine Below.setCell ?_ ?_ _ | with_reducible refine Below.trans ?_ (Below.mono (by with_reducible assumption) ?_) | (simp; done) | (simp; omega) | omega))

set_option maxRecDepth 100000 in
set_option maxHeartbeats 4000000 in
theorem kin_position_no3 (f : Nat → Int) (x : Bool) (t a b c d q0 q1 sa sb sc sd : Int) (w : World) (hq : x = true → (a + b) / 2 = q0 ∧ (a - b) / 2 = q1) (hq2 : x = false → q0 = a ∧ q1 = b) (ba : -281474976710656 ≤ a ∧ a ≤ 281474976710656) (bb : -281474976710656 ≤ b ∧ b ≤ 281474976710656) (HW0 : Hid (witB a 281474976710656 = true)) (HW1 : Hid (witB b 281474976710656 = true)) (HW2 : Hid (witB c 281474976710656 = true)) (HW3 : Hid (witB d 281474976710656 = true)) (HV0 : Hid (unV f t 0 q0 = sa)) (HE0 : Hid (unE f t 0 q0 = 0)) (HV1 : Hid (unV f t 1 q1 = sb)) (HE1 : Hid (unE f t 1 q1 = 0)) (HV2 : Hid (unV f t 2 c = sc)) (HE2 : Hid (unE f t 2 c = 0)) (HV3 : Hid (unV f t 3 d = sd)) (HE3 : Hid (unE f t 3 d = 1)) :
    Calls Try.prog 25 #[.agg (mach f x t), .agg #[.int .i64 a, .int .i64 b, .int .i64 c, .int .i64 d]] w fun e w' => e = .returned (.tuple #[.agg #[.int .i64 0, .int .i64 0, .int .i64 0], .int .i64 0, .int .i64 1]) ∧ Below w.heap.size w w' := by
  obtain ⟨j0, j1, j2, j3⟩ := arr_idx a b c d
  obtain ⟨i0, i1, i2, i3⟩ := arr_idx q0 q1 c d
  obtain ⟨ba0, ba1⟩ := ba
  obtain ⟨bb0, bb1⟩ := bb
  go_enter Try.func25, Try.ntmps25
  go_upto_region 1 with (fail)
  refine gen_world (fun wx => Live wx (w.heap.size) (mach f x t) ∧ Live wx (w.heap.size + 1) #[.int .i64 a, .int .i64 b, .int .i64 c, .int .i64 d] ∧ Live wx (w.heap.size + 2) #[.int .i64 0, .int .i64 0, .int .i64 0] ∧ wx.heap.size = w.heap.size + 3 ∧ Below w.heap.size w wx) ?_ ?_
  · refine ⟨live_alloc (live_alloc (live_new _ _ rfl) _) _, live_alloc (live_new _ _ (by simp)) _, live_new _ _ (by simp), by simp, ?_⟩
    (repeat' (first | with_reducible exact Below.refl _ _ | with_reducible refine Below.drew ?_ | with_reducible refine below_drewN ?_ _ | with_reducible refine Below.alloc ?_ ?_ _ | with_reducible refine Below.setCell ?_ ?_ _ | with_reducible refine Below.trans ?_ (Below.mono (by with_reducible assumption) ?_) | (simp; done) | (simp; omega) | omega))
  rintro wx ⟨L, L1, L2, z0, hb⟩
  have c28 := L.2.1 28
  rw [mach_28] at c28
  obtain ⟨p0, p1, p2, p3⟩ := live_four L1
  go_wp2_with fail
  clear p0 p1 p2 p3
  refine wp_loop_rounds 5 ?_
  rw [rounds_succ]
  go_wp2_with (go_at_call 39; ((with_reducible refine (kin_within a 281474976710656 _ (by decide) (by decide)).mono ?_); rw [HW0.out]; rintro e wf ⟨rfl, rfl⟩))
  rw [rounds_succ]
  go_wp2_with (go_at_call 39; ((with_reducible refine (kin_within b 281474976710656 _ (by decide) (by decide)).mono ?_); rw [HW1.out]; rintro e wf ⟨rfl, rfl⟩))
  rw [rounds_succ]
  go_wp2_with (go_at_call 39; ((with_reducible refine (kin_within c 281474976710656 _ (by decide) (by decide)).mono ?_); rw [HW2.out]; rintro e wf ⟨rfl, rfl⟩))
  rw [rounds_succ]
  go_wp2_with (go_at_call 39; ((with_reducible refine (kin_within d 281474976710656 _ (by decide) (by decide)).mono ?_); rw [HW3.out]; rintro e wf ⟨rfl, rfl⟩))
  rw [rounds_succ]
  go_upto_region 7 with (fail)
  obtain ⟨p0, p1, p2, p3⟩ := live_four L1
  have fp := L1.2.2
  have P1 := L1.1
  have HQ := Lib.hid hq
  have HQ2 := Lib.hid hq2
  clear hq hq2
  cases x
  · obtain ⟨rfl, rfl⟩ := HQ2.out rfl
    clear HQ HQ2
    go_upto_region 11 with (go_at_call 44; refine (num_floor_pos _ _ _ ⟨?_, ?_⟩ ⟨?_, ?_⟩).mono ?_; (· omega); (· omega); (· omega); (· omega); rintro e wf ⟨rfl, rfl⟩)
    refine gen_world (fun wx => Live wx (w.heap.size) (mach f false t) ∧ Live wx (w.heap.size + 1) #[.int .i64 q0, .int .i64 q1, .int .i64 c, .int .i64 d] ∧ Live wx (w.heap.size + 2) #[.int .i64 0, .int .i64 0, .int .i64 0] ∧ wx.heap.size = w.heap.size + 3 ∧ Below w.heap.size w wx) ⟨L, L1, L2, z0, hb⟩ ?_
    clear L L1 L2 z0 hb p0 p1 p2 p3 fp P1 c28
    rintro wx ⟨L, L1, L2, z0, hb⟩
    obtain ⟨p0, p1, p2, p3⟩ := live_four L1
    go_upto_region 12 with (fail)
    refine gen_world (fun wx => Live wx (w.heap.size) (mach f false t) ∧ Live wx (w.heap.size + 1) #[.int .i64 q0, .int .i64 q1, .int .i64 c, .int .i64 d] ∧ Live wx (w.heap.size + 2) #[.int .i64 0, .int .i64 0, .int .i64 0] ∧ Live wx (w.heap.size + 3) #[.int .i64 q0, .int .i64 q1, .int .i64 c, .int .i64 d] ∧ Below w.heap.size w wx) ?_ ?_
    · refine ⟨live_alloc L _, live_alloc L1 _, live_alloc L2 _, live_new _ _ z0, ?_⟩
      exact hb.alloc (by omega) _
    clear L L1 L2 z0 hb p0 p1 p2 p3
    rintro wx ⟨L, L1, L2, L3, hb⟩
    obtain ⟨p0, p1, p2, p3⟩ := live_four L1
    go_wp2_with fail
    clear p0 p1 p2 p3 L1
    refine wp_loop_rounds 5 ?_
    rw [rounds_succ]
    go_wp2_with (first | (((with_reducible refine wpList_load_in (ty := 26) (w.heap.size) 0 (mach f false t) ?_ ?_ Try.underlying26 ?_ ?_ ?_); (· rfl); (· exact live_rangeAll L); (· rfl); (· kernel_rfl))) | (go_at_call 21; ((with_reducible refine (kin_units f false t 0 q0 _).mono ?_); rw [HV0.out, HE0.out]; rintro e w1 ⟨rfl, hb1⟩; have z1 := hb1.size; have LM := live_below hb1 L; have LZ := live_below hb1 L2; have LO := live_below hb1 L3; clear L L2 L3; obtain ⟨o0, o1, o2, o3⟩ := live_four LO; obtain ⟨y0, y1, y2⟩ : w1.cell? ⟨w.heap.size + 2, 0, none⟩ = some (.int .i64 0) ∧ w1.cell? ⟨w.heap.size + 2, 1, none⟩ = some (.int .i64 0) ∧ w1.cell? ⟨w.heap.size + 2, 2, none⟩ = some (.int .i64 0) := ⟨LZ.2.1 0, LZ.2.1 1, LZ.2.1 2⟩; have fo := LO.2.2; have fz := LZ.2.2; have hb := hb.trans (hb1.mono hb.size); clear hb1)))
    refine gen_world (fun wx => Live wx (w.heap.size) (mach f false t) ∧ Live wx (w.heap.size + 2) #[.int .i64 0, .int .i64 0, .int .i64 0] ∧ Live wx (w.heap.size + 3) #[.int .i64 sa, .int .i64 q1, .int .i64 c, .int .i64 d] ∧ Below w.heap.size w wx) ?_ ?_
    · refine ⟨live_set_other LM _ _ _ (by omega), live_set_other LZ _ _ _ (by omega), live_conv (live_set_same LO 0 _ (by simp)) (by simp), hb.setCell (show w.heap.size ≤ w.heap.size + 3 by omega) _⟩
    clear LM LZ LO o0 o1 o2 o3 y0 y1 y2 fo fz hb z1
    rintro wx ⟨L, L2, L3, hb⟩
    rw [rounds_succ]
    go_wp2_with (first | (((with_reducible refine wpList_load_in (ty := 26) (w.heap.size) 0 (mach f false t) ?_ ?_ Try.underlying26 ?_ ?_ ?_); (· rfl); (· exact live_rangeAll L); (· rfl); (· kernel_rfl))) | (go_at_call 21; ((with_reducible refine (kin_units f false t 1 q1 _).mono ?_); rw [HV1.out, HE1.out]; rintro e w1 ⟨rfl, hb1⟩; have z1 := hb1.size; have LM := live_below hb1 L; have LZ := live_below hb1 L2; have LO := live_below hb1 L3; clear L L2 L3; obtain ⟨o0, o1, o2, o3⟩ := live_four LO; obtain ⟨y0, y1, y2⟩ : w1.cell? ⟨w.heap.size + 2, 0, none⟩ = some (.int .i64 0) ∧ w1.cell? ⟨w.heap.size + 2, 1, none⟩ = some (.int .i64 0) ∧ w1.cell? ⟨w.heap.size + 2, 2, none⟩ = some (.int .i64 0) := ⟨LZ.2.1 0, LZ.2.1 1, LZ.2.1 2⟩; have fo := LO.2.2; have fz := LZ.2.2; have hb := hb.trans (hb1.mono hb.size); clear hb1)))
    refine gen_world (fun wx => Live wx (w.heap.size) (mach f false t) ∧ Live wx (w.heap.size + 2) #[.int .i64 0, .int .i64 0, .int .i64 0] ∧ Live wx (w.heap.size + 3) #[.int .i64 sa, .int .i64 sb, .int .i64 c, .int .i64 d] ∧ Below w.heap.size w wx) ?_ ?_
    · refine ⟨live_set_other LM _ _ _ (by omega), live_set_other LZ _ _ _ (by omega), live_conv (live_set_same LO 1 _ (by simp)) (by simp), hb.setCell (show w.heap.size ≤ w.heap.size + 3 by omega) _⟩
    clear LM LZ LO o0 o1 o2 o3 y0 y1 y2 fo fz hb z1
    rintro wx ⟨L, L2, L3, hb⟩
    rw [rounds_succ]
    go_wp2_with (first | (((with_reducible refine wpList_load_in (ty := 26) (w.heap.size) 0 (mach f false t) ?_ ?_ Try.underlying26 ?_ ?_ ?_); (· rfl); (· exact live_rangeAll L); (· rfl); (· kernel_rfl))) | (go_at_call 21; ((with_reducible refine (kin_units f false t 2 c _).mono ?_); rw [HV2.out, HE2.out]; rintro e w1 ⟨rfl, hb1⟩; have z1 := hb1.size; have LM := live_below hb1 L; have LZ := live_below hb1 L2; have LO := live_below hb1 L3; clear L L2 L3; obtain ⟨o0, o1, o2, o3⟩ := live_four LO; obtain ⟨y0, y1, y2⟩ : w1.cell? ⟨w.heap.size + 2, 0, none⟩ = some (.int .i64 0) ∧ w1.cell? ⟨w.heap.size + 2, 1, none⟩ = some (.int .i64 0) ∧ w1.cell? ⟨w.heap.size + 2, 2, none⟩ = some (.int .i64 0) := ⟨LZ.2.1 0, LZ.2.1 1, LZ.2.1 2⟩; have fo := LO.2.2; have fz := LZ.2.2; have hb := hb.trans (hb1.mono hb.size); clear hb1)))
    refine gen_world (fun wx => Live wx (w.heap.size) (mach f false t) ∧ Live wx (w.heap.size + 2) #[.int .i64 0, .int .i64 0, .int .i64 0] ∧ Live wx (w.heap.size + 3) #[.int .i64 sa, .int .i64 sb, .int .i64 sc, .int .i64 d] ∧ Below w.heap.size w wx) ?_ ?_
    · refine ⟨live_set_other LM _ _ _ (by omega), live_set_other LZ _ _ _ (by omega), live_conv (live_set_same LO 2 _ (by simp)) (by simp), hb.setCell (show w.heap.size ≤ w.heap.size + 3 by omega) _⟩
    clear LM LZ LO o0 o1 o2 o3 y0 y1 y2 fo fz hb z1
    rintro wx ⟨L, L2, L3, hb⟩
    rw [rounds_succ]
    go_wp2_with (first | (((with_reducible refine wpList_load_in (ty := 26) (w.heap.size) 0 (mach f false t) ?_ ?_ Try.underlying26 ?_ ?_ ?_); (· rfl); (· exact live_rangeAll L); (· rfl); (· kernel_rfl))) | (go_at_call 21; ((with_reducible refine (kin_units f false t 3 d _).mono ?_); rw [HV3.out, HE3.out]; rintro e w1 ⟨rfl, hb1⟩; have z1 := hb1.size; have LM := live_below hb1 L; have LZ := live_below hb1 L2; have LO := live_below hb1 L3; clear L L2 L3; obtain ⟨o0, o1, o2, o3⟩ := live_four LO; obtain ⟨y0, y1, y2⟩ : w1.cell? ⟨w.heap.size + 2, 0, none⟩ = some (.int .i64 0) ∧ w1.cell? ⟨w.heap.size + 2, 1, none⟩ = some (.int .i64 0) ∧ w1.cell? ⟨w.heap.size + 2, 2, none⟩ = some (.int .i64 0) := ⟨LZ.2.1 0, LZ.2.1 1, LZ.2.1 2⟩; have fo := LO.2.2; have fz := LZ.2.2; have hb := hb.trans (hb1.mono hb.size); clear hb1)))
    refine bodyPost_ret (v := .tuple #[.agg #[.int .i64 0, .int .i64 0, .int .i64 0], .int .i64 0, .int .i64 1]) (by simp [results, Try.results25, go_sem, y0, y1, y2]) rfl ⟨rfl, ?_⟩
    (repeat' (first | with_reducible exact Below.refl _ _ | with_reducible refine Below.drew ?_ | with_reducible refine below_drewN ?_ _ | with_reducible refine Below.alloc ?_ ?_ _ | with_reducible refine Below.setCell ?_ ?_ _ | with_reducible refine Below.trans ?_ (Below.mono (by with_reducible assumption) ?_) | (simp; done) | (simp; omega) | omega))
  · obtain ⟨hqa, hqb⟩ := HQ.out rfl
    have HA := Lib.hid hqa
    have HB := Lib.hid hqb
    clear hqa hqb
    clear HQ HQ2
    go_upto_region 11 with (go_at_call 44; refine (num_floor_pos _ _ _ ⟨?_, ?_⟩ ⟨?_, ?_⟩).mono ?_; (· omega); (· omega); (· omega); (· omega); rintro e wf ⟨rfl, rfl⟩)
    refine gen_world (fun wx => Live wx (w.heap.size) (mach f true t) ∧ Live wx (w.heap.size + 1) #[.int .i64 q0, .int .i64 q1, .int .i64 c, .int .i64 d] ∧ Live wx (w.heap.size + 2) #[.int .i64 0, .int .i64 0, .int .i64 0] ∧ wx.heap.size = w.heap.size + 3 ∧ Below w.heap.size w wx) ?_ ?_
    · refine ⟨live_set_other (live_set_other L _ _ _ (by omega)) _ _ _ (by omega), live_conv (live_set_same (live_conv (live_set_same L1 0 _ (by simp)) rfl) 1 _ (by simp)) (by simp [HA.out, HB.out]), live_set_other (live_set_other L2 _ _ _ (by omega)) _ _ _ (by omega), by simpa [World.setCell] using z0, ?_⟩
      exact (hb.setCell (show w.heap.size ≤ w.heap.size + 1 by omega) _).setCell (show w.heap.size ≤ w.heap.size + 1 by omega) _
    clear L L1 L2 z0 hb p0 p1 p2 p3 fp P1 c28
    rintro wx ⟨L, L1, L2, z0, hb⟩
    obtain ⟨p0, p1, p2, p3⟩ := live_four L1
    go_upto_region 12 with (fail)
    refine gen_world (fun wx => Live wx (w.heap.size) (mach f true t) ∧ Live wx (w.heap.size + 1) #[.int .i64 q0, .int .i64 q1, .int .i64 c, .int .i64 d] ∧ Live wx (w.heap.size + 2) #[.int .i64 0, .int .i64 0, .int .i64 0] ∧ Live wx (w.heap.size + 3) #[.int .i64 q0, .int .i64 q1, .int .i64 c, .int .i64 d] ∧ Below w.heap.size w wx) ?_ ?_
    · refine ⟨live_alloc L _, live_alloc L1 _, live_alloc L2 _, live_new _ _ z0, ?_⟩
      exact hb.alloc (by omega) _
    clear L L1 L2 z0 hb p0 p1 p2 p3
    rintro wx ⟨L, L1, L2, L3, hb⟩
    obtain ⟨p0, p1, p2, p3⟩ := live_four L1
    go_wp2_with fail
    clear p0 p1 p2 p3 L1
    refine wp_loop_rounds 5 ?_
    rw [rounds_succ]
    go_wp2_with (first | (((with_reducible refine wpList_load_in (ty := 26) (w.heap.size) 0 (mach f true t) ?_ ?_ Try.underlying26 ?_ ?_ ?_); (· rfl); (· exact live_rangeAll L); (· rfl); (· kernel_rfl))) | (go_at_call 21; ((with_reducible refine (kin_units f true t 0 q0 _).mono ?_); rw [HV0.out, HE0.out]; rintro e w1 ⟨rfl, hb1⟩; have z1 := hb1.size; have LM := live_below hb1 L; have LZ := live_below hb1 L2; have LO := live_below hb1 L3; clear L L2 L3; obtain ⟨o0, o1, o2, o3⟩ := live_four LO; obtain ⟨y0, y1, y2⟩ : w1.cell? ⟨w.heap.size + 2, 0, none⟩ = some (.int .i64 0) ∧ w1.cell? ⟨w.heap.size + 2, 1, none⟩ = some (.int .i64 0) ∧ w1.cell? ⟨w.heap.size + 2, 2, none⟩ = some (.int .i64 0) := ⟨LZ.2.1 0, LZ.2.1 1, LZ.2.1 2⟩; have fo := LO.2.2; have fz := LZ.2.2; have hb := hb.trans (hb1.mono hb.size); clear hb1)))
    refine gen_world (fun wx => Live wx (w.heap.size) (mach f true t) ∧ Live wx (w.heap.size + 2) #[.int .i64 0, .int .i64 0, .int .i64 0] ∧ Live wx (w.heap.size + 3) #[.int .i64 sa, .int .i64 q1, .int .i64 c, .int .i64 d] ∧ Below w.heap.size w wx) ?_ ?_
    · refine ⟨live_set_other LM _ _ _ (by omega), live_set_other LZ _ _ _ (by omega), live_conv (live_set_same LO 0 _ (by simp)) (by simp), hb.setCell (show w.heap.size ≤ w.heap.size + 3 by omega) _⟩
    clear LM LZ LO o0 o1 o2 o3 y0 y1 y2 fo fz hb z1
    rintro wx ⟨L, L2, L3, hb⟩
    rw [rounds_succ]
    go_wp2_with (first | (((with_reducible refine wpList_load_in (ty := 26) (w.heap.size) 0 (mach f true t) ?_ ?_ Try.underlying26 ?_ ?_ ?_); (· rfl); (· exact live_rangeAll L); (· rfl); (· kernel_rfl))) | (go_at_call 21; ((with_reducible refine (kin_units f true t 1 q1 _).mono ?_); rw [HV1.out, HE1.out]; rintro e w1 ⟨rfl, hb1⟩; have z1 := hb1.size; have LM := live_below hb1 L; have LZ := live_below hb1 L2; have LO := live_below hb1 L3; clear L L2 L3; obtain ⟨o0, o1, o2, o3⟩ := live_four LO; obtain ⟨y0, y1, y2⟩ : w1.cell? ⟨w.heap.size + 2, 0, none⟩ = some (.int .i64 0) ∧ w1.cell? ⟨w.heap.size + 2, 1, none⟩ = some (.int .i64 0) ∧ w1.cell? ⟨w.heap.size + 2, 2, none⟩ = some (.int .i64 0) := ⟨LZ.2.1 0, LZ.2.1 1, LZ.2.1 2⟩; have fo := LO.2.2; have fz := LZ.2.2; have hb := hb.trans (hb1.mono hb.size); clear hb1)))
    refine gen_world (fun wx => Live wx (w.heap.size) (mach f true t) ∧ Live wx (w.heap.size + 2) #[.int .i64 0, .int .i64 0, .int .i64 0] ∧ Live wx (w.heap.size + 3) #[.int .i64 sa, .int .i64 sb, .int .i64 c, .int .i64 d] ∧ Below w.heap.size w wx) ?_ ?_
    · refine ⟨live_set_other LM _ _ _ (by omega), live_set_other LZ _ _ _ (by omega), live_conv (live_set_same LO 1 _ (by simp)) (by simp), hb.setCell (show w.heap.size ≤ w.heap.size + 3 by omega) _⟩
    clear LM LZ LO o0 o1 o2 o3 y0 y1 y2 fo fz hb z1
    rintro wx ⟨L, L2, L3, hb⟩
    rw [rounds_succ]
    go_wp2_with (first | (((with_reducible refine wpList_load_in (ty := 26) (w.heap.size) 0 (mach f true t) ?_ ?_ Try.underlying26 ?_ ?_ ?_); (· rfl); (· exact live_rangeAll L); (· rfl); (· kernel_rfl))) | (go_at_call 21; ((with_reducible refine (kin_units f true t 2 c _).mono ?_); rw [HV2.out, HE2.out]; rintro e w1 ⟨rfl, hb1⟩; have z1 := hb1.size; have LM := live_below hb1 L; have LZ := live_below hb1 L2; have LO := live_below hb1 L3; clear L L2 L3; obtain ⟨o0, o1, o2, o3⟩ := live_four LO; obtain ⟨y0, y1, y2⟩ : w1.cell? ⟨w.heap.size + 2, 0, none⟩ = some (.int .i64 0) ∧ w1.cell? ⟨w.heap.size + 2, 1, none⟩ = some (.int .i64 0) ∧ w1.cell? ⟨w.heap.size + 2, 2, none⟩ = some (.int .i64 0) := ⟨LZ.2.1 0, LZ.2.1 1, LZ.2.1 2⟩; have fo := LO.2.2; have fz := LZ.2.2; have hb := hb.trans (hb1.mono hb.size); clear hb1)))
    refine gen_world (fun wx => Live wx (w.heap.size) (mach f true t) ∧ Live wx (w.heap.size + 2) #[.int .i64 0, .int .i64 0, .int .i64 0] ∧ Live wx (w.heap.size + 3) #[.int .i64 sa, .int .i64 sb, .int .i64 sc, .int .i64 d] ∧ Below w.heap.size w wx) ?_ ?_
    · refine ⟨live_set_other LM _ _ _ (by omega), live_set_other LZ _ _ _ (by omega), live_conv (live_set_same LO 2 _ (by simp)) (by simp), hb.setCell (show w.heap.size ≤ w.heap.size + 3 by omega) _⟩
    clear LM LZ LO o0 o1 o2 o3 y0 y1 y2 fo fz hb z1
    rintro wx ⟨L, L2, L3, hb⟩
    rw [rounds_succ]
    go_wp2_with (first | (((with_reducible refine wpList_load_in (ty := 26) (w.heap.size) 0 (mach f true t) ?_ ?_ Try.underlying26 ?_ ?_ ?_); (· rfl); (· exact live_rangeAll L); (· rfl); (· kernel_rfl))) | (go_at_call 21; ((with_reducible refine (kin_units f true t 3 d _).mono ?_); rw [HV3.out, HE3.out]; rintro e w1 ⟨rfl, hb1⟩; have z1 := hb1.size; have LM := live_below hb1 L; have LZ := live_below hb1 L2; have LO := live_below hb1 L3; clear L L2 L3; obtain ⟨o0, o1, o2, o3⟩ := live_four LO; obtain ⟨y0, y1, y2⟩ : w1.cell? ⟨w.heap.size + 2, 0, none⟩ = some (.int .i64 0) ∧ w1.cell? ⟨w.heap.size + 2, 1, none⟩ = some (.int .i64 0) ∧ w1.cell? ⟨w.heap.size + 2, 2, none⟩ = some (.int .i64 0) := ⟨LZ.2.1 0, LZ.2.1 1, LZ.2.1 2⟩; have fo := LO.2.2; have fz := LZ.2.2; have hb := hb.trans (hb1.mono hb.size); clear hb1)))
    refine bodyPost_ret (v := .tuple #[.agg #[.int .i64 0, .int .i64 0, .int .i64 0], .int .i64 0, .int .i64 1]) (by simp [results, Try.results25, go_sem, y0, y1, y2]) rfl ⟨rfl, ?_⟩
    (repeat' (first | with_reducible exact Below.refl _ _ | with_reducible refine Below.drew ?_ | with_reducible refine below_drewN ?_ _ | with_reducible refine Below.alloc ?_ ?_ _ | with_reducible refine Below.setCell ?_ ?_ _ | with_reducible refine Below.trans ?_ (Below.mono (by with_reducible assumption) ?_) | (simp; done) | (simp; omega) | omega))

set_option maxRecDepth 100000 in
set_option maxHeartbeats 4000000 in
theorem kin_position_yes (f : Nat → Int) (x : Bool) (t a b c d q0 q1 sa sb sc sd : Int) (w : World) (hq : x = true → (a + b) / 2 = q0 ∧ (a - b) / 2 = q1) (hq2 : x = false → q0 = a ∧ q1 = b) (ba : -281474976710656 ≤ a ∧ a ≤ 281474976710656) (bb : -281474976710656 ≤ b ∧ b ≤ 281474976710656) (HW0 : Hid (witB a 281474976710656 = true)) (HW1 : Hid (witB b 281474976710656 = true)) (HW2 : Hid (witB c 281474976710656 = true)) (HW3 : Hid (witB d 281474976710656 = true)) (HV0 : Hid (unV f t 0 q0 = sa)) (HE0 : Hid (unE f t 0 q0 = 0)) (HV1 : Hid (unV f t 1 q1 = sb)) (HE1 : Hid (unE f t 1 q1 = 0)) (HV2 : Hid (unV f t 2 c = sc)) (HE2 : Hid (unE f t 2 c = 0)) (HV3 : Hid (unV f t 3 d = sd)) (HE3 : Hid (unE f t 3 d = 0)) :
    Calls Try.prog 25 #[.agg (mach f x t), .agg #[.int .i64 a, .int .i64 b, .int .i64 c, .int .i64 d]] w fun e w' => e = .returned (.tuple #[.agg #[.int .i64 sa, .int .i64 sb, .int .i64 sc], .int .i64 sd, .int .i64 0]) ∧ Below w.heap.size w w' := by
  obtain ⟨j0, j1, j2, j3⟩ := arr_idx a b c d
  obtain ⟨i0, i1, i2, i3⟩ := arr_idx q0 q1 c d
  obtain ⟨ba0, ba1⟩ := ba
  obtain ⟨bb0, bb1⟩ := bb
  go_enter Try.func25, Try.ntmps25
  go_upto_region 1 with (fail)
  refine gen_world (fun wx => Live wx (w.heap.size) (mach f x t) ∧ Live wx (w.heap.size + 1) #[.int .i64 a, .int .i64 b, .int .i64 c, .int .i64 d] ∧ Live wx (w.heap.size + 2) #[.int .i64 0, .int .i64 0, .int .i64 0] ∧ wx.heap.size = w.heap.size + 3 ∧ Below w.heap.size w wx) ?_ ?_
  · refine ⟨live_alloc (live_alloc (live_new _ _ rfl) _) _, live_alloc (live_new _ _ (by simp)) _, live_new _ _ (by simp), by simp, ?_⟩
    (repeat' (first | with_reducible exact Below.refl _ _ | with_reducible refine Below.drew ?_ | with_reducible refine below_drewN ?_ _ | with_reducible refine Below.alloc ?_ ?_ _ | with_reducible refine Below.setCell ?_ ?_ _ | with_reducible refine Below.trans ?_ (Below.mono (by with_reducible assumption) ?_) | (simp; done) | (simp; omega) | omega))
  rintro wx ⟨L, L1, L2, z0, hb⟩
  have c28 := L.2.1 28
  rw [mach_28] at c28
  obtain ⟨p0, p1, p2, p3⟩ := live_four L1
  go_wp2_with fail
  clear p0 p1 p2 p3
  refine wp_loop_rounds 5 ?_
  rw [rounds_succ]
  go_wp2_with (go_at_call 39; ((with_reducible refine (kin_within a 281474976710656 _ (by decide) (by decide)).mono ?_); rw [HW0.out]; rintro e wf ⟨rfl, rfl⟩))
  rw [rounds_succ]
  go_wp2_with (go_at_call 39; ((with_reducible refine (kin_within b 281474976710656 _ (by decide) (by decide)).mono ?_); rw [HW1.out]; rintro e wf ⟨rfl, rfl⟩))
  rw [rounds_succ]
  go_wp2_with (go_at_call 39; ((with_reducible refine (kin_within c 281474976710656 _ (by decide) (by decide)).mono ?_); rw [HW2.out]; rintro e wf ⟨rfl, rfl⟩))
  rw [rounds_succ]
  go_wp2_with (go_at_call 39; ((with_reducible refine (kin_within d 281474976710656 _ (by decide) (by decide)).mono ?_); rw [HW3.out]; rintro e wf ⟨rfl, rfl⟩))
  rw [rounds_succ]
  go_upto_region 7 with (fail)
  obtain ⟨p0, p1, p2, p3⟩ := live_four L1
  have fp := L1.2.2
  have P1 := L1.1
  have HQ := Lib.hid hq
  have HQ2 := Lib.hid hq2
  clear hq hq2
  cases x
  · obtain ⟨rfl, rfl⟩ := HQ2.out rfl
    clear HQ HQ2
    go_upto_region 11 with (go_at_call 44; refine (num_floor_pos _ _ _ ⟨?_, ?_⟩ ⟨?_, ?_⟩).mono ?_; (· omega); (· omega); (· omega); (· omega); rintro e wf ⟨rfl, rfl⟩)
    refine gen_world (fun wx => Live wx (w.heap.size) (mach f false t) ∧ Live wx (w.heap.size + 1) #[.int .i64 q0, .int .i64 q1, .int .i64 c, .int .i64 d] ∧ Live wx (w.heap.size + 2) #[.int .i64 0, .int .i64 0, .int .i64 0] ∧ wx.heap.size = w.heap.size + 3 ∧ Below w.heap.size w wx) ⟨L, L1, L2, z0, hb⟩ ?_
    clear L L1 L2 z0 hb p0 p1 p2 p3 fp P1 c28
    rintro wx ⟨L, L1, L2, z0, hb⟩
    obtain ⟨p0, p1, p2, p3⟩ := live_four L1
    go_upto_region 12 with (fail)
    refine gen_world (fun wx => Live wx (w.heap.size) (mach f false t) ∧ Live wx (w.heap.size + 1) #[.int .i64 q0, .int .i64 q1, .int .i64 c, .int .i64 d] ∧ Live wx (w.heap.size + 2) #[.int .i64 0, .int .i64 0, .int .i64 0] ∧ Live wx (w.heap.size + 3) #[.int .i64 q0, .int .i64 q1, .int .i64 c, .int .i64 d] ∧ Below w.heap.size w wx) ?_ ?_
    · refine ⟨live_alloc L _, live_alloc L1 _, live_alloc L2 _, live_new _ _ z0, ?_⟩
      exact hb.alloc (by omega) _
    clear L L1 L2 z0 hb p0 p1 p2 p3
    rintro wx ⟨L, L1, L2, L3, hb⟩
    obtain ⟨p0, p1, p2, p3⟩ := live_four L1
    go_wp2_with fail
    clear p0 p1 p2 p3 L1
    refine wp_loop_rounds 5 ?_
    rw [rounds_succ]
    go_wp2_with (first | (((with_reducible refine wpList_load_in (ty := 26) (w.heap.size) 0 (mach f false t) ?_ ?_ Try.underlying26 ?_ ?_ ?_); (· rfl); (· exact live_rangeAll L); (· rfl); (· kernel_rfl))) | (go_at_call 21; ((with_reducible refine (kin_units f false t 0 q0 _).mono ?_); rw [HV0.out, HE0.out]; rintro e w1 ⟨rfl, hb1⟩; have z1 := hb1.size; have LM := live_below hb1 L; have LZ := live_below hb1 L2; have LO := live_below hb1 L3; clear L L2 L3; obtain ⟨o0, o1, o2, o3⟩ := live_four LO; obtain ⟨y0, y1, y2⟩ : w1.cell? ⟨w.heap.size + 2, 0, none⟩ = some (.int .i64 0) ∧ w1.cell? ⟨w.heap.size + 2, 1, none⟩ = some (.int .i64 0) ∧ w1.cell? ⟨w.heap.size + 2, 2, none⟩ = some (.int .i64 0) := ⟨LZ.2.1 0, LZ.2.1 1, LZ.2.1 2⟩; have fo := LO.2.2; have fz := LZ.2.2; have hb := hb.trans (hb1.mono hb.size); clear hb1)))
    refine gen_world (fun wx => Live wx (w.heap.size) (mach f false t) ∧ Live wx (w.heap.size + 2) #[.int .i64 0, .int .i64 0, .int .i64 0] ∧ Live wx (w.heap.size + 3) #[.int .i64 sa, .int .i64 q1, .int .i64 c, .int .i64 d] ∧ Below w.heap.size w wx) ?_ ?_
    · refine ⟨live_set_other LM _ _ _ (by omega), live_set_other LZ _ _ _ (by omega), live_conv (live_set_same LO 0 _ (by simp)) (by simp), hb.setCell (show w.heap.size ≤ w.heap.size + 3 by omega) _⟩
    clear LM LZ LO o0 o1 o2 o3 y0 y1 y2 fo fz hb z1
    rintro wx ⟨L, L2, L3, hb⟩
    rw [rounds_succ]
    go_wp2_with (first | (((with_reducible refine wpList_load_in (ty := 26) (w.heap.size) 0 (mach f false t) ?_ ?_ Try.underlying26 ?_ ?_ ?_); (· rfl); (· exact live_rangeAll L); (· rfl); (· kernel_rfl))) | (go_at_call 21; ((with_reducible refine (kin_units f false t 1 q1 _).mono ?_); rw [HV1.out, HE1.out]; rintro e w1 ⟨rfl, hb1⟩; have z1 := hb1.size; have LM := live_below hb1 L; have LZ := live_below hb1 L2; have LO := live_below hb1 L3; clear L L2 L3; obtain ⟨o0, o1, o2, o3⟩ := live_four LO; obtain ⟨y0, y1, y2⟩ : w1.cell? ⟨w.heap.size + 2, 0, none⟩ = some (.int .i64 0) ∧ w1.cell? ⟨w.heap.size + 2, 1, none⟩ = some (.int .i64 0) ∧ w1.cell? ⟨w.heap.size + 2, 2, none⟩ = some (.int .i64 0) := ⟨LZ.2.1 0, LZ.2.1 1, LZ.2.1 2⟩; have fo := LO.2.2; have fz := LZ.2.2; have hb := hb.trans (hb1.mono hb.size); clear hb1)))
    refine gen_world (fun wx => Live wx (w.heap.size) (mach f false t) ∧ Live wx (w.heap.size + 2) #[.int .i64 0, .int .i64 0, .int .i64 0] ∧ Live wx (w.heap.size + 3) #[.int .i64 sa, .int .i64 sb, .int .i64 c, .int .i64 d] ∧ Below w.heap.size w wx) ?_ ?_
    · refine ⟨live_set_other LM _ _ _ (by omega), live_set_other LZ _ _ _ (by omega), live_conv (live_set_same LO 1 _ (by simp)) (by simp), hb.setCell (show w.heap.size ≤ w.heap.size + 3 by omega) _⟩
    clear LM LZ LO o0 o1 o2 o3 y0 y1 y2 fo fz hb z1
    rintro wx ⟨L, L2, L3, hb⟩
    rw [rounds_succ]
    go_wp2_with (first | (((with_reducible refine wpList_load_in (ty := 26) (w.heap.size) 0 (mach f false t) ?_ ?_ Try.underlying26 ?_ ?_ ?_); (· rfl); (· exact live_rangeAll L); (· rfl); (· kernel_rfl))) | (go_at_call 21; ((with_reducible refine (kin_units f false t 2 c _).mono ?_); rw [HV2.out, HE2.out]; rintro e w1 ⟨rfl, hb1⟩; have z1 := hb1.size; have LM := live_below hb1 L; have LZ := live_below hb1 L2; have LO := live_below hb1 L3; clear L L2 L3; obtain ⟨o0, o1, o2, o3⟩ := live_four LO; obtain ⟨y0, y1, y2⟩ : w1.cell? ⟨w.heap.size + 2, 0, none⟩ = some (.int .i64 0) ∧ w1.cell? ⟨w.heap.size + 2, 1, none⟩ = some (.int .i64 0) ∧ w1.cell? ⟨w.heap.size + 2, 2, none⟩ = some (.int .i64 0) := ⟨LZ.2.1 0, LZ.2.1 1, LZ.2.1 2⟩; have fo := LO.2.2; have fz := LZ.2.2; have hb := hb.trans (hb1.mono hb.size); clear hb1)))
    refine gen_world (fun wx => Live wx (w.heap.size) (mach f false t) ∧ Live wx (w.heap.size + 2) #[.int .i64 0, .int .i64 0, .int .i64 0] ∧ Live wx (w.heap.size + 3) #[.int .i64 sa, .int .i64 sb, .int .i64 sc, .int .i64 d] ∧ Below w.heap.size w wx) ?_ ?_
    · refine ⟨live_set_other LM _ _ _ (by omega), live_set_other LZ _ _ _ (by omega), live_conv (live_set_same LO 2 _ (by simp)) (by simp), hb.setCell (show w.heap.size ≤ w.heap.size + 3 by omega) _⟩
    clear LM LZ LO o0 o1 o2 o3 y0 y1 y2 fo fz hb z1
    rintro wx ⟨L, L2, L3, hb⟩
    rw [rounds_succ]
    go_wp2_with (first | (((with_reducible refine wpList_load_in (ty := 26) (w.heap.size) 0 (mach f false t) ?_ ?_ Try.underlying26 ?_ ?_ ?_); (· rfl); (· exact live_rangeAll L); (· rfl); (· kernel_rfl))) | (go_at_call 21; ((with_reducible refine (kin_units f false t 3 d _).mono ?_); rw [HV3.out, HE3.out]; rintro e w1 ⟨rfl, hb1⟩; have z1 := hb1.size; have LM := live_below hb1 L; have LZ := live_below hb1 L2; have LO := live_below hb1 L3; clear L L2 L3; obtain ⟨o0, o1, o2, o3⟩ := live_four LO; obtain ⟨y0, y1, y2⟩ : w1.cell? ⟨w.heap.size + 2, 0, none⟩ = some (.int .i64 0) ∧ w1.cell? ⟨w.heap.size + 2, 1, none⟩ = some (.int .i64 0) ∧ w1.cell? ⟨w.heap.size + 2, 2, none⟩ = some (.int .i64 0) := ⟨LZ.2.1 0, LZ.2.1 1, LZ.2.1 2⟩; have fo := LO.2.2; have fz := LZ.2.2; have hb := hb.trans (hb1.mono hb.size); clear hb1)))
    refine gen_world (fun wx => Live wx (w.heap.size) (mach f false t) ∧ Live wx (w.heap.size + 2) #[.int .i64 0, .int .i64 0, .int .i64 0] ∧ Live wx (w.heap.size + 3) #[.int .i64 sa, .int .i64 sb, .int .i64 sc, .int .i64 sd] ∧ Below w.heap.size w wx) ?_ ?_
    · refine ⟨live_set_other LM _ _ _ (by omega), live_set_other LZ _ _ _ (by omega), live_conv (live_set_same LO 3 _ (by simp)) (by simp), hb.setCell (show w.heap.size ≤ w.heap.size + 3 by omega) _⟩
    clear LM LZ LO o0 o1 o2 o3 y0 y1 y2 fo fz hb z1
    rintro wx ⟨L, L2, L3, hb⟩
    rw [rounds_succ]
    obtain ⟨o0, o1, o2, o3⟩ := live_four L3
    obtain ⟨y0, y1, y2⟩ : wx.cell? ⟨w.heap.size + 2, 0, none⟩ = some (.int .i64 0) ∧ wx.cell? ⟨w.heap.size + 2, 1, none⟩ = some (.int .i64 0) ∧ wx.cell? ⟨w.heap.size + 2, 2, none⟩ = some (.int .i64 0) := ⟨L2.2.1 0, L2.2.1 1, L2.2.1 2⟩
    have fz := L2.2.2
    have P2 := L2.1
    clear L L2
    go_wp2_with fail
    go_region_held3 (fun w' => w'.cell? ⟨w.heap.size + 3, 0, none⟩ = some (.int .i64 sa) ∧ w'.cell? ⟨w.heap.size + 3, 1, none⟩ = some (.int .i64 sb) ∧ w'.cell? ⟨w.heap.size + 3, 2, none⟩ = some (.int .i64 sc) ∧ w'.cell? ⟨w.heap.size + 3, 3, none⟩ = some (.int .i64 sd)) (go_keep) (fail)
    all_goals go_wp2_with fail
    all_goals refine bodyPost_ret (v := .tuple #[.agg #[.int .i64 sa, .int .i64 sb, .int .i64 sc], .int .i64 sd, .int .i64 0]) (by simp [results, Try.results25, go_sem, y0, y1, y2]) rfl ⟨rfl, ?_⟩
    all_goals (repeat' (first | with_reducible exact Below.refl _ _ | with_reducible refine Below.drew ?_ | with_reducible refine below_drewN ?_ _ | with_reducible refine Below.alloc ?_ ?_ _ | with_reducible refine Below.setCell ?_ ?_ _ | with_reducible refine Below.trans ?_ (Below.mono (by with_reducible assumption) ?_) | (simp; done) | (simp; omega) | omega))
  · obtain ⟨hqa, hqb⟩ := HQ.out rfl
    have HA := Lib.hid hqa
    have HB := Lib.hid hqb
    clear hqa hqb
    clear HQ HQ2
    go_upto_region 11 with (go_at_call 44; refine (num_floor_pos _ _ _ ⟨?_, ?_⟩ ⟨?_, ?_⟩).mono ?_; (· omega); (· omega); (· omega); (· omega); rintro e wf ⟨rfl, rfl⟩)
    refine gen_world (fun wx => Live wx (w.heap.size) (mach f true t) ∧ Live wx (w.heap.size + 1) #[.int .i64 q0, .int .i64 q1, .int .i64 c, .int .i64 d] ∧ Live wx (w.heap.size + 2) #[.int .i64 0, .int .i64 0, .int .i64 0] ∧ wx.heap.size = w.heap.size + 3 ∧ Below w.heap.size w wx) ?_ ?_
    · refine ⟨live_set_other (live_set_other L _ _ _ (by omega)) _ _ _ (by omega), live_conv (live_set_same (live_conv (live_set_same L1 0 _ (by simp)) rfl) 1 _ (by simp)) (by simp [HA.out, HB.out]), live_set_other (live_set_other L2 _ _ _ (by omega)) _ _ _ (by omega), by simpa [World.setCell] using z0, ?_⟩
      exact (hb.setCell (show w.heap.size ≤ w.heap.size + 1 by omega) _).setCell (show w.heap.size ≤ w.heap.size + 1 by omega) _
    clear L L1 L2 z0 hb p0 p1 p2 p3 fp P1 c28
    rintro wx ⟨L, L1, L2, z0, hb⟩
    obtain ⟨p0, p1, p2, p3⟩ := live_four L1
    go_upto_region 12 with (fail)
    refine gen_world (fun wx => Live wx (w.heap.size) (mach f true t) ∧ Live wx (w.heap.size + 1) #[.int .i64 q0, .int .i64 q1, .int .i64 c, .int .i64 d] ∧ Live wx (w.heap.size + 2) #[.int .i64 0, .int .i64 0, .int .i64 0] ∧ Live wx (w.heap.size + 3) #[.int .i64 q0, .int .i64 q1, .int .i64 c, .int .i64 d] ∧ Below w.heap.size w wx) ?_ ?_
    · refine ⟨live_alloc L _, live_alloc L1 _, live_alloc L2 _, live_new _ _ z0, ?_⟩
      exact hb.alloc (by omega) _
    clear L L1 L2 z0 hb p0 p1 p2 p3
    rintro wx ⟨L, L1, L2, L3, hb⟩
    obtain ⟨p0, p1, p2, p3⟩ := live_four L1
    go_wp2_with fail
    clear p0 p1 p2 p3 L1
    refine wp_loop_rounds 5 ?_
    rw [rounds_succ]
    go_wp2_with (first | (((with_reducible refine wpList_load_in (ty := 26) (w.heap.size) 0 (mach f true t) ?_ ?_ Try.underlying26 ?_ ?_ ?_); (· rfl); (· exact live_rangeAll L); (· rfl); (· kernel_rfl))) | (go_at_call 21; ((with_reducible refine (kin_units f true t 0 q0 _).mono ?_); rw [HV0.out, HE0.out]; rintro e w1 ⟨rfl, hb1⟩; have z1 := hb1.size; have LM := live_below hb1 L; have LZ := live_below hb1 L2; have LO := live_below hb1 L3; clear L L2 L3; obtain ⟨o0, o1, o2, o3⟩ := live_four LO; obtain ⟨y0, y1, y2⟩ : w1.cell? ⟨w.heap.size + 2, 0, none⟩ = some (.int .i64 0) ∧ w1.cell? ⟨w.heap.size + 2, 1, none⟩ = some (.int .i64 0) ∧ w1.cell? ⟨w.heap.size + 2, 2, none⟩ = some (.int .i64 0) := ⟨LZ.2.1 0, LZ.2.1 1, LZ.2.1 2⟩; have fo := LO.2.2; have fz := LZ.2.2; have hb := hb.trans (hb1.mono hb.size); clear hb1)))
    refine gen_world (fun wx => Live wx (w.heap.size) (mach f true t) ∧ Live wx (w.heap.size + 2) #[.int .i64 0, .int .i64 0, .int .i64 0] ∧ Live wx (w.heap.size + 3) #[.int .i64 sa, .int .i64 q1, .int .i64 c, .int .i64 d] ∧ Below w.heap.size w wx) ?_ ?_
    · refine ⟨live_set_other LM _ _ _ (by omega), live_set_other LZ _ _ _ (by omega), live_conv (live_set_same LO 0 _ (by simp)) (by simp), hb.setCell (show w.heap.size ≤ w.heap.size + 3 by omega) _⟩
    clear LM LZ LO o0 o1 o2 o3 y0 y1 y2 fo fz hb z1
    rintro wx ⟨L, L2, L3, hb⟩
    rw [rounds_succ]
    go_wp2_with (first | (((with_reducible refine wpList_load_in (ty := 26) (w.heap.size) 0 (mach f true t) ?_ ?_ Try.underlying26 ?_ ?_ ?_); (· rfl); (· exact live_rangeAll L); (· rfl); (· kernel_rfl))) | (go_at_call 21; ((with_reducible refine (kin_units f true t 1 q1 _).mono ?_); rw [HV1.out, HE1.out]; rintro e w1 ⟨rfl, hb1⟩; have z1 := hb1.size; have LM := live_below hb1 L; have LZ := live_below hb1 L2; have LO := live_below hb1 L3; clear L L2 L3; obtain ⟨o0, o1, o2, o3⟩ := live_four LO; obtain ⟨y0, y1, y2⟩ : w1.cell? ⟨w.heap.size + 2, 0, none⟩ = some (.int .i64 0) ∧ w1.cell? ⟨w.heap.size + 2, 1, none⟩ = some (.int .i64 0) ∧ w1.cell? ⟨w.heap.size + 2, 2, none⟩ = some (.int .i64 0) := ⟨LZ.2.1 0, LZ.2.1 1, LZ.2.1 2⟩; have fo := LO.2.2; have fz := LZ.2.2; have hb := hb.trans (hb1.mono hb.size); clear hb1)))
    refine gen_world (fun wx => Live wx (w.heap.size) (mach f true t) ∧ Live wx (w.heap.size + 2) #[.int .i64 0, .int .i64 0, .int .i64 0] ∧ Live wx (w.heap.size + 3) #[.int .i64 sa, .int .i64 sb, .int .i64 c, .int .i64 d] ∧ Below w.heap.size w wx) ?_ ?_
    · refine ⟨live_set_other LM _ _ _ (by omega), live_set_other LZ _ _ _ (by omega), live_conv (live_set_same LO 1 _ (by simp)) (by simp), hb.setCell (show w.heap.size ≤ w.heap.size + 3 by omega) _⟩
    clear LM LZ LO o0 o1 o2 o3 y0 y1 y2 fo fz hb z1
    rintro wx ⟨L, L2, L3, hb⟩
    rw [rounds_succ]
    go_wp2_with (first | (((with_reducible refine wpList_load_in (ty := 26) (w.heap.size) 0 (mach f true t) ?_ ?_ Try.underlying26 ?_ ?_ ?_); (· rfl); (· exact live_rangeAll L); (· rfl); (· kernel_rfl))) | (go_at_call 21; ((with_reducible refine (kin_units f true t 2 c _).mono ?_); rw [HV2.out, HE2.out]; rintro e w1 ⟨rfl, hb1⟩; have z1 := hb1.size; have LM := live_below hb1 L; have LZ := live_below hb1 L2; have LO := live_below hb1 L3; clear L L2 L3; obtain ⟨o0, o1, o2, o3⟩ := live_four LO; obtain ⟨y0, y1, y2⟩ : w1.cell? ⟨w.heap.size + 2, 0, none⟩ = some (.int .i64 0) ∧ w1.cell? ⟨w.heap.size + 2, 1, none⟩ = some (.int .i64 0) ∧ w1.cell? ⟨w.heap.size + 2, 2, none⟩ = some (.int .i64 0) := ⟨LZ.2.1 0, LZ.2.1 1, LZ.2.1 2⟩; have fo := LO.2.2; have fz := LZ.2.2; have hb := hb.trans (hb1.mono hb.size); clear hb1)))
    refine gen_world (fun wx => Live wx (w.heap.size) (mach f true t) ∧ Live wx (w.heap.size + 2) #[.int .i64 0, .int .i64 0, .int .i64 0] ∧ Live wx (w.heap.size + 3) #[.int .i64 sa, .int .i64 sb, .int .i64 sc, .int .i64 d] ∧ Below w.heap.size w wx) ?_ ?_
    · refine ⟨live_set_other LM _ _ _ (by omega), live_set_other LZ _ _ _ (by omega), live_conv (live_set_same LO 2 _ (by simp)) (by simp), hb.setCell (show w.heap.size ≤ w.heap.size + 3 by omega) _⟩
    clear LM LZ LO o0 o1 o2 o3 y0 y1 y2 fo fz hb z1
    rintro wx ⟨L, L2, L3, hb⟩
    rw [rounds_succ]
    go_wp2_with (first | (((with_reducible refine wpList_load_in (ty := 26) (w.heap.size) 0 (mach f true t) ?_ ?_ Try.underlying26 ?_ ?_ ?_); (· rfl); (· exact live_rangeAll L); (· rfl); (· kernel_rfl))) | (go_at_call 21; ((with_reducible refine (kin_units f true t 3 d _).mono ?_); rw [HV3.out, HE3.out]; rintro e w1 ⟨rfl, hb1⟩; have z1 := hb1.size; have LM := live_below hb1 L; have LZ := live_below hb1 L2; have LO := live_below hb1 L3; clear L L2 L3; obtain ⟨o0, o1, o2, o3⟩ := live_four LO; obtain ⟨y0, y1, y2⟩ : w1.cell? ⟨w.heap.size + 2, 0, none⟩ = some (.int .i64 0) ∧ w1.cell? ⟨w.heap.size + 2, 1, none⟩ = some (.int .i64 0) ∧ w1.cell? ⟨w.heap.size + 2, 2, none⟩ = some (.int .i64 0) := ⟨LZ.2.1 0, LZ.2.1 1, LZ.2.1 2⟩; have fo := LO.2.2; have fz := LZ.2.2; have hb := hb.trans (hb1.mono hb.size); clear hb1)))
    refine gen_world (fun wx => Live wx (w.heap.size) (mach f true t) ∧ Live wx (w.heap.size + 2) #[.int .i64 0, .int .i64 0, .int .i64 0] ∧ Live wx (w.heap.size + 3) #[.int .i64 sa, .int .i64 sb, .int .i64 sc, .int .i64 sd] ∧ Below w.heap.size w wx) ?_ ?_
    · refine ⟨live_set_other LM _ _ _ (by omega), live_set_other LZ _ _ _ (by omega), live_conv (live_set_same LO 3 _ (by simp)) (by simp), hb.setCell (show w.heap.size ≤ w.heap.size + 3 by omega) _⟩
    clear LM LZ LO o0 o1 o2 o3 y0 y1 y2 fo fz hb z1
    rintro wx ⟨L, L2, L3, hb⟩
    rw [rounds_succ]
    obtain ⟨o0, o1, o2, o3⟩ := live_four L3
    obtain ⟨y0, y1, y2⟩ : wx.cell? ⟨w.heap.size + 2, 0, none⟩ = some (.int .i64 0) ∧ wx.cell? ⟨w.heap.size + 2, 1, none⟩ = some (.int .i64 0) ∧ wx.cell? ⟨w.heap.size + 2, 2, none⟩ = some (.int .i64 0) := ⟨L2.2.1 0, L2.2.1 1, L2.2.1 2⟩
    have fz := L2.2.2
    have P2 := L2.1
    clear L L2
    go_wp2_with fail
    go_region_held3 (fun w' => w'.cell? ⟨w.heap.size + 3, 0, none⟩ = some (.int .i64 sa) ∧ w'.cell? ⟨w.heap.size + 3, 1, none⟩ = some (.int .i64 sb) ∧ w'.cell? ⟨w.heap.size + 3, 2, none⟩ = some (.int .i64 sc) ∧ w'.cell? ⟨w.heap.size + 3, 3, none⟩ = some (.int .i64 sd)) (go_keep) (fail)
    all_goals go_wp2_with fail
    all_goals refine bodyPost_ret (v := .tuple #[.agg #[.int .i64 sa, .int .i64 sb, .int .i64 sc], .int .i64 sd, .int .i64 0]) (by simp [results, Try.results25, go_sem, y0, y1, y2]) rfl ⟨rfl, ?_⟩
    all_goals (repeat' (first | with_reducible exact Below.refl _ _ | with_reducible refine Below.drew ?_ | with_reducible refine below_drewN ?_ _ | with_reducible refine Below.alloc ?_ ?_ _ | with_reducible refine Below.setCell ?_ ?_ _ | with_reducible refine Below.trans ?_ (Below.mono (by with_reducible assumption) ?_) | (simp; done) | (simp; omega) | omega))

theorem kin_position (f : Nat → Int) (x : Bool) (t a b c d : Int) (w : World) :
    Calls Try.prog 25 #[.agg (mach f x t), .agg #[.int .i64 a, .int .i64 b, .int .i64 c, .int .i64 d]] w fun e w' => e = .returned (.tuple #[.agg #[.int .i64 (poV f x t a b c d 0), .int .i64 (poV f x t a b c d 1), .int .i64 (poV f x t a b c d 2)], .int .i64 (poV f x t a b c d 3), .int .i64 (poE f x t a b c d)]) ∧ Below w.heap.size w w' := by
  have e1 : ∀ k p, unOk f t k p = true → unE f t k p = 0 := fun k p h => by unfold unE; rw [h]; rfl
  have e0 : ∀ k p, unOk f t k p = false → unE f t k p = 1 := fun k p h => by unfold unE; rw [h]; rfl
  unfold poV poE poOk poFar
  cases w0 : witB a 281474976710656
  · exact kin_position_far0 f x t a b c d w (Lib.hid w0)
  cases w1 : witB b 281474976710656
  · exact kin_position_far1 f x t a b c d w (Lib.hid w0) (Lib.hid w1)
  cases w2 : witB c 281474976710656
  · exact kin_position_far2 f x t a b c d w (Lib.hid w0) (Lib.hid w1) (Lib.hid w2)
  cases w3 : witB d 281474976710656
  · exact kin_position_far3 f x t a b c d w (Lib.hid w0) (Lib.hid w1) (Lib.hid w2) (Lib.hid w3)
  have hq : x = true → (a + b) / 2 = poQ0 x a b ∧ (a - b) / 2 = poQ1 x a b := fun h => by subst h; exact ⟨rfl, rfl⟩
  have hq2 : x = false → poQ0 x a b = a ∧ poQ1 x a b = b := fun h => by subst h; exact ⟨rfl, rfl⟩
  have ba : -281474976710656 ≤ a ∧ a ≤ 281474976710656 := by unfold witB at w0; simpa using w0
  have bb : -281474976710656 ≤ b ∧ b ≤ 281474976710656 := by unfold witB at w1; simpa using w1
  cases h0 : unOk f t 0 (poQ0 x a b)
  · exact kin_position_no0 f x t a b c d _ _ _ 0 0 0 w hq hq2 ba bb (Lib.hid w0) (Lib.hid w1) (Lib.hid w2) (Lib.hid w3) (Lib.hid rfl) (Lib.hid (e0 _ _ h0))
  cases h1 : unOk f t 1 (poQ1 x a b)
  · exact kin_position_no1 f x t a b c d _ _ _ _ 0 0 w hq hq2 ba bb (Lib.hid w0) (Lib.hid w1) (Lib.hid w2) (Lib.hid w3) (Lib.hid rfl) (Lib.hid (e1 _ _ h0)) (Lib.hid rfl) (Lib.hid (e0 _ _ h1))
  cases h2 : unOk f t 2 c
  · exact kin_position_no2 f x t a b c d _ _ _ _ _ 0 w hq hq2 ba bb (Lib.hid w0) (Lib.hid w1) (Lib.hid w2) (Lib.hid w3) (Lib.hid rfl) (Lib.hid (e1 _ _ h0)) (Lib.hid rfl) (Lib.hid (e1 _ _ h1)) (Lib.hid rfl) (Lib.hid (e0 _ _ h2))
  cases h3 : unOk f t 3 d
  · exact kin_position_no3 f x t a b c d _ _ _ _ _ _ w hq hq2 ba bb (Lib.hid w0) (Lib.hid w1) (Lib.hid w2) (Lib.hid w3) (Lib.hid rfl) (Lib.hid (e1 _ _ h0)) (Lib.hid rfl) (Lib.hid (e1 _ _ h1)) (Lib.hid rfl) (Lib.hid (e1 _ _ h2)) (Lib.hid rfl) (Lib.hid (e0 _ _ h3))
  · exact kin_position_yes f x t a b c d _ _ _ _ _ _ w hq hq2 ba bb (Lib.hid w0) (Lib.hid w1) (Lib.hid w2) (Lib.hid w3) (Lib.hid rfl) (Lib.hid (e1 _ _ h0)) (Lib.hid rfl) (Lib.hid (e1 _ _ h1)) (Lib.hid rfl) (Lib.hid (e1 _ _ h2)) (Lib.hid rfl) (Lib.hid (e1 _ _ h3))
end Go.Proofs.Ythodfmmmddfkmaa
