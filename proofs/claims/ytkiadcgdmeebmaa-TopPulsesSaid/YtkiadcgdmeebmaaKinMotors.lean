/- What Motors returns, in the program and in the reference, for all machines, positions and numbers -/
import Derived.Outline
import Derived.Handy
import Derived.Deep.RegionHeld3
import Derived.Test.YtkiadcgdmeebmaaKit6
import Derived.Test.YtkiadcgdmeebmaaKinSteps
import Derived.Test.YtkiadcgdmeebmaaDdaEq
namespace Go.Proofs.Ytkiadcgdmeebmaa
open Go.RowKit
set_option linter.unusedVariables false

attribute [local go_sem] cell_past1 cell_past2 cell_past3 cell_past4 froz_past1 froz_past2 froz_past3

/-- The nearest integer is no greater in size than a bound on the dividend. -/
theorem rnd_in (a b M : Int) (hb : 1 ≤ b) (h0 : -M ≤ a) (h1 : a ≤ M) (hM : 0 ≤ M) : -M ≤ rnd a b ∧ rnd a b ≤ M := by
  unfold rnd
  have hm : M ≤ M * b := by have := Int.mul_le_mul_of_nonneg_left hb hM; omega
  have e : M * (2 * b) = 2 * (M * b) := Int.mul_left_comm _ _ _
  constructor
  · have h : (b + -M * (2 * b)) / (2 * b) ≤ (2 * a + b) / (2 * b) := Int.ediv_le_ediv (by omega) (by rw [Int.neg_mul]; omega)
    rw [Int.add_mul_ediv_right b (-M) (by omega), Int.ediv_eq_zero_of_lt (a := b) (by omega) (by omega)] at h
    omega
  · have h : (2 * a + b) / (2 * b) ≤ (b + M * (2 * b)) / (2 * b) := Int.ediv_le_ediv (by omega) (by omega)
    rw [Int.add_mul_ediv_right b M (by omega), Int.ediv_eq_zero_of_lt (a := b) (by omega) (by omega)] at h
    omega
theorem stV_in (f : Nat → Int) (t k p : Int) : -70368744177664 ≤ stV f t k p ∧ stV f t k p ≤ 70368744177664 := by
  unfold stV
  split
  · rename_i h
    have h2 : kinValid f t = true ∧ 0 ≤ k ∧ k < 4 ∧ -1073741824 ≤ p ∧ p ≤ 1073741824 := by unfold stOk at h; simpa using h
    obtain ⟨hv, k0, k1, p0, p1⟩ := h2
    have ha := ax_ok f k.toNat (kin_axes f t hv k.toNat (by omega))
    have hm := mul_bd p (f (7 * k.toNat)) 1073741824 65536 p0 p1 (by omega) (by omega) (by omega)
    exact rnd_in _ _ 70368744177664 (by omega) (by omega) (by omega) (by omega)
  · omega

def moOk (f : Nat → Int) (t a b c e : Int) : Bool := stOk f t 0 a && (stOk f t 1 b && (stOk f t 2 c && stOk f t 3 e))
def moV (f : Nat → Int) (x : Bool) (t a b c e : Int) (j : Nat) : Int :=
  if moOk f t a b c e then (if j = 0 then (if x then stV f t 0 a + stV f t 1 b else stV f t 0 a) else if j = 1 then (if x then stV f t 0 a - stV f t 1 b else stV f t 1 b) else if j = 2 then stV f t 2 c else stV f t 3 e) else 0
def moE (f : Nat → Int) (t a b c e : Int) : Int := if moOk f t a b c e then 0 else 1

set_option maxRecDepth 100000 in
set_option maxHeartbeats 4000000 in
theorem kin_motors_no0 (f : Nat → Int) (x : Bool) (t a b c e sa sb sc se : Int) (w : World) (HV0 : Hid (stV f t 0 a = sa)) (HE0 : Hid (stE f t 0 a = 1)) :
    Calls Try.prog 17 #[.agg (mach f x t), .agg #[.int .i64 a, .int .i64 b, .int .i64 c], .int .i64 e] w fun e w' => e = .returned (.tuple #[.agg #[.int .i64 0, .int .i64 0, .int .i64 0, .int .i64 0], .int .i64 1]) ∧ Below w.heap.size w w' := by
  obtain ⟨j0, j1, j2, j3⟩ := arr_idx a b c e
  go_enter Try.func17, Try.ntmps17
  go_upto_region 1 with (fail)
  refine gen_world (fun wx => Live wx (w.heap.size) (mach f x t) ∧ Live wx (w.heap.size + 1) #[.int .i64 a, .int .i64 b, .int .i64 c] ∧ Live wx (w.heap.size + 2) #[.int .i64 0, .int .i64 0, .int .i64 0, .int .i64 0] ∧ wx.heap.size = w.heap.size + 3 ∧ Below w.heap.size w wx) ?_ ?_
  · refine ⟨live_alloc (live_alloc (live_new _ _ rfl) _) _, live_alloc (live_new _ _ (by simp)) _, live_new _ _ (by simp), by simp, ?_⟩
    (repeat' (first | with_reducible exact Below.refl _ _ | with_reducible refine Below.drew ?_ | with_reducible refine below_drewN ?_ _ | with_reducible refine Below.alloc ?_ ?_ _ | with_reducible refine Below.setCell ?_ ?_ _ | with_reducible refine Below.trans ?_ (Below.mono (by with_reducible assumption) ?_) | (simp; done) | (simp; omega) | omega))
  rintro wx ⟨L, L1, L2, z0, hb⟩
  obtain ⟨q0, q1, q2⟩ : wx.cell? ⟨w.heap.size + 1, 0, none⟩ = some (.int .i64 a) ∧ wx.cell? ⟨w.heap.size + 1, 1, none⟩ = some (.int .i64 b) ∧ wx.cell? ⟨w.heap.size + 1, 2, none⟩ = some (.int .i64 c) := ⟨L1.2.1 0, L1.2.1 1, L1.2.1 2⟩
  go_upto_region 2 with (fail)
  refine gen_world (fun wx => Live wx (w.heap.size) (mach f x t) ∧ Live wx (w.heap.size + 2) #[.int .i64 0, .int .i64 0, .int .i64 0, .int .i64 0] ∧ Live wx (w.heap.size + 3) #[.int .i64 a, .int .i64 b, .int .i64 c, .int .i64 e] ∧ Below w.heap.size w wx) ?_ ?_
  · refine ⟨live_alloc L _, live_alloc L2 _, live_new _ _ z0, ?_⟩
    have := hb.size
    exact hb.alloc (by omega) _
  clear q0 q1 q2 L L1 L2 z0 hb
  rintro wx ⟨L, L2, L3, hb⟩
  have PZ := L2.1
  have PW := L3.1
  obtain ⟨r0, r1, r2, r3⟩ := live_four L3
  go_wp2_with fail
  clear r0 r1 r2 r3
  refine wp_loop_rounds 5 ?_
  rw [rounds_succ]
  go_wp2_with (first | ((with_reducible refine wpList_load_in (ty := 26) (w.heap.size) 0 (mach f x t) ?_ ?_ Try.underlying26 ?_ ?_ ?_); (· rfl); (· exact live_rangeAll L); (· rfl); (· kernel_rfl)) | (go_at_call 33; ((with_reducible refine (kin_steps f x t 0 a _).mono ?_); rw [HV0.out, HE0.out]; rintro e w1 ⟨rfl, hb1⟩; have z1 := hb1.size; have LM := live_below hb1 L; have LZ := live_below hb1 L2; have LO := live_below hb1 L3; clear L L2 L3; obtain ⟨o0, o1, o2, o3⟩ := live_four LO; obtain ⟨y0, y1, y2, y3⟩ := live_four LZ; have fo := LO.2.2; have fz := LZ.2.2; have hb := hb.trans (hb1.mono hb.size); clear hb1)))
  refine bodyPost_ret (v := .tuple #[.agg #[.int .i64 0, .int .i64 0, .int .i64 0, .int .i64 0], .int .i64 1]) (by simp [results, Try.results17, go_sem, y0, y1, y2, y3]) rfl ⟨rfl, ?_⟩
  (repeat' (first | with_reducible exact Below.refl _ _ | with_reducible refine Below.drew ?_ | with_reducible refine below_drewN ?_ _ | with_reducible refine Below.alloc ?_ ?_ _ | with_reducible refine Below.setCell ?_ ?_ _ | with_reducible refine Below.trans ?_ (Below.mono (by with_reducible assumption) ?_) | (simp; done) | (simp; omega) | omega))

set_option maxRecDepth 100000 in
set_option maxHeartbeats 4000000 in
theorem kin_motors_no1 (f : Nat → Int) (x : Bool) (t a b c e sa sb sc se : Int) (w : World) (HV0 : Hid (stV f t 0 a = sa)) (HE0 : Hid (stE f t 0 a = 0)) (HV1 : Hid (stV f t 1 b = sb)) (HE1 : Hid (stE f t 1 b = 1)) :
    Calls Try.prog 17 #[.agg (mach f x t), .agg #[.int .i64 a, .int .i64 b, .int .i64 c], .int .i64 e] w fun e w' => e = .returned (.tuple #[.agg #[.int .i64 0, .int .i64 0, .int .i64 0, .int .i64 0], .int .i64 1]) ∧ Below w.heap.size w w' := by
  obtain ⟨j0, j1, j2, j3⟩ := arr_idx a b c e
  go_enter Try.func17, Try.ntmps17
  go_upto_region 1 with (fail)
  refine gen_world (fun wx => Live wx (w.heap.size) (mach f x t) ∧ Live wx (w.heap.size + 1) #[.int .i64 a, .int .i64 b, .int .i64 c] ∧ Live wx (w.heap.size + 2) #[.int .i64 0, .int .i64 0, .int .i64 0, .int .i64 0] ∧ wx.heap.size = w.heap.size + 3 ∧ Below w.heap.size w wx) ?_ ?_
  · refine ⟨live_alloc (live_alloc (live_new _ _ rfl) _) _, live_alloc (live_new _ _ (by simp)) _, live_new _ _ (by simp), by simp, ?_⟩
    (repeat' (first | with_reducible exact Below.refl _ _ | with_reducible refine Below.drew ?_ | with_reducible refine below_drewN ?_ _ | with_reducible refine Below.alloc ?_ ?_ _ | with_reducible refine Below.setCell ?_ ?_ _ | with_reducible refine Below.trans ?_ (Below.mono (by with_reducible assumption) ?_) | (simp; done) | (simp; omega) | omega))
  rintro wx ⟨L, L1, L2, z0, hb⟩
  obtain ⟨q0, q1, q2⟩ : wx.cell? ⟨w.heap.size + 1, 0, none⟩ = some (.int .i64 a) ∧ wx.cell? ⟨w.heap.size + 1, 1, none⟩ = some (.int .i64 b) ∧ wx.cell? ⟨w.heap.size + 1, 2, none⟩ = some (.int .i64 c) := ⟨L1.2.1 0, L1.2.1 1, L1.2.1 2⟩
  go_upto_region 2 with (fail)
  refine gen_world (fun wx => Live wx (w.heap.size) (mach f x t) ∧ Live wx (w.heap.size + 2) #[.int .i64 0, .int .i64 0, .int .i64 0, .int .i64 0] ∧ Live wx (w.heap.size + 3) #[.int .i64 a, .int .i64 b, .int .i64 c, .int .i64 e] ∧ Below w.heap.size w wx) ?_ ?_
  · refine ⟨live_alloc L _, live_alloc L2 _, live_new _ _ z0, ?_⟩
    have := hb.size
    exact hb.alloc (by omega) _
  clear q0 q1 q2 L L1 L2 z0 hb
  rintro wx ⟨L, L2, L3, hb⟩
  have PZ := L2.1
  have PW := L3.1
  obtain ⟨r0, r1, r2, r3⟩ := live_four L3
  go_wp2_with fail
  clear r0 r1 r2 r3
  refine wp_loop_rounds 5 ?_
  rw [rounds_succ]
  go_wp2_with (first | ((with_reducible refine wpList_load_in (ty := 26) (w.heap.size) 0 (mach f x t) ?_ ?_ Try.underlying26 ?_ ?_ ?_); (· rfl); (· exact live_rangeAll L); (· rfl); (· kernel_rfl)) | (go_at_call 33; ((with_reducible refine (kin_steps f x t 0 a _).mono ?_); rw [HV0.out, HE0.out]; rintro e w1 ⟨rfl, hb1⟩; have z1 := hb1.size; have LM := live_below hb1 L; have LZ := live_below hb1 L2; have LO := live_below hb1 L3; clear L L2 L3; obtain ⟨o0, o1, o2, o3⟩ := live_four LO; obtain ⟨y0, y1, y2, y3⟩ := live_four LZ; have fo := LO.2.2; have fz := LZ.2.2; have hb := hb.trans (hb1.mono hb.size); clear hb1)))
  refine gen_world (fun wx => Live wx (w.heap.size) (mach f x t) ∧ Live wx (w.heap.size + 2) #[.int .i64 0, .int .i64 0, .int .i64 0, .int .i64 0] ∧ Live wx (w.heap.size + 3) #[.int .i64 sa, .int .i64 b, .int .i64 c, .int .i64 e] ∧ Below w.heap.size w wx) ?_ ?_
  · refine ⟨live_set_other LM _ _ _ (by omega), live_set_other LZ _ _ _ (by omega), live_conv (live_set_same LO 0 _ (by simp)) (by simp), hb.setCell (show w.heap.size ≤ w.heap.size + 3 by omega) _⟩
  clear LM LZ LO o0 o1 o2 o3 y0 y1 y2 y3 fo fz hb z1
  rintro wx ⟨L, L2, L3, hb⟩
  rw [rounds_succ]
  go_wp2_with (first | ((with_reducible refine wpList_load_in (ty := 26) (w.heap.size) 0 (mach f x t) ?_ ?_ Try.underlying26 ?_ ?_ ?_); (· rfl); (· exact live_rangeAll L); (· rfl); (· kernel_rfl)) | (go_at_call 33; ((with_reducible refine (kin_steps f x t 1 b _).mono ?_); rw [HV1.out, HE1.out]; rintro e w1 ⟨rfl, hb1⟩; have z1 := hb1.size; have LM := live_below hb1 L; have LZ := live_below hb1 L2; have LO := live_below hb1 L3; clear L L2 L3; obtain ⟨o0, o1, o2, o3⟩ := live_four LO; obtain ⟨y0, y1, y2, y3⟩ := live_four LZ; have fo := LO.2.2; have fz := LZ.2.2; have hb := hb.trans (hb1.mono hb.size); clear hb1)))
  refine bodyPost_ret (v := .tuple #[.agg #[.int .i64 0, .int .i64 0, .int .i64 0, .int .i64 0], .int .i64 1]) (by simp [results, Try.results17, go_sem, y0, y1, y2, y3]) rfl ⟨rfl, ?_⟩
  (repeat' (first | with_reducible exact Below.refl _ _ | with_reducible refine Below.drew ?_ | with_reducible refine below_drewN ?_ _ | with_reducible refine Below.alloc ?_ ?_ _ | with_reducible refine Below.setCell ?_ ?_ _ | with_reducible refine Below.trans ?_ (Below.mono (by with_reducible assumption) ?_) | (simp; done) | (simp; omega) | omega))

set_option maxRecDepth 100000 in
set_option maxHeartbeats 4000000 in
theorem kin_motors_no2 (f : Nat → Int) (x : Bool) (t a b c e sa sb sc se : Int) (w : World) (HV0 : Hid (stV f t 0 a = sa)) (HE0 : Hid (stE f t 0 a = 0)) (HV1 : Hid (stV f t 1 b = sb)) (HE1 : Hid (stE f t 1 b = 0)) (HV2 : Hid (stV f t 2 c = sc)) (HE2 : Hid (stE f t 2 c = 1)) :
    Calls Try.prog 17 #[.agg (mach f x t), .agg #[.int .i64 a, .int .i64 b, .int .i64 c], .int .i64 e] w fun e w' => e = .returned (.tuple #[.agg #[.int .i64 0, .int .i64 0, .int .i64 0, .int .i64 0], .int .i64 1]) ∧ Below w.heap.size w w' := by
  obtain ⟨j0, j1, j2, j3⟩ := arr_idx a b c e
  go_enter Try.func17, Try.ntmps17
  go_upto_region 1 with (fail)
  refine gen_world (fun wx => Live wx (w.heap.size) (mach f x t) ∧ Live wx (w.heap.size + 1) #[.int .i64 a, .int .i64 b, .int .i64 c] ∧ Live wx (w.heap.size + 2) #[.int .i64 0, .int .i64 0, .int .i64 0, .int .i64 0] ∧ wx.heap.size = w.heap.size + 3 ∧ Below w.heap.size w wx) ?_ ?_
  · refine ⟨live_alloc (live_alloc (live_new _ _ rfl) _) _, live_alloc (live_new _ _ (by simp)) _, live_new _ _ (by simp), by simp, ?_⟩
    (repeat' (first | with_reducible exact Below.refl _ _ | with_reducible refine Below.drew ?_ | with_reducible refine below_drewN ?_ _ | with_reducible refine Below.alloc ?_ ?_ _ | with_reducible refine Below.setCell ?_ ?_ _ | with_reducible refine Below.trans ?_ (Below.mono (by with_reducible assumption) ?_) | (simp; done) | (simp; omega) | omega))
  rintro wx ⟨L, L1, L2, z0, hb⟩
  obtain ⟨q0, q1, q2⟩ : wx.cell? ⟨w.heap.size + 1, 0, none⟩ = some (.int .i64 a) ∧ wx.cell? ⟨w.heap.size + 1, 1, none⟩ = some (.int .i64 b) ∧ wx.cell? ⟨w.heap.size + 1, 2, none⟩ = some (.int .i64 c) := ⟨L1.2.1 0, L1.2.1 1, L1.2.1 2⟩
  go_upto_region 2 with (fail)
  refine gen_world (fun wx => Live wx (w.heap.size) (mach f x t) ∧ Live wx (w.heap.size + 2) #[.int .i64 0, .int .i64 0, .int .i64 0, .int .i64 0] ∧ Live wx (w.heap.size + 3) #[.int .i64 a, .int .i64 b, .int .i64 c, .int .i64 e] ∧ Below w.heap.size w wx) ?_ ?_
  · refine ⟨live_alloc L _, live_alloc L2 _, live_new _ _ z0, ?_⟩
    have := hb.size
    exact hb.alloc (by omega) _
  clear q0 q1 q2 L L1 L2 z0 hb
  rintro wx ⟨L, L2, L3, hb⟩
  have PZ := L2.1
  have PW := L3.1
  obtain ⟨r0, r1, r2, r3⟩ := live_four L3
  go_wp2_with fail
  clear r0 r1 r2 r3
  refine wp_loop_rounds 5 ?_
  rw [rounds_succ]
  go_wp2_with (first | ((with_reducible refine wpList_load_in (ty := 26) (w.heap.size) 0 (mach f x t) ?_ ?_ Try.underlying26 ?_ ?_ ?_); (· rfl); (· exact live_rangeAll L); (· rfl); (· kernel_rfl)) | (go_at_call 33; ((with_reducible refine (kin_steps f x t 0 a _).mono ?_); rw [HV0.out, HE0.out]; rintro e w1 ⟨rfl, hb1⟩; have z1 := hb1.size; have LM := live_below hb1 L; have LZ := live_below hb1 L2; have LO := live_below hb1 L3; clear L L2 L3; obtain ⟨o0, o1, o2, o3⟩ := live_four LO; obtain ⟨y0, y1, y2, y3⟩ := live_four LZ; have fo := LO.2.2; have fz := LZ.2.2; have hb := hb.trans (hb1.mono hb.size); clear hb1)))
  refine gen_world (fun wx => Live wx (w.heap.size) (mach f x t) ∧ Live wx (w.heap.size + 2) #[.int .i64 0, .int .i64 0, .int .i64 0, .int .i64 0] ∧ Live wx (w.heap.size + 3) #[.int .i64 sa, .int .i64 b, .int .i64 c, .int .i64 e] ∧ Below w.heap.size w wx) ?_ ?_
  · refine ⟨live_set_other LM _ _ _ (by omega), live_set_other LZ _ _ _ (by omega), live_conv (live_set_same LO 0 _ (by simp)) (by simp), hb.setCell (show w.heap.size ≤ w.heap.size + 3 by omega) _⟩
  clear LM LZ LO o0 o1 o2 o3 y0 y1 y2 y3 fo fz hb z1
  rintro wx ⟨L, L2, L3, hb⟩
  rw [rounds_succ]
  go_wp2_with (first | ((with_reducible refine wpList_load_in (ty := 26) (w.heap.size) 0 (mach f x t) ?_ ?_ Try.underlying26 ?_ ?_ ?_); (· rfl); (· exact live_rangeAll L); (· rfl); (· kernel_rfl)) | (go_at_call 33; ((with_reducible refine (kin_steps f x t 1 b _).mono ?_); rw [HV1.out, HE1.out]; rintro e w1 ⟨rfl, hb1⟩; have z1 := hb1.size; have LM := live_below hb1 L; have LZ := live_below hb1 L2; have LO := live_below hb1 L3; clear L L2 L3; obtain ⟨o0, o1, o2, o3⟩ := live_four LO; obtain ⟨y0, y1, y2, y3⟩ := live_four LZ; have fo := LO.2.2; have fz := LZ.2.2; have hb := hb.trans (hb1.mono hb.size); clear hb1)))
  refine gen_world (fun wx => Live wx (w.heap.size) (mach f x t) ∧ Live wx (w.heap.size + 2) #[.int .i64 0, .int .i64 0, .int .i64 0, .int .i64 0] ∧ Live wx (w.heap.size + 3) #[.int .i64 sa, .int .i64 sb, .int .i64 c, .int .i64 e] ∧ Below w.heap.size w wx) ?_ ?_
  · refine ⟨live_set_other LM _ _ _ (by omega), live_set_other LZ _ _ _ (by omega), live_conv (live_set_same LO 1 _ (by simp)) (by simp), hb.setCell (show w.heap.size ≤ w.heap.size + 3 by omega) _⟩
  clear LM LZ LO o0 o1 o2 o3 y0 y1 y2 y3 fo fz hb z1
  rintro wx ⟨L, L2, L3, hb⟩
  rw [rounds_succ]
  go_wp2_with (first | ((with_reducible refine wpList_load_in (ty := 26) (w.heap.size) 0 (mach f x t) ?_ ?_ Try.underlying26 ?_ ?_ ?_); (· rfl); (· exact live_rangeAll L); (· rfl); (· kernel_rfl)) | (go_at_call 33; ((with_reducible refine (kin_steps f x t 2 c _).mono ?_); rw [HV2.out, HE2.out]; rintro e w1 ⟨rfl, hb1⟩; have z1 := hb1.size; have LM := live_below hb1 L; have LZ := live_below hb1 L2; have LO := live_below hb1 L3; clear L L2 L3; obtain ⟨o0, o1, o2, o3⟩ := live_four LO; obtain ⟨y0, y1, y2, y3⟩ := live_four LZ; have fo := LO.2.2; have fz := LZ.2.2; have hb := hb.trans (hb1.mono hb.size); clear hb1)))
  refine bodyPost_ret (v := .tuple #[.agg #[.int .i64 0, .int .i64 0, .int .i64 0, .int .i64 0], .int .i64 1]) (by simp [results, Try.results17, go_sem, y0, y1, y2, y3]) rfl ⟨rfl, ?_⟩
  (repeat' (first | with_reducible exact Below.refl _ _ | with_reducible refine Below.drew ?_ | with_reducible refine below_drewN ?_ _ | with_reducible refine Below.alloc ?_ ?_ _ | with_reducible refine Below.setCell ?_ ?_ _ | with_reducible refine Below.trans ?_ (Below.mono (by with_reducible assumption) ?_) | (simp; done) | (simp; omega) | omega))

set_option maxRecDepth 100000 in
set_option maxHeartbeats 4000000 in
theorem kin_motors_no3 (f : Nat → Int) (x : Bool) (t a b c e sa sb sc se : Int) (w : World) (HV0 : Hid (stV f t 0 a = sa)) (HE0 : Hid (stE f t 0 a = 0)) (HV1 : Hid (stV f t 1 b = sb)) (HE1 : Hid (stE f t 1 b = 0)) (HV2 : Hid (stV f t 2 c = sc)) (HE2 : Hid (stE f t 2 c = 0)) (HV3 : Hid (stV f t 3 e = se)) (HE3 : Hid (stE f t 3 e = 1)) :
    Calls Try.prog 17 #[.agg (mach f x t), .agg #[.int .i64 a, .int .i64 b, .int .i64 c], .int .i64 e] w fun e w' => e = .returned (.tuple #[.agg #[.int .i64 0, .int .i64 0, .int .i64 0, .int .i64 0], .int .i64 1]) ∧ Below w.heap.size w w' := by
  obtain ⟨j0, j1, j2, j3⟩ := arr_idx a b c e
  go_enter Try.func17, Try.ntmps17
  go_upto_region 1 with (fail)
  refine gen_world (fun wx => Live wx (w.heap.size) (mach f x t) ∧ Live wx (w.heap.size + 1) #[.int .i64 a, .int .i64 b, .int .i64 c] ∧ Live wx (w.heap.size + 2) #[.int .i64 0, .int .i64 0, .int .i64 0, .int .i64 0] ∧ wx.heap.size = w.heap.size + 3 ∧ Below w.heap.size w wx) ?_ ?_
  · refine ⟨live_alloc (live_alloc (live_new _ _ rfl) _) _, live_alloc (live_new _ _ (by simp)) _, live_new _ _ (by simp), by simp, ?_⟩
    (repeat' (first | with_reducible exact Below.refl _ _ | with_reducible refine Below.drew ?_ | with_reducible refine below_drewN ?_ _ | with_reducible refine Below.alloc ?_ ?_ _ | with_reducible refine Below.setCell ?_ ?_ _ | with_reducible refine Below.trans ?_ (Below.mono (by with_reducible assumption) ?_) | (simp; done) | (simp; omega) | omega))
  rintro wx ⟨L, L1, L2, z0, hb⟩
  obtain ⟨q0, q1, q2⟩ : wx.cell? ⟨w.heap.size + 1, 0, none⟩ = some (.int .i64 a) ∧ wx.cell? ⟨w.heap.size + 1, 1, none⟩ = some (.int .i64 b) ∧ wx.cell? ⟨w.heap.size + 1, 2, none⟩ = some (.int .i64 c) := ⟨L1.2.1 0, L1.2.1 1, L1.2.1 2⟩
  go_upto_region 2 with (fail)
  refine gen_world (fun wx => Live wx (w.heap.size) (mach f x t) ∧ Live wx (w.heap.size + 2) #[.int .i64 0, .int .i64 0, .int .i64 0, .int .i64 0] ∧ Live wx (w.heap.size + 3) #[.int .i64 a, .int .i64 b, .int .i64 c, .int .i64 e] ∧ Below w.heap.size w wx) ?_ ?_
  · refine ⟨live_alloc L _, live_alloc L2 _, live_new _ _ z0, ?_⟩
    have := hb.size
    exact hb.alloc (by omega) _
  clear q0 q1 q2 L L1 L2 z0 hb
  rintro wx ⟨L, L2, L3, hb⟩
  have PZ := L2.1
  have PW := L3.1
  obtain ⟨r0, r1, r2, r3⟩ := live_four L3
  go_wp2_with fail
  clear r0 r1 r2 r3
  refine wp_loop_rounds 5 ?_
  rw [rounds_succ]
  go_wp2_with (first | ((with_reducible refine wpList_load_in (ty := 26) (w.heap.size) 0 (mach f x t) ?_ ?_ Try.underlying26 ?_ ?_ ?_); (· rfl); (· exact live_rangeAll L); (· rfl); (· kernel_rfl)) | (go_at_call 33; ((with_reducible refine (kin_steps f x t 0 a _).mono ?_); rw [HV0.out, HE0.out]; rintro e w1 ⟨rfl, hb1⟩; have z1 := hb1.size; have LM := live_below hb1 L; have LZ := live_below hb1 L2; have LO := live_below hb1 L3; clear L L2 L3; obtain ⟨o0, o1, o2, o3⟩ := live_four LO; obtain ⟨y0, y1, y2, y3⟩ := live_four LZ; have fo := LO.2.2; have fz := LZ.2.2; have hb := hb.trans (hb1.mono hb.size); clear hb1)))
  refine gen_world (fun wx => Live wx (w.heap.size) (mach f x t) ∧ Live wx (w.heap.size + 2) #[.int .i64 0, .int .i64 0, .int .i64 0, .int .i64 0] ∧ Live wx (w.heap.size + 3) #[.int .i64 sa, .int .i64 b, .int .i64 c, .int .i64 e] ∧ Below w.heap.size w wx) ?_ ?_
  · refine ⟨live_set_other LM _ _ _ (by omega), live_set_other LZ _ _ _ (by omega), live_conv (live_set_same LO 0 _ (by simp)) (by simp), hb.setCell (show w.heap.size ≤ w.heap.size + 3 by omega) _⟩
  clear LM LZ LO o0 o1 o2 o3 y0 y1 y2 y3 fo fz hb z1
  rintro wx ⟨L, L2, L3, hb⟩
  rw [rounds_succ]
  go_wp2_with (first | ((with_reducible refine wpList_load_in (ty := 26) (w.heap.size) 0 (mach f x t) ?_ ?_ Try.underlying26 ?_ ?_ ?_); (· rfl); (· exact live_rangeAll L); (· rfl); (· kernel_rfl)) | (go_at_call 33; ((with_reducible refine (kin_steps f x t 1 b _).mono ?_); rw [HV1.out, HE1.out]; rintro e w1 ⟨rfl, hb1⟩; have z1 := hb1.size; have LM := live_below hb1 L; have LZ := live_below hb1 L2; have LO := live_below hb1 L3; clear L L2 L3; obtain ⟨o0, o1, o2, o3⟩ := live_four LO; obtain ⟨y0, y1, y2, y3⟩ := live_four LZ; have fo := LO.2.2; have fz := LZ.2.2; have hb := hb.trans (hb1.mono hb.size); clear hb1)))
  refine gen_world (fun wx => Live wx (w.heap.size) (mach f x t) ∧ Live wx (w.heap.size + 2) #[.int .i64 0, .int .i64 0, .int .i64 0, .int .i64 0] ∧ Live wx (w.heap.size + 3) #[.int .i64 sa, .int .i64 sb, .int .i64 c, .int .i64 e] ∧ Below w.heap.size w wx) ?_ ?_
  · refine ⟨live_set_other LM _ _ _ (by omega), live_set_other LZ _ _ _ (by omega), live_conv (live_set_same LO 1 _ (by simp)) (by simp), hb.setCell (show w.heap.size ≤ w.heap.size + 3 by omega) _⟩
  clear LM LZ LO o0 o1 o2 o3 y0 y1 y2 y3 fo fz hb z1
  rintro wx ⟨L, L2, L3, hb⟩
  rw [rounds_succ]
  go_wp2_with (first | ((with_reducible refine wpList_load_in (ty := 26) (w.heap.size) 0 (mach f x t) ?_ ?_ Try.underlying26 ?_ ?_ ?_); (· rfl); (· exact live_rangeAll L); (· rfl); (· kernel_rfl)) | (go_at_call 33; ((with_reducible refine (kin_steps f x t 2 c _).mono ?_); rw [HV2.out, HE2.out]; rintro e w1 ⟨rfl, hb1⟩; have z1 := hb1.size; have LM := live_below hb1 L; have LZ := live_below hb1 L2; have LO := live_below hb1 L3; clear L L2 L3; obtain ⟨o0, o1, o2, o3⟩ := live_four LO; obtain ⟨y0, y1, y2, y3⟩ := live_four LZ; have fo := LO.2.2; have fz := LZ.2.2; have hb := hb.trans (hb1.mono hb.size); clear hb1)))
  refine gen_world (fun wx => Live wx (w.heap.size) (mach f x t) ∧ Live wx (w.heap.size + 2) #[.int .i64 0, .int .i64 0, .int .i64 0, .int .i64 0] ∧ Live wx (w.heap.size + 3) #[.int .i64 sa, .int .i64 sb, .int .i64 sc, .int .i64 e] ∧ Below w.heap.size w wx) ?_ ?_
  · refine ⟨live_set_other LM _ _ _ (by omega), live_set_other LZ _ _ _ (by omega), live_conv (live_set_same LO 2 _ (by simp)) (by simp), hb.setCell (show w.heap.size ≤ w.heap.size + 3 by omega) _⟩
  clear LM LZ LO o0 o1 o2 o3 y0 y1 y2 y3 fo fz hb z1
  rintro wx ⟨L, L2, L3, hb⟩
  rw [rounds_succ]
  go_wp2_with (first | ((with_reducible refine wpList_load_in (ty := 26) (w.heap.size) 0 (mach f x t) ?_ ?_ Try.underlying26 ?_ ?_ ?_); (· rfl); (· exact live_rangeAll L); (· rfl); (· kernel_rfl)) | (go_at_call 33; ((with_reducible refine (kin_steps f x t 3 e _).mono ?_); rw [HV3.out, HE3.out]; rintro e w1 ⟨rfl, hb1⟩; have z1 := hb1.size; have LM := live_below hb1 L; have LZ := live_below hb1 L2; have LO := live_below hb1 L3; clear L L2 L3; obtain ⟨o0, o1, o2, o3⟩ := live_four LO; obtain ⟨y0, y1, y2, y3⟩ := live_four LZ; have fo := LO.2.2; have fz := LZ.2.2; have hb := hb.trans (hb1.mono hb.size); clear hb1)))
  refine bodyPost_ret (v := .tuple #[.agg #[.int .i64 0, .int .i64 0, .int .i64 0, .int .i64 0], .int .i64 1]) (by simp [results, Try.results17, go_sem, y0, y1, y2, y3]) rfl ⟨rfl, ?_⟩
  (repeat' (first | with_reducible exact Below.refl _ _ | with_reducible refine Below.drew ?_ | with_reducible refine below_drewN ?_ _ | with_reducible refine Below.alloc ?_ ?_ _ | with_reducible refine Below.setCell ?_ ?_ _ | with_reducible refine Below.trans ?_ (Below.mono (by with_reducible assumption) ?_) | (simp; done) | (simp; omega) | omega))

set_option maxRecDepth 100000 in
set_option maxHeartbeats 4000000 in
theorem kin_motors_yes (f : Nat → Int) (x : Bool) (t a b c e sa sb sc se : Int) (w : World) (HV0 : Hid (stV f t 0 a = sa)) (HE0 : Hid (stE f t 0 a = 0)) (HV1 : Hid (stV f t 1 b = sb)) (HE1 : Hid (stE f t 1 b = 0)) (HV2 : Hid (stV f t 2 c = sc)) (HE2 : Hid (stE f t 2 c = 0)) (HV3 : Hid (stV f t 3 e = se)) (HE3 : Hid (stE f t 3 e = 0)) (ba : -70368744177664 ≤ sa ∧ sa ≤ 70368744177664) (bb : -70368744177664 ≤ sb ∧ sb ≤ 70368744177664) :
    Calls Try.prog 17 #[.agg (mach f x t), .agg #[.int .i64 a, .int .i64 b, .int .i64 c], .int .i64 e] w fun e w' => e = .returned (.tuple #[.agg #[.int .i64 (if x then sa + sb else sa), .int .i64 (if x then sa - sb else sb), .int .i64 sc, .int .i64 se], .int .i64 0]) ∧ Below w.heap.size w w' := by
  obtain ⟨ba0, ba1⟩ := ba
  obtain ⟨bb0, bb1⟩ := bb
  obtain ⟨j0, j1, j2, j3⟩ := arr_idx a b c e
  go_enter Try.func17, Try.ntmps17
  go_upto_region 1 with (fail)
  refine gen_world (fun wx => Live wx (w.heap.size) (mach f x t) ∧ Live wx (w.heap.size + 1) #[.int .i64 a, .int .i64 b, .int .i64 c] ∧ Live wx (w.heap.size + 2) #[.int .i64 0, .int .i64 0, .int .i64 0, .int .i64 0] ∧ wx.heap.size = w.heap.size + 3 ∧ Below w.heap.size w wx) ?_ ?_
  · refine ⟨live_alloc (live_alloc (live_new _ _ rfl) _) _, live_alloc (live_new _ _ (by simp)) _, live_new _ _ (by simp), by simp, ?_⟩
    (repeat' (first | with_reducible exact Below.refl _ _ | with_reducible refine Below.drew ?_ | with_reducible refine below_drewN ?_ _ | with_reducible refine Below.alloc ?_ ?_ _ | with_reducible refine Below.setCell ?_ ?_ _ | with_reducible refine Below.trans ?_ (Below.mono (by with_reducible assumption) ?_) | (simp; done) | (simp; omega) | omega))
  rintro wx ⟨L, L1, L2, z0, hb⟩
  obtain ⟨q0, q1, q2⟩ : wx.cell? ⟨w.heap.size + 1, 0, none⟩ = some (.int .i64 a) ∧ wx.cell? ⟨w.heap.size + 1, 1, none⟩ = some (.int .i64 b) ∧ wx.cell? ⟨w.heap.size + 1, 2, none⟩ = some (.int .i64 c) := ⟨L1.2.1 0, L1.2.1 1, L1.2.1 2⟩
  go_upto_region 2 with (fail)
  refine gen_world (fun wx => Live wx (w.heap.size) (mach f x t) ∧ Live wx (w.heap.size + 2) #[.int .i64 0, .int .i64 0, .int .i64 0, .int .i64 0] ∧ Live wx (w.heap.size + 3) #[.int .i64 a, .int .i64 b, .int .i64 c, .int .i64 e] ∧ Below w.heap.size w wx) ?_ ?_
  · refine ⟨live_alloc L _, live_alloc L2 _, live_new _ _ z0, ?_⟩
    have := hb.size
    exact hb.alloc (by omega) _
  clear q0 q1 q2 L L1 L2 z0 hb
  rintro wx ⟨L, L2, L3, hb⟩
  have PZ := L2.1
  have PW := L3.1
  obtain ⟨r0, r1, r2, r3⟩ := live_four L3
  go_wp2_with fail
  clear r0 r1 r2 r3
  refine wp_loop_rounds 5 ?_
  rw [rounds_succ]
  go_wp2_with (first | ((with_reducible refine wpList_load_in (ty := 26) (w.heap.size) 0 (mach f x t) ?_ ?_ Try.underlying26 ?_ ?_ ?_); (· rfl); (· exact live_rangeAll L); (· rfl); (· kernel_rfl)) | (go_at_call 33; ((with_reducible refine (kin_steps f x t 0 a _).mono ?_); rw [HV0.out, HE0.out]; rintro e w1 ⟨rfl, hb1⟩; have z1 := hb1.size; have LM := live_below hb1 L; have LZ := live_below hb1 L2; have LO := live_below hb1 L3; clear L L2 L3; obtain ⟨o0, o1, o2, o3⟩ := live_four LO; obtain ⟨y0, y1, y2, y3⟩ := live_four LZ; have fo := LO.2.2; have fz := LZ.2.2; have hb := hb.trans (hb1.mono hb.size); clear hb1)))
  refine gen_world (fun wx => Live wx (w.heap.size) (mach f x t) ∧ Live wx (w.heap.size + 2) #[.int .i64 0, .int .i64 0, .int .i64 0, .int .i64 0] ∧ Live wx (w.heap.size + 3) #[.int .i64 sa, .int .i64 b, .int .i64 c, .int .i64 e] ∧ Below w.heap.size w wx) ?_ ?_
  · refine ⟨live_set_other LM _ _ _ (by omega), live_set_other LZ _ _ _ (by omega), live_conv (live_set_same LO 0 _ (by simp)) (by simp), hb.setCell (show w.heap.size ≤ w.heap.size + 3 by omega) _⟩
  clear LM LZ LO o0 o1 o2 o3 y0 y1 y2 y3 fo fz hb z1
  rintro wx ⟨L, L2, L3, hb⟩
  rw [rounds_succ]
  go_wp2_with (first | ((with_reducible refine wpList_load_in (ty := 26) (w.heap.size) 0 (mach f x t) ?_ ?_ Try.underlying26 ?_ ?_ ?_); (· rfl); (· exact live_rangeAll L); (· rfl); (· kernel_rfl)) | (go_at_call 33; ((with_reducible refine (kin_steps f x t 1 b _).mono ?_); rw [HV1.out, HE1.out]; rintro e w1 ⟨rfl, hb1⟩; have z1 := hb1.size; have LM := live_below hb1 L; have LZ := live_below hb1 L2; have LO := live_below hb1 L3; clear L L2 L3; obtain ⟨o0, o1, o2, o3⟩ := live_four LO; obtain ⟨y0, y1, y2, y3⟩ := live_four LZ; have fo := LO.2.2; have fz := LZ.2.2; have hb := hb.trans (hb1.mono hb.size); clear hb1)))
  refine gen_world (fun wx => Live wx (w.heap.size) (mach f x t) ∧ Live wx (w.heap.size + 2) #[.int .i64 0, .int .i64 0, .int .i64 0, .int .i64 0] ∧ Live wx (w.heap.size + 3) #[.int .i64 sa, .int .i64 sb, .int .i64 c, .int .i64 e] ∧ Below w.heap.size w wx) ?_ ?_
  · refine ⟨live_set_other LM _ _ _ (by omega), live_set_other LZ _ _ _ (by omega), live_conv (live_set_same LO 1 _ (by simp)) (by simp), hb.setCell (show w.heap.size ≤ w.heap.size + 3 by omega) _⟩
  clear LM LZ LO o0 o1 o2 o3 y0 y1 y2 y3 fo fz hb z1
  rintro wx ⟨L, L2, L3, hb⟩
  rw [rounds_succ]
  go_wp2_with (first | ((with_reducible refine wpList_load_in (ty := 26) (w.heap.size) 0 (mach f x t) ?_ ?_ Try.underlying26 ?_ ?_ ?_); (· rfl); (· exact live_rangeAll L); (· rfl); (· kernel_rfl)) | (go_at_call 33; ((with_reducible refine (kin_steps f x t 2 c _).mono ?_); rw [HV2.out, HE2.out]; rintro e w1 ⟨rfl, hb1⟩; have z1 := hb1.size; have LM := live_below hb1 L; have LZ := live_below hb1 L2; have LO := live_below hb1 L3; clear L L2 L3; obtain ⟨o0, o1, o2, o3⟩ := live_four LO; obtain ⟨y0, y1, y2, y3⟩ := live_four LZ; have fo := LO.2.2; have fz := LZ.2.2; have hb := hb.trans (hb1.mono hb.size); clear hb1)))
  refine gen_world (fun wx => Live wx (w.heap.size) (mach f x t) ∧ Live wx (w.heap.size + 2) #[.int .i64 0, .int .i64 0, .int .i64 0, .int .i64 0] ∧ Live wx (w.heap.size + 3) #[.int .i64 sa, .int .i64 sb, .int .i64 sc, .int .i64 e] ∧ Below w.heap.size w wx) ?_ ?_
  · refine ⟨live_set_other LM _ _ _ (by omega), live_set_other LZ _ _ _ (by omega), live_conv (live_set_same LO 2 _ (by simp)) (by simp), hb.setCell (show w.heap.size ≤ w.heap.size + 3 by omega) _⟩
  clear LM LZ LO o0 o1 o2 o3 y0 y1 y2 y3 fo fz hb z1
  rintro wx ⟨L, L2, L3, hb⟩
  rw [rounds_succ]
  go_wp2_with (first | ((with_reducible refine wpList_load_in (ty := 26) (w.heap.size) 0 (mach f x t) ?_ ?_ Try.underlying26 ?_ ?_ ?_); (· rfl); (· exact live_rangeAll L); (· rfl); (· kernel_rfl)) | (go_at_call 33; ((with_reducible refine (kin_steps f x t 3 e _).mono ?_); rw [HV3.out, HE3.out]; rintro e w1 ⟨rfl, hb1⟩; have z1 := hb1.size; have LM := live_below hb1 L; have LZ := live_below hb1 L2; have LO := live_below hb1 L3; clear L L2 L3; obtain ⟨o0, o1, o2, o3⟩ := live_four LO; obtain ⟨y0, y1, y2, y3⟩ := live_four LZ; have fo := LO.2.2; have fz := LZ.2.2; have hb := hb.trans (hb1.mono hb.size); clear hb1)))
  refine gen_world (fun wx => Live wx (w.heap.size) (mach f x t) ∧ Live wx (w.heap.size + 2) #[.int .i64 0, .int .i64 0, .int .i64 0, .int .i64 0] ∧ Live wx (w.heap.size + 3) #[.int .i64 sa, .int .i64 sb, .int .i64 sc, .int .i64 se] ∧ Below w.heap.size w wx) ?_ ?_
  · refine ⟨live_set_other LM _ _ _ (by omega), live_set_other LZ _ _ _ (by omega), live_conv (live_set_same LO 3 _ (by simp)) (by simp), hb.setCell (show w.heap.size ≤ w.heap.size + 3 by omega) _⟩
  clear LM LZ LO o0 o1 o2 o3 y0 y1 y2 y3 fo fz hb z1
  rintro wx ⟨L, L2, L3, hb⟩
  rw [rounds_succ]
  have c28 := L.2.1 28
  rw [mach_28] at c28
  obtain ⟨o0, o1, o2, o3⟩ := live_four L3
  have fo := L3.2.2
  have fz := L2.2.2
  obtain ⟨y0, y1, y2, y3⟩ := live_four L2
  have PZ := L2.1
  have PW := L3.1
  clear L L2 L3
  cases x
  all_goals
    go_wp2_with fail
  · refine bodyPost_ret (v := .tuple #[.agg #[.int .i64 sa, .int .i64 sb, .int .i64 sc, .int .i64 se], .int .i64 0]) (by simp [results, Try.results17, go_sem, y0, y1, y2, y3]) rfl ⟨rfl, ?_⟩
    (repeat' (first | with_reducible exact Below.refl _ _ | with_reducible refine Below.drew ?_ | with_reducible refine below_drewN ?_ _ | with_reducible refine Below.alloc ?_ ?_ _ | with_reducible refine Below.setCell ?_ ?_ _ | with_reducible refine Below.trans ?_ (Below.mono (by with_reducible assumption) ?_) | (simp; done) | (simp; omega) | omega))
  · refine bodyPost_ret (v := .tuple #[.agg #[.int .i64 (sa + sb), .int .i64 (sa - sb), .int .i64 sc, .int .i64 se], .int .i64 0]) (by simp [results, Try.results17, go_sem, y0, y1, y2, y3]) rfl ⟨rfl, ?_⟩
    (repeat' (first | with_reducible exact Below.refl _ _ | with_reducible refine Below.drew ?_ | with_reducible refine below_drewN ?_ _ | with_reducible refine Below.alloc ?_ ?_ _ | with_reducible refine Below.setCell ?_ ?_ _ | with_reducible refine Below.trans ?_ (Below.mono (by with_reducible assumption) ?_) | (simp; done) | (simp; omega) | omega))

theorem kin_motors (f : Nat → Int) (x : Bool) (t a b c e : Int) (w : World) :
    Calls Try.prog 17 #[.agg (mach f x t), .agg #[.int .i64 a, .int .i64 b, .int .i64 c], .int .i64 e] w fun y w' => y = .returned (.tuple #[.agg #[.int .i64 (moV f x t a b c e 0), .int .i64 (moV f x t a b c e 1), .int .i64 (moV f x t a b c e 2), .int .i64 (moV f x t a b c e 3)], .int .i64 (moE f t a b c e)]) ∧ Below w.heap.size w w' := by
  have e1 : ∀ k p, stOk f t k p = true → stE f t k p = 0 := fun k p h => by unfold stE; rw [h]; rfl
  have e0 : ∀ k p, stOk f t k p = false → stE f t k p = 1 := fun k p h => by unfold stE; rw [h]; rfl
  unfold moV moE moOk
  cases h0 : stOk f t 0 a
  · exact kin_motors_no0 f x t a b c e _ 0 0 0 w (Lib.hid rfl) (Lib.hid (e0 _ _ h0))
  cases h1 : stOk f t 1 b
  · exact kin_motors_no1 f x t a b c e _ _ 0 0 w (Lib.hid rfl) (Lib.hid (e1 _ _ h0)) (Lib.hid rfl) (Lib.hid (e0 _ _ h1))
  cases h2 : stOk f t 2 c
  · exact kin_motors_no2 f x t a b c e _ _ _ 0 w (Lib.hid rfl) (Lib.hid (e1 _ _ h0)) (Lib.hid rfl) (Lib.hid (e1 _ _ h1)) (Lib.hid rfl) (Lib.hid (e0 _ _ h2))
  cases h3 : stOk f t 3 e
  · exact kin_motors_no3 f x t a b c e _ _ _ _ w (Lib.hid rfl) (Lib.hid (e1 _ _ h0)) (Lib.hid rfl) (Lib.hid (e1 _ _ h1)) (Lib.hid rfl) (Lib.hid (e1 _ _ h2)) (Lib.hid rfl) (Lib.hid (e0 _ _ h3))
  · exact kin_motors_yes f x t a b c e _ _ _ _ w (Lib.hid rfl) (Lib.hid (e1 _ _ h0)) (Lib.hid rfl) (Lib.hid (e1 _ _ h1)) (Lib.hid rfl) (Lib.hid (e1 _ _ h2)) (Lib.hid rfl) (Lib.hid (e1 _ _ h3)) (stV_in _ _ _ _) (stV_in _ _ _ _)
end Go.Proofs.Ytkiadcgdmeebmaa
