/- What Motors of the reference returns, for all machines, positions and numbers -/
import Derived.Deep.QuietTactic
import Derived.BigQuiet
import Derived.Test.YthodfmmmddfkmaaKinMotors
namespace Go.Proofs.Ythodfmmmddfkmaa
open Go.RowKit
set_option linter.unusedVariables false

attribute [local go_sem] cell_past1 cell_past2 cell_past3 cell_past4 froz_past1 froz_past2 froz_past3
attribute [local go_sem ↓] loadM_in

set_option maxRecDepth 100000 in
set_option maxHeartbeats 4000000 in
theorem ref41_motors_no0 (f : Nat → Int) (x : Bool) (t a b c e sa sb sc se : Int) (w : World) (HV0 : Hid (stV f t 0 a = sa)) (HE0 : Hid (stE f t 0 a = 1)) :
    Calls Try.prog 24 #[.agg (mach f x t), .agg #[.int .i64 a, .int .i64 b, .int .i64 c], .int .i64 e] w fun e w' => e = .returned (.tuple #[.agg #[.int .i64 0, .int .i64 0, .int .i64 0, .int .i64 0], .int .i64 1]) ∧ Below w.heap.size w w' := by
  go_enter Try.func24, Try.ntmps24
  go_upto_region 1 with (fail)
  refine gen_world (fun wx => Live wx (w.heap.size) (mach f x t) ∧ Live wx (w.heap.size + 1) #[.int .i64 a, .int .i64 b, .int .i64 c] ∧ Live wx (w.heap.size + 2) #[.int .i64 0, .int .i64 0, .int .i64 0, .int .i64 0] ∧ wx.heap.size = w.heap.size + 3 ∧ Below w.heap.size w wx) ?_ ?_
  · refine ⟨live_alloc (live_alloc (live_new _ _ rfl) _) _, live_alloc (live_new _ _ (by simp)) _, live_new _ _ (by simp), by simp, ?_⟩
    (repeat' (first | with_reducible exact Below.refl _ _ | with_reducible refine Below.drew ?_ | with_reducible refine below_drewN ?_ _ | with_reducible refine Below.alloc ?_ ?_ _ | with_reducible refine Below.setCell ?_ ?_ _ | with_reducible refine Below.trans ?_ (Below.mono (by with_reducible assumption) ?_) | (simp; done) | (simp; omega) | omega))
  rintro wx ⟨L, L1, L2, z0, hb⟩
  obtain ⟨q0, q1, q2⟩ : wx.cell? ⟨w.heap.size + 1, 0, none⟩ = some (.int .i64 a) ∧ wx.cell? ⟨w.heap.size + 1, 1, none⟩ = some (.int .i64 b) ∧ wx.cell? ⟨w.heap.size + 1, 2, none⟩ = some (.int .i64 c) := ⟨L1.2.1 0, L1.2.1 1, L1.2.1 2⟩
  go_upto_region 2 with (fail)
  refine gen_world (fun wx => Live wx (w.heap.size) (mach f x t) ∧ Live wx (w.heap.size + 2) #[.int .i64 0, .int .i64 0, .int .i64 0, .int .i64 0] ∧ Live wx (w.heap.size + 3) #[.int .i64 a, .int .i64 b, .int .i64 c, .int .i64 e] ∧ Below w.heap.size w wx) ?_ ?_
  · refine ⟨live_alloc L _, live_alloc L2 _, live_new _ _ z0, ?_⟩
    have := hb.size
    exact hb.alloc (by omega) _
  clear q0 q1 q2 L L1 L2 z0 hb
  rintro wx ⟨L, L2, L3, hb⟩
  have PZ := L2.1
  have PW := L3.1
  go_wp2_with fail
  refine wp_loop_rounds 5 ?_
  rw [rounds_succ]
  obtain ⟨o0, o1, o2, o3⟩ := live_four L3
  go_upto_region 5 with (fail)
  have HR := live_rangeAll L
  have hld : ∀ w' : World, w'.rangeAt (w.heap.size) 0 (mach f x t).toList → (loadM (.pointer (some ⟨w.heap.size, 0, none⟩))).run Try.prog w' = .ok (.agg (mach f x t)) w' := fun w' h => loadM_run h
  go_region_held3 (fun w' => w'.rangeAt (w.heap.size) 0 (mach f x t).toList ∧ w'.cell? ⟨w.heap.size + 3, 0, none⟩ = some (.int .i64 a)) (first | (focus (exact ⟨HR, o0⟩; done)) | (focus (exact ⟨live_rangeAll LM, o0⟩; done)) | go_keep) ((go_at_call 20; ((with_reducible refine (ref41_steps f x t 0 a _).mono ?_); rw [HV0.out, HE0.out]; rintro e w1 ⟨rfl, hb1⟩; have z1 := hb1.size; have LM := live_below hb1 (live_drew L); have LZ := live_below hb1 (live_drew L2); have LO := live_below hb1 (live_drew L3); obtain ⟨o0, o1, o2, o3⟩ := live_four LO; obtain ⟨y0, y1, y2, y3⟩ := live_four LZ; have fo := LO.2.2; have fz := LZ.2.2; have hb := (hb.drew).trans (hb1.mono hb.size); clear hb1)))
  go_wp2_with fail
  refine bodyPost_ret (v := .tuple #[.agg #[.int .i64 0, .int .i64 0, .int .i64 0, .int .i64 0], .int .i64 1]) (by simp [results, Try.results24, go_sem, y0, y1, y2, y3]) rfl ⟨rfl, ?_⟩
  (repeat' (first | with_reducible exact Below.refl _ _ | with_reducible refine Below.drew ?_ | with_reducible refine below_drewN ?_ _ | with_reducible refine Below.alloc ?_ ?_ _ | with_reducible refine Below.setCell ?_ ?_ _ | with_reducible refine Below.trans ?_ (Below.mono (by with_reducible assumption) ?_) | (simp; done) | (simp; omega) | omega))

set_option maxRecDepth 100000 in
set_option maxHeartbeats 4000000 in
theorem ref41_motors_no1 (f : Nat → Int) (x : Bool) (t a b c e sa sb sc se : Int) (w : World) (HV0 : Hid (stV f t 0 a = sa)) (HE0 : Hid (stE f t 0 a = 0)) (HV1 : Hid (stV f t 1 b = sb)) (HE1 : Hid (stE f t 1 b = 1)) :
    Calls Try.prog 24 #[.agg (mach f x t), .agg #[.int .i64 a, .int .i64 b, .int .i64 c], .int .i64 e] w fun e w' => e = .returned (.tuple #[.agg #[.int .i64 0, .int .i64 0, .int .i64 0, .int .i64 0], .int .i64 1]) ∧ Below w.heap.size w w' := by
  go_enter Try.func24, Try.ntmps24
  go_upto_region 1 with (fail)
  refine gen_world (fun wx => Live wx (w.heap.size) (mach f x t) ∧ Live wx (w.heap.size + 1) #[.int .i64 a, .int .i64 b, .int .i64 c] ∧ Live wx (w.heap.size + 2) #[.int .i64 0, .int .i64 0, .int .i64 0, .int .i64 0] ∧ wx.heap.size = w.heap.size + 3 ∧ Below w.heap.size w wx) ?_ ?_
  · refine ⟨live_alloc (live_alloc (live_new _ _ rfl) _) _, live_alloc (live_new _ _ (by simp)) _, live_new _ _ (by simp), by simp, ?_⟩
    (repeat' (first | with_reducible exact Below.refl _ _ | with_reducible refine Below.drew ?_ | with_reducible refine below_drewN ?_ _ | with_reducible refine Below.alloc ?_ ?_ _ | with_reducible refine Below.setCell ?_ ?_ _ | with_reducible refine Below.trans ?_ (Below.mono (by with_reducible assumption) ?_) | (simp; done) | (simp; omega) | omega))
  rintro wx ⟨L, L1, L2, z0, hb⟩
  obtain ⟨q0, q1, q2⟩ : wx.cell? ⟨w.heap.size + 1, 0, none⟩ = some (.int .i64 a) ∧ wx.cell? ⟨w.heap.size + 1, 1, none⟩ = some (.int .i64 b) ∧ wx.cell? ⟨w.heap.size + 1, 2, none⟩ = some (.int .i64 c) := ⟨L1.2.1 0, L1.2.1 1, L1.2.1 2⟩
  go_upto_region 2 with (fail)
  refine gen_world (fun wx => Live wx (w.heap.size) (mach f x t) ∧ Live wx (w.heap.size + 2) #[.int .i64 0, .int .i64 0, .int .i64 0, .int .i64 0] ∧ Live wx (w.heap.size + 3) #[.int .i64 a, .int .i64 b, .int .i64 c, .int .i64 e] ∧ Below w.heap.size w wx) ?_ ?_
  · refine ⟨live_alloc L _, live_alloc L2 _, live_new _ _ z0, ?_⟩
    have := hb.size
    exact hb.alloc (by omega) _
  clear q0 q1 q2 L L1 L2 z0 hb
  rintro wx ⟨L, L2, L3, hb⟩
  have PZ := L2.1
  have PW := L3.1
  go_wp2_with fail
  refine wp_loop_rounds 5 ?_
  rw [rounds_succ]
  obtain ⟨o0, o1, o2, o3⟩ := live_four L3
  go_upto_region 5 with (fail)
  have HR := live_rangeAll L
  have hld : ∀ w' : World, w'.rangeAt (w.heap.size) 0 (mach f x t).toList → (loadM (.pointer (some ⟨w.heap.size, 0, none⟩))).run Try.prog w' = .ok (.agg (mach f x t)) w' := fun w' h => loadM_run h
  go_region_held3 (fun w' => w'.rangeAt (w.heap.size) 0 (mach f x t).toList ∧ w'.cell? ⟨w.heap.size + 3, 0, none⟩ = some (.int .i64 a)) (first | (focus (exact ⟨HR, o0⟩; done)) | (focus (exact ⟨live_rangeAll LM, o0⟩; done)) | go_keep) ((go_at_call 20; ((with_reducible refine (ref41_steps f x t 0 a _).mono ?_); rw [HV0.out, HE0.out]; rintro e w1 ⟨rfl, hb1⟩; have z1 := hb1.size; have LM := live_below hb1 (live_drew L); have LZ := live_below hb1 (live_drew L2); have LO := live_below hb1 (live_drew L3); obtain ⟨o0, o1, o2, o3⟩ := live_four LO; obtain ⟨y0, y1, y2, y3⟩ := live_four LZ; have fo := LO.2.2; have fz := LZ.2.2; have hb := (hb.drew).trans (hb1.mono hb.size); clear hb1)))
  go_wp2_with fail
  refine gen_world (fun wx => Live wx (w.heap.size) (mach f x t) ∧ Live wx (w.heap.size + 2) #[.int .i64 0, .int .i64 0, .int .i64 0, .int .i64 0] ∧ Live wx (w.heap.size + 3) #[.int .i64 sa, .int .i64 b, .int .i64 c, .int .i64 e] ∧ Below w.heap.size w wx) ?_ ?_
  · refine ⟨live_set_other LM _ _ _ (by omega), live_set_other LZ _ _ _ (by omega), live_conv (live_set_same LO 0 _ (by simp)) (by simp), hb.setCell (show w.heap.size ≤ w.heap.size + 3 by omega) _⟩
  clear LM LZ LO o0 o1 o2 o3 y0 y1 y2 y3 fo fz hb z1
  rintro wx ⟨L, L2, L3, hb⟩
  rw [rounds_succ]
  obtain ⟨o0, o1, o2, o3⟩ := live_four L3
  go_upto_region 5 with (fail)
  have HR := live_rangeAll L
  have hld : ∀ w' : World, w'.rangeAt (w.heap.size) 0 (mach f x t).toList → (loadM (.pointer (some ⟨w.heap.size, 0, none⟩))).run Try.prog w' = .ok (.agg (mach f x t)) w' := fun w' h => loadM_run h
  go_region_held3 (fun w' => w'.rangeAt (w.heap.size) 0 (mach f x t).toList ∧ w'.cell? ⟨w.heap.size + 3, 1, none⟩ = some (.int .i64 b)) (first | (focus (exact ⟨HR, o1⟩; done)) | (focus (exact ⟨live_rangeAll LM, o1⟩; done)) | go_keep) ((go_at_call 20; ((with_reducible refine (ref41_steps f x t 1 b _).mono ?_); rw [HV1.out, HE1.out]; rintro e w1 ⟨rfl, hb1⟩; have z1 := hb1.size; have LM := live_below hb1 (live_drew L); have LZ := live_below hb1 (live_drew L2); have LO := live_below hb1 (live_drew L3); obtain ⟨o0, o1, o2, o3⟩ := live_four LO; obtain ⟨y0, y1, y2, y3⟩ := live_four LZ; have fo := LO.2.2; have fz := LZ.2.2; have hb := (hb.drew).trans (hb1.mono hb.size); clear hb1)))
  go_wp2_with fail
  refine bodyPost_ret (v := .tuple #[.agg #[.int .i64 0, .int .i64 0, .int .i64 0, .int .i64 0], .int .i64 1]) (by simp [results, Try.results24, go_sem, y0, y1, y2, y3]) rfl ⟨rfl, ?_⟩
  (repeat' (first | with_reducible exact Below.refl _ _ | with_reducible refine Below.drew ?_ | with_reducible refine below_drewN ?_ _ | with_reducible refine Below.alloc ?_ ?_ _ | with_reducible refine Below.setCell ?_ ?_ _ | with_reducible refine Below.trans ?_ (Below.mono (by with_reducible assumption) ?_) | (simp; done) | (simp; omega) | omega))

set_option maxRecDepth 100000 in
set_option maxHeartbeats 4000000 in
theorem ref41_motors_no2 (f : Nat → Int) (x : Bool) (t a b c e sa sb sc se : Int) (w : World) (HV0 : Hid (stV f t 0 a = sa)) (HE0 : Hid (stE f t 0 a = 0)) (HV1 : Hid (stV f t 1 b = sb)) (HE1 : Hid (stE f t 1 b = 0)) (HV2 : Hid (stV f t 2 c = sc)) (HE2 : Hid (stE f t 2 c = 1)) :
    Calls Try.prog 24 #[.agg (mach f x t), .agg #[.int .i64 a, .int .i64 b, .int .i64 c], .int .i64 e] w fun e w' => e = .returned (.tuple #[.agg #[.int .i64 0, .int .i64 0, .int .i64 0, .int .i64 0], .int .i64 1]) ∧ Below w.heap.size w w' := by
  go_enter Try.func24, Try.ntmps24
  go_upto_region 1 with (fail)
  refine gen_world (fun wx => Live wx (w.heap.size) (mach f x t) ∧ Live wx (w.heap.size + 1) #[.int .i64 a, .int .i64 b, .int .i64 c] ∧ Live wx (w.heap.size + 2) #[.int .i64 0, .int .i64 0, .int .i64 0, .int .i64 0] ∧ wx.heap.size = w.heap.size + 3 ∧ Below w.heap.size w wx) ?_ ?_
  · refine ⟨live_alloc (live_alloc (live_new _ _ rfl) _) _, live_alloc (live_new _ _ (by simp)) _, live_new _ _ (by simp), by simp, ?_⟩
    (repeat' (first | with_reducible exact Below.refl _ _ | with_reducible refine Below.drew ?_ | with_reducible refine below_drewN ?_ _ | with_reducible refine Below.alloc ?_ ?_ _ | with_reducible refine Below.setCell ?_ ?_ _ | with_reducible refine Below.trans ?_ (Below.mono (by with_reducible assumption) ?_) | (simp; done) | (simp; omega) | omega))
  rintro wx ⟨L, L1, L2, z0, hb⟩
  obtain ⟨q0, q1, q2⟩ : wx.cell? ⟨w.heap.size + 1, 0, none⟩ = some (.int .i64 a) ∧ wx.cell? ⟨w.heap.size + 1, 1, none⟩ = some (.int .i64 b) ∧ wx.cell? ⟨w.heap.size + 1, 2, none⟩ = some (.int .i64 c) := ⟨L1.2.1 0, L1.2.1 1, L1.2.1 2⟩
  go_upto_region 2 with (fail)
  refine gen_world (fun wx => Live wx (w.heap.size) (mach f x t) ∧ Live wx (w.heap.size + 2) #[.int .i64 0, .int .i64 0, .int .i64 0, .int .i64 0] ∧ Live wx (w.heap.size + 3) #[.int .i64 a, .int .i64 b, .int .i64 c, .int .i64 e] ∧ Below w.heap.size w wx) ?_ ?_
  · refine ⟨live_alloc L _, live_alloc L2 _, live_new _ _ z0, ?_⟩
    have := hb.size
    exact hb.alloc (by omega) _
  clear q0 q1 q2 L L1 L2 z0 hb
  rintro wx ⟨L, L2, L3, hb⟩
  have PZ := L2.1
  have PW := L3.1
  go_wp2_with fail
  refine wp_loop_rounds 5 ?_
  rw [rounds_succ]
  obtain ⟨o0, o1, o2, o3⟩ := live_four L3
  go_upto_region 5 with (fail)
  have HR := live_rangeAll L
  have hld : ∀ w' : World, w'.rangeAt (w.heap.size) 0 (mach f x t).toList → (loadM (.pointer (some ⟨w.heap.size, 0, none⟩))).run Try.prog w' = .ok (.agg (mach f x t)) w' := fun w' h => loadM_run h
  go_region_held3 (fun w' => w'.rangeAt (w.heap.size) 0 (mach f x t).toList ∧ w'.cell? ⟨w.heap.size + 3, 0, none⟩ = some (.int .i64 a)) (first | (focus (exact ⟨HR, o0⟩; done)) | (focus (exact ⟨live_rangeAll LM, o0⟩; done)) | go_keep) ((go_at_call 20; ((with_reducible refine (ref41_steps f x t 0 a _).mono ?_); rw [HV0.out, HE0.out]; rintro e w1 ⟨rfl, hb1⟩; have z1 := hb1.size; have LM := live_below hb1 (live_drew L); have LZ := live_below hb1 (live_drew L2); have LO := live_below hb1 (live_drew L3); obtain ⟨o0, o1, o2, o3⟩ := live_four LO; obtain ⟨y0, y1, y2, y3⟩ := live_four LZ; have fo := LO.2.2; have fz := LZ.2.2; have hb := (hb.drew).trans (hb1.mono hb.size); clear hb1)))
  go_wp2_with fail
  refine gen_world (fun wx => Live wx (w.heap.size) (mach f x t) ∧ Live wx (w.heap.size + 2) #[.int .i64 0, .int .i64 0, .int .i64 0, .int .i64 0] ∧ Live wx (w.heap.size + 3) #[.int .i64 sa, .int .i64 b, .int .i64 c, .int .i64 e] ∧ Below w.heap.size w wx) ?_ ?_
  · refine ⟨live_set_other LM _ _ _ (by omega), live_set_other LZ _ _ _ (by omega), live_conv (live_set_same LO 0 _ (by simp)) (by simp), hb.setCell (show w.heap.size ≤ w.heap.size + 3 by omega) _⟩
  clear LM LZ LO o0 o1 o2 o3 y0 y1 y2 y3 fo fz hb z1
  rintro wx ⟨L, L2, L3, hb⟩
  rw [rounds_succ]
  obtain ⟨o0, o1, o2, o3⟩ := live_four L3
  go_upto_region 5 with (fail)
  have HR := live_rangeAll L
  have hld : ∀ w' : World, w'.rangeAt (w.heap.size) 0 (mach f x t).toList → (loadM (.pointer (some ⟨w.heap.size, 0, none⟩))).run Try.prog w' = .ok (.agg (mach f x t)) w' := fun w' h => loadM_run h
  go_region_held3 (fun w' => w'.rangeAt (w.heap.size) 0 (mach f x t).toList ∧ w'.cell? ⟨w.heap.size + 3, 1, none⟩ = some (.int .i64 b)) (first | (focus (exact ⟨HR, o1⟩; done)) | (focus (exact ⟨live_rangeAll LM, o1⟩; done)) | go_keep) ((go_at_call 20; ((with_reducible refine (ref41_steps f x t 1 b _).mono ?_); rw [HV1.out, HE1.out]; rintro e w1 ⟨rfl, hb1⟩; have z1 := hb1.size; have LM := live_below hb1 (live_drew L); have LZ := live_below hb1 (live_drew L2); have LO := live_below hb1 (live_drew L3); obtain ⟨o0, o1, o2, o3⟩ := live_four LO; obtain ⟨y0, y1, y2, y3⟩ := live_four LZ; have fo := LO.2.2; have fz := LZ.2.2; have hb := (hb.drew).trans (hb1.mono hb.size); clear hb1)))
  go_wp2_with fail
  refine gen_world (fun wx => Live wx (w.heap.size) (mach f x t) ∧ Live wx (w.heap.size + 2) #[.int .i64 0, .int .i64 0, .int .i64 0, .int .i64 0] ∧ Live wx (w.heap.size + 3) #[.int .i64 sa, .int .i64 sb, .int .i64 c, .int .i64 e] ∧ Below w.heap.size w wx) ?_ ?_
  · refine ⟨live_set_other LM _ _ _ (by omega), live_set_other LZ _ _ _ (by omega), live_conv (live_set_same LO 1 _ (by simp)) (by simp), hb.setCell (show w.heap.size ≤ w.heap.size + 3 by omega) _⟩
  clear LM LZ LO o0 o1 o2 o3 y0 y1 y2 y3 fo fz hb z1
  rintro wx ⟨L, L2, L3, hb⟩
  rw [rounds_succ]
  obtain ⟨o0, o1, o2, o3⟩ := live_four L3
  go_upto_region 5 with (fail)
  have HR := live_rangeAll L
  have hld : ∀ w' : World, w'.rangeAt (w.heap.size) 0 (mach f x t).toList → (loadM (.pointer (some ⟨w.heap.size, 0, none⟩))).run Try.prog w' = .ok (.agg (mach f x t)) w' := fun w' h => loadM_run h
  go_region_held3 (fun w' => w'.rangeAt (w.heap.size) 0 (mach f x t).toList ∧ w'.cell? ⟨w.heap.size + 3, 2, none⟩ = some (.int .i64 c)) (first | (focus (exact ⟨HR, o2⟩; done)) | (focus (exact ⟨live_rangeAll LM, o2⟩; done)) | go_keep) ((go_at_call 20; ((with_reducible refine (ref41_steps f x t 2 c _).mono ?_); rw [HV2.out, HE2.out]; rintro e w1 ⟨rfl, hb1⟩; have z1 := hb1.size; have LM := live_below hb1 (live_drew L); have LZ := live_below hb1 (live_drew L2); have LO := live_below hb1 (live_drew L3); obtain ⟨o0, o1, o2, o3⟩ := live_four LO; obtain ⟨y0, y1, y2, y3⟩ := live_four LZ; have fo := LO.2.2; have fz := LZ.2.2; have hb := (hb.drew).trans (hb1.mono hb.size); clear hb1)))
  go_wp2_with fail
  refine bodyPost_ret (v := .tuple #[.agg #[.int .i64 0, .int .i64 0, .int .i64 0, .int .i64 0], .int .i64 1]) (by simp [results, Try.results24, go_sem, y0, y1, y2, y3]) rfl ⟨rfl, ?_⟩
  (repeat' (first | with_reducible exact Below.refl _ _ | with_reducible refine Below.drew ?_ | with_reducible refine below_drewN ?_ _ | with_reducible refine Below.alloc ?_ ?_ _ | with_reducible refine Below.setCell ?_ ?_ _ | with_reducible refine Below.trans ?_ (Below.mono (by with_reducible assumption) ?_) | (simp; done) | (simp; omega) | omega))

set_option maxRecDepth 100000 in
set_option maxHeartbeats 4000000 in
theorem ref41_motors_no3 (f : Nat → Int) (x : Bool) (t a b c e sa sb sc se : Int) (w : World) (HV0 : Hid (stV f t 0 a = sa)) (HE0 : Hid (stE f t 0 a = 0)) (HV1 : Hid (stV f t 1 b = sb)) (HE1 : Hid (stE f t 1 b = 0)) (HV2 : Hid (stV f t 2 c = sc)) (HE2 : Hid (stE f t 2 c = 0)) (HV3 : Hid (stV f t 3 e = se)) (HE3 : Hid (stE f t 3 e = 1)) :
    Calls Try.prog 24 #[.agg (mach f x t), .agg #[.int .i64 a, .int .i64 b, .int .i64 c], .int .i64 e] w fun e w' => e = .returned (.tuple #[.agg #[.int .i64 0, .int .i64 0, .int .i64 0, .int .i64 0], .int .i64 1]) ∧ Below w.heap.size w w' := by
  go_enter Try.func24, Try.ntmps24
  go_upto_region 1 with (fail)
  refine gen_world (fun wx => Live wx (w.heap.size) (mach f x t) ∧ Live wx (w.heap.size + 1) #[.int .i64 a, .int .i64 b, .int .i64 c] ∧ Live wx (w.heap.size + 2) #[.int .i64 0, .int .i64 0, .int .i64 0, .int .i64 0] ∧ wx.heap.size = w.heap.size + 3 ∧ Below w.heap.size w wx) ?_ ?_
  · refine ⟨live_alloc (live_alloc (live_new _ _ rfl) _) _, live_alloc (live_new _ _ (by simp)) _, live_new _ _ (by simp), by simp, ?_⟩
    (repeat' (first | with_reducible exact Below.refl _ _ | with_reducible refine Below.drew ?_ | with_reducible refine below_drewN ?_ _ | with_reducible refine Below.alloc ?_ ?_ _ | with_reducible refine Below.setCell ?_ ?_ _ | with_reducible refine Below.trans ?_ (Below.mono (by with_reducible assumption) ?_) | (simp; done) | (simp; omega) | omega))
  rintro wx ⟨L, L1, L2, z0, hb⟩
  obtain ⟨q0, q1, q2⟩ : wx.cell? ⟨w.heap.size + 1, 0, none⟩ = some (.int .i64 a) ∧ wx.cell? ⟨w.heap.size + 1, 1, none⟩ = some (.int .i64 b) ∧ wx.cell? ⟨w.heap.size + 1, 2, none⟩ = some (.int .i64 c) := ⟨L1.2.1 0, L1.2.1 1, L1.2.1 2⟩
  go_upto_region 2 with (fail)
  refine gen_world (fun wx => Live wx (w.heap.size) (mach f x t) ∧ Live wx (w.heap.size + 2) #[.int .i64 0, .int .i64 0, .int .i64 0, .int .i64 0] ∧ Live wx (w.heap.size + 3) #[.int .i64 a, .int .i64 b, .int .i64 c, .int .i64 e] ∧ Below w.heap.size w wx) ?_ ?_
  · refine ⟨live_alloc L _, live_alloc L2 _, live_new _ _ z0, ?_⟩
    have := hb.size
    exact hb.alloc (by omega) _
  clear q0 q1 q2 L L1 L2 z0 hb
  rintro wx ⟨L, L2, L3, hb⟩
  have PZ := L2.1
  have PW := L3.1
  go_wp2_with fail
  refine wp_loop_rounds 5 ?_
  rw [rounds_succ]
  obtain ⟨o0, o1, o2, o3⟩ := live_four L3
  go_upto_region 5 with (fail)
  have HR := live_rangeAll L
  have hld : ∀ w' : World, w'.rangeAt (w.heap.size) 0 (mach f x t).toList → (loadM (.pointer (some ⟨w.heap.size, 0, none⟩))).run Try.prog w' = .ok (.agg (mach f x t)) w' := fun w' h => loadM_run h
  go_region_held3 (fun w' => w'.rangeAt (w.heap.size) 0 (mach f x t).toList ∧ w'.cell? ⟨w.heap.size + 3, 0, none⟩ = some (.int .i64 a)) (first | (focus (exact ⟨HR, o0⟩; done)) | (focus (exact ⟨live_rangeAll LM, o0⟩; done)) | go_keep) ((go_at_call 20; ((with_reducible refine (ref41_steps f x t 0 a _).mono ?_); rw [HV0.out, HE0.out]; rintro e w1 ⟨rfl, hb1⟩; have z1 := hb1.size; have LM := live_below hb1 (live_drew L); have LZ := live_below hb1 (live_drew L2); have LO := live_below hb1 (live_drew L3); obtain ⟨o0, o1, o2, o3⟩ := live_four LO; obtain ⟨y0, y1, y2, y3⟩ := live_four LZ; have fo := LO.2.2; have fz := LZ.2.2; have hb := (hb.drew).trans (hb1.mono hb.size); clear hb1)))
  go_wp2_with fail
  refine gen_world (fun wx => Live wx (w.heap.size) (mach f x t) ∧ Live wx (w.heap.size + 2) #[.int .i64 0, .int .i64 0, .int .i64 0, .int .i64 0] ∧ Live wx (w.heap.size + 3) #[.int .i64 sa, .int .i64 b, .int .i64 c, .int .i64 e] ∧ Below w.heap.size w wx) ?_ ?_
  · refine ⟨live_set_other LM _ _ _ (by omega), live_set_other LZ _ _ _ (by omega), live_conv (live_set_same LO 0 _ (by simp)) (by simp), hb.setCell (show w.heap.size ≤ w.heap.size + 3 by omega) _⟩
  clear LM LZ LO o0 o1 o2 o3 y0 y1 y2 y3 fo fz hb z1
  rintro wx ⟨L, L2, L3, hb⟩
  rw [rounds_succ]
  obtain ⟨o0, o1, o2, o3⟩ := live_four L3
  go_upto_region 5 with (fail)
  have HR := live_rangeAll L
  have hld : ∀ w' : World, w'.rangeAt (w.heap.size) 0 (mach f x t).toList → (loadM (.pointer (some ⟨w.heap.size, 0, none⟩))).run Try.prog w' = .ok (.agg (mach f x t)) w' := fun w' h => loadM_run h
  go_region_held3 (fun w' => w'.rangeAt (w.heap.size) 0 (mach f x t).toList ∧ w'.cell? ⟨w.heap.size + 3, 1, none⟩ = some (.int .i64 b)) (first | (focus (exact ⟨HR, o1⟩; done)) | (focus (exact ⟨live_rangeAll LM, o1⟩; done)) | go_keep) ((go_at_call 20; ((with_reducible refine (ref41_steps f x t 1 b _).mono ?_); rw [HV1.out, HE1.out]; rintro e w1 ⟨rfl, hb1⟩; have z1 := hb1.size; have LM := live_below hb1 (live_drew L); have LZ := live_below hb1 (live_drew L2); have LO := live_below hb1 (live_drew L3); obtain ⟨o0, o1, o2, o3⟩ := live_four LO; obtain ⟨y0, y1, y2, y3⟩ := live_four LZ; have fo := LO.2.2; have fz := LZ.2.2; have hb := (hb.drew).trans (hb1.mono hb.size); clear hb1)))
  go_wp2_with fail
  refine gen_world (fun wx => Live wx (w.heap.size) (mach f x t) ∧ Live wx (w.heap.size + 2) #[.int .i64 0, .int .i64 0, .int .i64 0, .int .i64 0] ∧ Live wx (w.heap.size + 3) #[.int .i64 sa, .int .i64 sb, .int .i64 c, .int .i64 e] ∧ Below w.heap.size w wx) ?_ ?_
  · refine ⟨live_set_other LM _ _ _ (by omega), live_set_other LZ _ _ _ (by omega), live_conv (live_set_same LO 1 _ (by simp)) (by simp), hb.setCell (show w.heap.size ≤ w.heap.size + 3 by omega) _⟩
  clear LM LZ LO o0 o1 o2 o3 y0 y1 y2 y3 fo fz hb z1
  rintro wx ⟨L, L2, L3, hb⟩
  rw [rounds_succ]
  obtain ⟨o0, o1, o2, o3⟩ := live_four L3
  go_upto_region 5 with (fail)
  have HR := live_rangeAll L
  have hld : ∀ w' : World, w'.rangeAt (w.heap.size) 0 (mach f x t).toList → (loadM (.pointer (some ⟨w.heap.size, 0, none⟩))).run Try.prog w' = .ok (.agg (mach f x t)) w' := fun w' h => loadM_run h
  go_region_held3 (fun w' => w'.rangeAt (w.heap.size) 0 (mach f x t).toList ∧ w'.cell? ⟨w.heap.size + 3, 2, none⟩ = some (.int .i64 c)) (first | (focus (exact ⟨HR, o2⟩; done)) | (focus (exact ⟨live_rangeAll LM, o2⟩; done)) | go_keep) ((go_at_call 20; ((with_reducible refine (ref41_steps f x t 2 c _).mono ?_); rw [HV2.out, HE2.out]; rintro e w1 ⟨rfl, hb1⟩; have z1 := hb1.size; have LM := live_below hb1 (live_drew L); have LZ := live_below hb1 (live_drew L2); have LO := live_below hb1 (live_drew L3); obtain ⟨o0, o1, o2, o3⟩ := live_four LO; obtain ⟨y0, y1, y2, y3⟩ := live_four LZ; have fo := LO.2.2; have fz := LZ.2.2; have hb := (hb.drew).trans (hb1.mono hb.size); clear hb1)))
  go_wp2_with fail
  refine gen_world (fun wx => Live wx (w.heap.size) (mach f x t) ∧ Live wx (w.heap.size + 2) #[.int .i64 0, .int .i64 0, .int .i64 0, .int .i64 0] ∧ Live wx (w.heap.size + 3) #[.int .i64 sa, .int .i64 sb, .int .i64 sc, .int .i64 e] ∧ Below w.heap.size w wx) ?_ ?_
  · refine ⟨live_set_other LM _ _ _ (by omega), live_set_other LZ _ _ _ (by omega), live_conv (live_set_same LO 2 _ (by simp)) (by simp), hb.setCell (show w.heap.size ≤ w.heap.size + 3 by omega) _⟩
  clear LM LZ LO o0 o1 o2 o3 y0 y1 y2 y3 fo fz hb z1
  rintro wx ⟨L, L2, L3, hb⟩
  rw [rounds_succ]
  obtain ⟨o0, o1, o2, o3⟩ := live_four L3
  go_upto_region 5 with (fail)
  have HR := live_rangeAll L
  have hld : ∀ w' : World, w'.rangeAt (w.heap.size) 0 (mach f x t).toList → (loadM (.pointer (some ⟨w.heap.size, 0, none⟩))).run Try.prog w' = .ok (.agg (mach f x t)) w' := fun w' h => loadM_run h
  go_region_held3 (fun w' => w'.rangeAt (w.heap.size) 0 (mach f x t).toList ∧ w'.cell? ⟨w.heap.size + 3, 3, none⟩ = some (.int .i64 e)) (first | (focus (exact ⟨HR, o3⟩; done)) | (focus (exact ⟨live_rangeAll LM, o3⟩; done)) | go_keep) ((go_at_call 20; ((with_reducible refine (ref41_steps f x t 3 e _).mono ?_); rw [HV3.out, HE3.out]; rintro e w1 ⟨rfl, hb1⟩; have z1 := hb1.size; have LM := live_below hb1 (live_drew L); have LZ := live_below hb1 (live_drew L2); have LO := live_below hb1 (live_drew L3); obtain ⟨o0, o1, o2, o3⟩ := live_four LO; obtain ⟨y0, y1, y2, y3⟩ := live_four LZ; have fo := LO.2.2; have fz := LZ.2.2; have hb := (hb.drew).trans (hb1.mono hb.size); clear hb1)))
  go_wp2_with fail
  refine bodyPost_ret (v := .tuple #[.agg #[.int .i64 0, .int .i64 0, .int .i64 0, .int .i64 0], .int .i64 1]) (by simp [results, Try.results24, go_sem, y0, y1, y2, y3]) rfl ⟨rfl, ?_⟩
  (repeat' (first | with_reducible exact Below.refl _ _ | with_reducible refine Below.drew ?_ | with_reducible refine below_drewN ?_ _ | with_reducible refine Below.alloc ?_ ?_ _ | with_reducible refine Below.setCell ?_ ?_ _ | with_reducible refine Below.trans ?_ (Below.mono (by with_reducible assumption) ?_) | (simp; done) | (simp; omega) | omega))

set_option maxRecDepth 100000 in
set_option maxHeartbeats 4000000 in
theorem ref41_motors_yes (f : Nat → Int) (x : Bool) (t a b c e sa sb sc se : Int) (w : World) (HV0 : Hid (stV f t 0 a = sa)) (HE0 : Hid (stE f t 0 a = 0)) (HV1 : Hid (stV f t 1 b = sb)) (HE1 : Hid (stE f t 1 b = 0)) (HV2 : Hid (stV f t 2 c = sc)) (HE2 : Hid (stE f t 2 c = 0)) (HV3 : Hid (stV f t 3 e = se)) (HE3 : Hid (stE f t 3 e = 0)) (ba : -70368744177664 ≤ sa ∧ sa ≤ 70368744177664) (bb : -70368744177664 ≤ sb ∧ sb ≤ 70368744177664) :
    Calls Try.prog 24 #[.agg (mach f x t), .agg #[.int .i64 a, .int .i64 b, .int .i64 c], .int .i64 e] w fun e w' => e = .returned (.tuple #[.agg #[.int .i64 (if x then sa + sb else sa), .int .i64 (if x then sa - sb else sb), .int .i64 sc, .int .i64 se], .int .i64 0]) ∧ Below w.heap.size w w' := by
  obtain ⟨ba0, ba1⟩ := ba
  obtain ⟨bb0, bb1⟩ := bb
  go_enter Try.func24, Try.ntmps24
  go_upto_region 1 with (fail)
  refine gen_world (fun wx => Live wx (w.heap.size) (mach f x t) ∧ Live wx (w.heap.size + 1) #[.int .i64 a, .int .i64 b, .int .i64 c] ∧ Live wx (w.heap.size + 2) #[.int .i64 0, .int .i64 0, .int .i64 0, .int .i64 0] ∧ wx.heap.size = w.heap.size + 3 ∧ Below w.heap.size w wx) ?_ ?_
  · refine ⟨live_alloc (live_alloc (live_new _ _ rfl) _) _, live_alloc (live_new _ _ (by simp)) _, live_new _ _ (by simp), by simp, ?_⟩
    (repeat' (first | with_reducible exact Below.refl _ _ | with_reducible refine Below.drew ?_ | with_reducible refine below_drewN ?_ _ | with_reducible refine Below.alloc ?_ ?_ _ | with_reducible refine Below.setCell ?_ ?_ _ | with_reducible refine Below.trans ?_ (Below.mono (by with_reducible assumption) ?_) | (simp; done) | (simp; omega) | omega))
  rintro wx ⟨L, L1, L2, z0, hb⟩
  obtain ⟨q0, q1, q2⟩ : wx.cell? ⟨w.heap.size + 1, 0, none⟩ = some (.int .i64 a) ∧ wx.cell? ⟨w.heap.size + 1, 1, none⟩ = some (.int .i64 b) ∧ wx.cell? ⟨w.heap.size + 1, 2, none⟩ = some (.int .i64 c) := ⟨L1.2.1 0, L1.2.1 1, L1.2.1 2⟩
  go_upto_region 2 with (fail)
  refine gen_world (fun wx => Live wx (w.heap.size) (mach f x t) ∧ Live wx (w.heap.size + 2) #[.int .i64 0, .int .i64 0, .int .i64 0, .int .i64 0] ∧ Live wx (w.heap.size + 3) #[.int .i64 a, .int .i64 b, .int .i64 c, .int .i64 e] ∧ Below w.heap.size w wx) ?_ ?_
  · refine ⟨live_alloc L _, live_alloc L2 _, live_new _ _ z0, ?_⟩
    have := hb.size
    exact hb.alloc (by omega) _
  clear q0 q1 q2 L L1 L2 z0 hb
  rintro wx ⟨L, L2, L3, hb⟩
  have PZ := L2.1
  have PW := L3.1
  go_wp2_with fail
  refine wp_loop_rounds 5 ?_
  rw [rounds_succ]
  obtain ⟨o0, o1, o2, o3⟩ := live_four L3
  go_upto_region 5 with (fail)
  have HR := live_rangeAll L
  have hld : ∀ w' : World, w'.rangeAt (w.heap.size) 0 (mach f x t).toList → (loadM (.pointer (some ⟨w.heap.size, 0, none⟩))).run Try.prog w' = .ok (.agg (mach f x t)) w' := fun w' h => loadM_run h
  go_region_held3 (fun w' => w'.rangeAt (w.heap.size) 0 (mach f x t).toList ∧ w'.cell? ⟨w.heap.size + 3, 0, none⟩ = some (.int .i64 a)) (first | (focus (exact ⟨HR, o0⟩; done)) | (focus (exact ⟨live_rangeAll LM, o0⟩; done)) | go_keep) ((go_at_call 20; ((with_reducible refine (ref41_steps f x t 0 a _).mono ?_); rw [HV0.out, HE0.out]; rintro e w1 ⟨rfl, hb1⟩; have z1 := hb1.size; have LM := live_below hb1 (live_drew L); have LZ := live_below hb1 (live_drew L2); have LO := live_below hb1 (live_drew L3); obtain ⟨o0, o1, o2, o3⟩ := live_four LO; obtain ⟨y0, y1, y2, y3⟩ := live_four LZ; have fo := LO.2.2; have fz := LZ.2.2; have hb := (hb.drew).trans (hb1.mono hb.size); clear hb1)))
  go_wp2_with fail
  refine gen_world (fun wx => Live wx (w.heap.size) (mach f x t) ∧ Live wx (w.heap.size + 2) #[.int .i64 0, .int .i64 0, .int .i64 0, .int .i64 0] ∧ Live wx (w.heap.size + 3) #[.int .i64 sa, .int .i64 b, .int .i64 c, .int .i64 e] ∧ Below w.heap.size w wx) ?_ ?_
  · refine ⟨live_set_other LM _ _ _ (by omega), live_set_other LZ _ _ _ (by omega), live_conv (live_set_same LO 0 _ (by simp)) (by simp), hb.setCell (show w.heap.size ≤ w.heap.size + 3 by omega) _⟩
  clear LM LZ LO o0 o1 o2 o3 y0 y1 y2 y3 fo fz hb z1
  rintro wx ⟨L, L2, L3, hb⟩
  rw [rounds_succ]
  obtain ⟨o0, o1, o2, o3⟩ := live_four L3
  go_upto_region 5 with (fail)
  have HR := live_rangeAll L
  have hld : ∀ w' : World, w'.rangeAt (w.heap.size) 0 (mach f x t).toList → (loadM (.pointer (some ⟨w.heap.size, 0, none⟩))).run Try.prog w' = .ok (.agg (mach f x t)) w' := fun w' h => loadM_run h
  go_region_held3 (fun w' => w'.rangeAt (w.heap.size) 0 (mach f x t).toList ∧ w'.cell? ⟨w.heap.size + 3, 1, none⟩ = some (.int .i64 b)) (first | (focus (exact ⟨HR, o1⟩; done)) | (focus (exact ⟨live_rangeAll LM, o1⟩; done)) | go_keep) ((go_at_call 20; ((with_reducible refine (ref41_steps f x t 1 b _).mono ?_); rw [HV1.out, HE1.out]; rintro e w1 ⟨rfl, hb1⟩; have z1 := hb1.size; have LM := live_below hb1 (live_drew L); have LZ := live_below hb1 (live_drew L2); have LO := live_below hb1 (live_drew L3); obtain ⟨o0, o1, o2, o3⟩ := live_four LO; obtain ⟨y0, y1, y2, y3⟩ := live_four LZ; have fo := LO.2.2; have fz := LZ.2.2; have hb := (hb.drew).trans (hb1.mono hb.size); clear hb1)))
  go_wp2_with fail
  refine gen_world (fun wx => Live wx (w.heap.size) (mach f x t) ∧ Live wx (w.heap.size + 2) #[.int .i64 0, .int .i64 0, .int .i64 0, .int .i64 0] ∧ Live wx (w.heap.size + 3) #[.int .i64 sa, .int .i64 sb, .int .i64 c, .int .i64 e] ∧ Below w.heap.size w wx) ?_ ?_
  · refine ⟨live_set_other LM _ _ _ (by omega), live_set_other LZ _ _ _ (by omega), live_conv (live_set_same LO 1 _ (by simp)) (by simp), hb.setCell (show w.heap.size ≤ w.heap.size + 3 by omega) _⟩
  clear LM LZ LO o0 o1 o2 o3 y0 y1 y2 y3 fo fz hb z1
  rintro wx ⟨L, L2, L3, hb⟩
  rw [rounds_succ]
  obtain ⟨o0, o1, o2, o3⟩ := live_four L3
  go_upto_region 5 with (fail)
  have HR := live_rangeAll L
  have hld : ∀ w' : World, w'.rangeAt (w.heap.size) 0 (mach f x t).toList → (loadM (.pointer (some ⟨w.heap.size, 0, none⟩))).run Try.prog w' = .ok (.agg (mach f x t)) w' := fun w' h => loadM_run h
  go_region_held3 (fun w' => w'.rangeAt (w.heap.size) 0 (mach f x t).toList ∧ w'.cell? ⟨w.heap.size + 3, 2, none⟩ = some (.int .i64 c)) (first | (focus (exact ⟨HR, o2⟩; done)) | (focus (exact ⟨live_rangeAll LM, o2⟩; done)) | go_keep) ((go_at_call 20; ((with_reducible refine (ref41_steps f x t 2 c _).mono ?_); rw [HV2.out, HE2.out]; rintro e w1 ⟨rfl, hb1⟩; have z1 := hb1.size; have LM := live_below hb1 (live_drew L); have LZ := live_below hb1 (live_drew L2); have LO := live_below hb1 (live_drew L3); obtain ⟨o0, o1, o2, o3⟩ := live_four LO; obtain ⟨y0, y1, y2, y3⟩ := live_four LZ; have fo := LO.2.2; have fz := LZ.2.2; have hb := (hb.drew).trans (hb1.mono hb.size); clear hb1)))
  go_wp2_with fail
  refine gen_world (fun wx => Live wx (w.heap.size) (mach f x t) ∧ Live wx (w.heap.size + 2) #[.int .i64 0, .int .i64 0, .int .i64 0, .int .i64 0] ∧ Live wx (w.heap.size + 3) #[.int .i64 sa, .int .i64 sb, .int .i64 sc, .int .i64 e] ∧ Below w.heap.size w wx) ?_ ?_
  · refine ⟨live_set_other LM _ _ _ (by omega), live_set_other LZ _ _ _ (by omega), live_conv (live_set_same LO 2 _ (by simp)) (by simp), hb.setCell (show w.heap.size ≤ w.heap.size + 3 by omega) _⟩
  clear LM LZ LO o0 o1 o2 o3 y0 y1 y2 y3 fo fz hb z1
  rintro wx ⟨L, L2, L3, hb⟩
  rw [rounds_succ]
  obtain ⟨o0, o1, o2, o3⟩ := live_four L3
  go_upto_region 5 with (fail)
  have HR := live_rangeAll L
  have hld : ∀ w' : World, w'.rangeAt (w.heap.size) 0 (mach f x t).toList → (loadM (.pointer (some ⟨w.heap.size, 0, none⟩))).run Try.prog w' = .ok (.agg (mach f x t)) w' := fun w' h => loadM_run h
  go_region_held3 (fun w' => w'.rangeAt (w.heap.size) 0 (mach f x t).toList ∧ w'.cell? ⟨w.heap.size + 3, 3, none⟩ = some (.int .i64 e)) (first | (focus (exact ⟨HR, o3⟩; done)) | (focus (exact ⟨live_rangeAll LM, o3⟩; done)) | go_keep) ((go_at_call 20; ((with_reducible refine (ref41_steps f x t 3 e _).mono ?_); rw [HV3.out, HE3.out]; rintro e w1 ⟨rfl, hb1⟩; have z1 := hb1.size; have LM := live_below hb1 (live_drew L); have LZ := live_below hb1 (live_drew L2); have LO := live_below hb1 (live_drew L3); obtain ⟨o0, o1, o2, o3⟩ := live_four LO; obtain ⟨y0, y1, y2, y3⟩ := live_four LZ; have fo := LO.2.2; have fz := LZ.2.2; have hb := (hb.drew).trans (hb1.mono hb.size); clear hb1)))
  go_wp2_with fail
  refine gen_world (fun wx => Live wx (w.heap.size) (mach f x t) ∧ Live wx (w.heap.size + 2) #[.int .i64 0, .int .i64 0, .int .i64 0, .int .i64 0] ∧ Live wx (w.heap.size + 3) #[.int .i64 sa, .int .i64 sb, .int .i64 sc, .int .i64 se] ∧ Below w.heap.size w wx) ?_ ?_
  · refine ⟨live_set_other LM _ _ _ (by omega), live_set_other LZ _ _ _ (by omega), live_conv (live_set_same LO 3 _ (by simp)) (by simp), hb.setCell (show w.heap.size ≤ w.heap.size + 3 by omega) _⟩
  clear LM LZ LO o0 o1 o2 o3 y0 y1 y2 y3 fo fz hb z1
  rintro wx ⟨L, L2, L3, hb⟩
  rw [rounds_succ]
  have c28 := L.2.1 28
  rw [mach_28] at c28
  obtain ⟨o0, o1, o2, o3⟩ := live_four L3
  have fo := L3.2.2
  have fz := L2.2.2
  obtain ⟨y0, y1, y2, y3⟩ := live_four L2
  have PZ := L2.1
  have PW := L3.1
  clear L L2 L3
  cases x
  all_goals
    go_wp2_with fail
    try (go_quiet (fail); go_wp2_with fail)
  · refine bodyPost_ret (v := .tuple #[.agg #[.int .i64 sa, .int .i64 sb, .int .i64 sc, .int .i64 se], .int .i64 0]) (by simp [results, Try.results24, go_sem, y0, y1, y2, y3]) rfl ⟨rfl, ?_⟩
    (repeat' (first | with_reducible exact Below.refl _ _ | with_reducible refine Below.drew ?_ | with_reducible refine below_drewN ?_ _ | with_reducible refine Below.alloc ?_ ?_ _ | with_reducible refine Below.setCell ?_ ?_ _ | with_reducible refine Below.trans ?_ (Below.mono (by with_reducible assumption) ?_) | (simp; done) | (simp; omega) | omega))
  · refine bodyPost_ret (v := .tuple #[.agg #[.int .i64 (sa + sb), .int .i64 (sa - sb), .int .i64 sc, .int .i64 se], .int .i64 0]) (by simp [results, Try.results24, go_sem, y0, y1, y2, y3]) rfl ⟨rfl, ?_⟩
    (repeat' (first | with_reducible exact Below.refl _ _ | with_reducible refine Below.drew ?_ | with_reducible refine below_drewN ?_ _ | with_reducible refine Below.alloc ?_ ?_ _ | with_reducible refine Below.setCell ?_ ?_ _ | with_reducible refine Below.trans ?_ (Below.mono (by with_reducible assumption) ?_) | (simp; done) | (simp; omega) | omega))

theorem ref41_motors (f : Nat → Int) (x : Bool) (t a b c e : Int) (w : World) :
    Calls Try.prog 24 #[.agg (mach f x t), .agg #[.int .i64 a, .int .i64 b, .int .i64 c], .int .i64 e] w fun y w' => y = .returned (.tuple #[.agg #[.int .i64 (moV f x t a b c e 0), .int .i64 (moV f x t a b c e 1), .int .i64 (moV f x t a b c e 2), .int .i64 (moV f x t a b c e 3)], .int .i64 (moE f t a b c e)]) ∧ Below w.heap.size w w' := by
  have e1 : ∀ k p, stOk f t k p = true → stE f t k p = 0 := fun k p h => by unfold stE; rw [h]; rfl
  have e0 : ∀ k p, stOk f t k p = false → stE f t k p = 1 := fun k p h => by unfold stE; rw [h]; rfl
  unfold moV moE moOk
  cases h0 : stOk f t 0 a
  · exact ref41_motors_no0 f x t a b c e _ 0 0 0 w (Lib.hid rfl) (Lib.hid (e0 _ _ h0))
  cases h1 : stOk f t 1 b
  · exact ref41_motors_no1 f x t a b c e _ _ 0 0 w (Lib.hid rfl) (Lib.hid (e1 _ _ h0)) (Lib.hid rfl) (Lib.hid (e0 _ _ h1))
  cases h2 : stOk f t 2 c
  · exact ref41_motors_no2 f x t a b c e _ _ _ 0 w (Lib.hid rfl) (Lib.hid (e1 _ _ h0)) (Lib.hid rfl) (Lib.hid (e1 _ _ h1)) (Lib.hid rfl) (Lib.hid (e0 _ _ h2))
  cases h3 : stOk f t 3 e
  · exact ref41_motors_no3 f x t a b c e _ _ _ _ w (Lib.hid rfl) (Lib.hid (e1 _ _ h0)) (Lib.hid rfl) (Lib.hid (e1 _ _ h1)) (Lib.hid rfl) (Lib.hid (e1 _ _ h2)) (Lib.hid rfl) (Lib.hid (e0 _ _ h3))
  · exact ref41_motors_yes f x t a b c e _ _ _ _ w (Lib.hid rfl) (Lib.hid (e1 _ _ h0)) (Lib.hid rfl) (Lib.hid (e1 _ _ h1)) (Lib.hid rfl) (Lib.hid (e1 _ _ h2)) (Lib.hid rfl) (Lib.hid (e1 _ _ h3)) (stV_in _ _ _ _) (stV_in _ _ _ _)
end Go.Proofs.Ythodfmmmddfkmaa
