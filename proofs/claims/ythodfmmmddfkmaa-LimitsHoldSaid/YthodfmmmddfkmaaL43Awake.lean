/- The example of chapter 43: true -/
import Derived.Test.YthodfmmmddfkmaaLimSpeed
import Derived.Test.YthodfmmmddfkmaaLimAccel
import Derived.Test.YthodfmmmddfkmaaLimJunc
import Derived.Test.YthodfmmmddfkmaaLimMach
namespace Go.Proofs.Ythodfmmmddfkmaa
open Go.RowKit
set_option linter.unusedVariables false

attribute [local go_sem] cell_past1 cell_past2 cell_past3 cell_past4 froz_past1 froz_past2 froz_past3
attribute [local go_sem ↓] loadM_in

def exM : Nat → Int := maF 1000 50 10 4
theorem ex43_v : kinValid exM 1000 = true := by decide
theorem ex43_s : spdV (limK 2 exM (ddaDom 4 2 0 0) 1048576 4 2 0 0 4) (ddaDom 4 2 0 0) 0 0 = 1000 := by decide
theorem ex43_a : limK 3 exM (ddaDom 4 2 0 0) 16777216 4 2 0 0 4 = 50 := by decide
theorem ex43_j : junK exM (ddaDom 1 0 0 0) (ddaDom 0 1 0 0) 1 0 0 0 0 1 0 0 4 = 10 := by decide
theorem ex43_t : spdV (limK 2 exM (ddaDom 400 0 0 0) 1048576 400 0 0 0 4) (ddaDom 400 0 0 0) 100 50 = 200 := by decide

set_option maxRecDepth 100000 in
set_option maxHeartbeats 4000000 in
theorem law43_awake (w : World) : Calls Try.prog 29 #[] w fun e w' => e = .returned (.bool true) ∧ Below w.heap.size w w' := by
  have KM := Lib.hid (fun w => law43_machine 1000 50 10 w)
  have KS := Lib.hid (fun w => lim_speed_t exM false 1000 4 2 0 0 0 0 w ex43_v (by decide) (by decide) (by decide))
  have KA := Lib.hid (fun w => lim_accel_t exM false 1000 4 2 0 0 w ex43_v (by decide))
  have KJ := Lib.hid (fun w => lim_junction_t exM false 1000 1 0 0 0 0 1 0 0 w ex43_v (by decide) (by decide))
  have KT := Lib.hid (fun w => lim_speed_t exM false 1000 400 0 0 0 100 50 w ex43_v (by decide) (by decide) (by decide))
  rw [ex43_s] at KS
  rw [ex43_a] at KA
  rw [ex43_j] at KJ
  rw [ex43_t] at KT
  rw [show maF 1000 50 10 4 = exM from rfl] at KM
  generalize exM = f at *
  go_enter Try.func29, Try.ntmps29
  go_upto_region 3 with (first | (go_at_call 53; refine (KM.out _).mono ?_; rintro e w0 ⟨rfl, hb0⟩; have z0 := hb0.size; (try simp at z0)) | (with_reducible refine wpList_alloc_in (ty := 26) zeroM (alloc_M _) ?_) | ((with_reducible refine wpList_store_in (ty := 26) w0.heap.size 0 (mach f false 1000) ?_ ?_ ?_ ?_ (mach_one _ _ _) ?_); (· rfl); (· rfl); (· exact live_there (c := zeroM) (live_new _ _ rfl) 0 30 (by decide)); (· kernel_rfl); refine gen_world (fun wx => Live wx w0.heap.size (mach f false 1000) ∧ Below w.heap.size w wx) ?_ ?_; (· exact ⟨live_conv (live_whole (live_new _ _ rfl) _ rfl) rfl, below_setCells z0 _ _ _ (hb0.alloc z0 _)⟩); rintro wa ⟨La, hba⟩; have pa := La.1))
  refine gen_world (fun wx => ∃ C, C = wa.heap.size ∧ Live wx w0.heap.size (mach f false 1000) ∧ Live wx C #[.int .i64 4, .int .i64 2, .int .i64 0, .int .i64 0] ∧ Below w.heap.size w wx) ?_ ?_
  · refine ⟨_, rfl, ?_, ?_, ?_⟩
    · (repeat (first | with_reducible assumption | ((with_reducible apply live_new) <;> (first | with_reducible rfl | (focus (simp; done)))) | with_reducible apply live_alloc | with_reducible apply live_drew | with_reducible apply live_drewN | with_reducible apply live_put10 | with_reducible apply live_put8 | with_reducible apply live_put4 | ((with_reducible apply live_put10_other); (case hb => first | omega | (simp; done))) | ((with_reducible apply live_put8_other); (case hb => first | omega | (simp; done))) | ((with_reducible apply live_put4_other); (case hb => first | omega | (simp; done))) | ((with_reducible apply live_set_other); (case hb => first | omega | (simp; done))) | (focus (simp; done))))
    · ((apply live_conv); (· (repeat (first | with_reducible assumption | ((with_reducible apply live_new) <;> (first | with_reducible rfl | (focus (simp; done)))) | with_reducible apply live_alloc | with_reducible apply live_drew | with_reducible apply live_drewN | ((with_reducible apply live_set_other); (case hb => first | omega | (simp; done))) | with_reducible apply live_set_same | (focus (simp; done))))); (· first | rfl | (simp; done)))
    · have := hba.size
      (repeat' (first | with_reducible exact Below.refl _ _ | with_reducible refine Below.drew ?_ | with_reducible refine below_drewN ?_ _ | with_reducible refine Below.alloc ?_ ?_ _ | with_reducible refine Below.setCell ?_ ?_ _ | with_reducible refine Below.trans ?_ (Below.mono (by with_reducible assumption) ?_) | (simp; done) | (simp; omega) | omega))
  rintro wx ⟨C, hC, L, L1, hb⟩
  rw [← hC]
  clear hC
  generalize w0.heap.size = B at *
  have p0 := L.1
  have p1 := L1.1
  have lm := loadM_run (live_rangeAll L)
  obtain ⟨q0, q1, q2, q3⟩ := live_four L1
  go_wp2_with (first | (go_at_call 27; (with_reducible refine (KS.out _).mono ?_); rintro e w1 ⟨rfl, hb1⟩; have z1 := hb1.size; (try simp at z1); have L1a := live_below hb1 (b := B) (by (repeat (first | with_reducible assumption | ((with_reducible apply live_new) <;> (first | with_reducible rfl | (focus (simp; done)))) | with_reducible apply live_alloc | with_reducible apply live_drew | with_reducible apply live_drewN | ((with_reducible apply live_set_other); (case hb => first | omega | (simp; done))) | with_reducible apply live_set_same | (focus (simp; done))))); obtain ⟨p1a, e1a, f1a⟩ := id L1a; have L1b := live_below hb1 (b := C) (by (repeat (first | with_reducible assumption | ((with_reducible apply live_new) <;> (first | with_reducible rfl | (focus (simp; done)))) | with_reducible apply live_alloc | with_reducible apply live_drew | with_reducible apply live_drewN | ((with_reducible apply live_set_other); (case hb => first | omega | (simp; done))) | with_reducible apply live_set_same | (focus (simp; done))))); obtain ⟨p1b, e1b, f1b⟩ := id L1b; clear e1a; have lm1 := loadM_run (live_rangeAll L1a); obtain ⟨q0, q1, q2, q3⟩ := live_four L1b) | (go_at_call 30; (with_reducible refine (KA.out _).mono ?_); rintro e w2 ⟨rfl, hb2⟩; have z2 := hb2.size; (try simp at z2); have L2a := live_below hb2 (b := B) (by (repeat (first | with_reducible assumption | ((with_reducible apply live_new) <;> (first | with_reducible rfl | (focus (simp; done)))) | with_reducible apply live_alloc | with_reducible apply live_drew | with_reducible apply live_drewN | ((with_reducible apply live_set_other); (case hb => first | omega | (simp; done))) | with_reducible apply live_set_same | (focus (simp; done))))); obtain ⟨p2a, e2a, f2a⟩ := id L2a; have L2b := live_below hb2 (b := C) (by (repeat (first | with_reducible assumption | ((with_reducible apply live_new) <;> (first | with_reducible rfl | (focus (simp; done)))) | with_reducible apply live_alloc | with_reducible apply live_drew | with_reducible apply live_drewN | ((with_reducible apply live_set_other); (case hb => first | omega | (simp; done))) | with_reducible apply live_set_same | (focus (simp; done))))); obtain ⟨p2b, e2b, f2b⟩ := id L2b; clear e2a; have lm2 := loadM_run (live_rangeAll L2a); obtain ⟨q0, q1, q2, q3⟩ := live_four L2b) | (go_at_call 32; (with_reducible refine (KJ.out _).mono ?_); rintro e w3 ⟨rfl, hb3⟩; have z3 := hb3.size; (try simp at z3); have L3a := live_below hb3 (b := B) (by (repeat (first | with_reducible assumption | ((with_reducible apply live_new) <;> (first | with_reducible rfl | (focus (simp; done)))) | with_reducible apply live_alloc | with_reducible apply live_drew | with_reducible apply live_drewN | ((with_reducible apply live_set_other); (case hb => first | omega | (simp; done))) | with_reducible apply live_set_same | (focus (simp; done))))); obtain ⟨p3a, e3a, f3a⟩ := id L3a; have L3b := live_below hb3 (b := C) (by (repeat (first | with_reducible assumption | ((with_reducible apply live_new) <;> (first | with_reducible rfl | (focus (simp; done)))) | with_reducible apply live_alloc | with_reducible apply live_drew | with_reducible apply live_drewN | ((with_reducible apply live_set_other); (case hb => first | omega | (simp; done))) | with_reducible apply live_set_same | (focus (simp; done))))); obtain ⟨p3b, e3b, f3b⟩ := id L3b; clear e3a; have lm3 := loadM_run (live_rangeAll L3a); obtain ⟨q0, q1, q2, q3⟩ := live_four L3b) | (go_at_call 27; (with_reducible refine (KT.out _).mono ?_); rintro e w4 ⟨rfl, hb4⟩; have z4 := hb4.size; (try simp at z4); have L4a := live_below hb4 (b := B) (by (repeat (first | with_reducible assumption | ((with_reducible apply live_new) <;> (first | with_reducible rfl | (focus (simp; done)))) | with_reducible apply live_alloc | with_reducible apply live_drew | with_reducible apply live_drewN | ((with_reducible apply live_set_other); (case hb => first | omega | (simp; done))) | with_reducible apply live_set_same | (focus (simp; done))))); obtain ⟨p4a, e4a, f4a⟩ := id L4a; have L4b := live_below hb4 (b := C) (by (repeat (first | with_reducible assumption | ((with_reducible apply live_new) <;> (first | with_reducible rfl | (focus (simp; done)))) | with_reducible apply live_alloc | with_reducible apply live_drew | with_reducible apply live_drewN | ((with_reducible apply live_set_other); (case hb => first | omega | (simp; done))) | with_reducible apply live_set_same | (focus (simp; done))))); obtain ⟨p4b, e4b, f4b⟩ := id L4b; clear e4a; have lm4 := loadM_run (live_rangeAll L4a); obtain ⟨q0, q1, q2, q3⟩ := live_four L4b))
  go_ret
  refine ⟨rfl, ?_⟩
  (repeat' (first | with_reducible exact Below.refl _ _ | with_reducible refine Below.drew ?_ | with_reducible refine below_drewN ?_ _ | with_reducible refine Below.alloc ?_ ?_ _ | with_reducible refine Below.setCell ?_ ?_ _ | with_reducible refine Below.trans ?_ (Below.mono (by with_reducible assumption) ?_) | (simp; done) | (simp; omega) | omega))
end Go.Proofs.Ythodfmmmddfkmaa
