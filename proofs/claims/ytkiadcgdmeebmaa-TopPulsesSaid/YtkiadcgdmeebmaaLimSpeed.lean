/- limits.Speed -/
import Derived.Deep.RegionHeld3
import Derived.Deep.RegionWith
import Derived.RegionTactic
import Derived.BigRegion
import Derived.Test.YtkiadcgdmeebmaaLimFold
namespace Go.Proofs.Ytkiadcgdmeebmaa
open Go.RowKit
set_option linter.unusedVariables false

attribute [local go_sem] cell_past1 cell_past2 cell_past3 cell_past4 froz_past1 froz_past2 froz_past3

set_option maxRecDepth 100000 in
set_option maxHeartbeats 8000000 in
theorem lim_speed_f (f : Nat → Int) (x : Bool) (t a b c d len feed : Int) (w : World) (h : (ddaValid a b c d && kinValid f t) = false) :
    Calls Try.prog 18 #[.agg (mach f x t), .agg #[.int .i64 a, .int .i64 b, .int .i64 c, .int .i64 d], .int .i64 len, .int .i64 feed] w fun e w' => e = .returned (.int .i64 0) ∧ Below w.heap.size w w' := by
  have KV := Lib.hid (fun g w h => lim_valid1 f x t a b c d g w h)
  rw [h] at KV
  clear h
  go_enter Try.func18, Try.ntmps18
  go_upto_region 1 with (fail)
  refine gen_world (fun wx => Live wx w.heap.size (mach f x t) ∧ Live wx (w.heap.size + 1) #[.int .i64 a, .int .i64 b, .int .i64 c, .int .i64 d] ∧ w.heap.size < wx.heap.size ∧ w.heap.size + 1 < wx.heap.size ∧ Below w.heap.size w wx) ?_ ?_
  · refine ⟨live_alloc (live_new _ _ rfl) _, live_new _ _ (by simp), ?_, ?_, ?_⟩
    · simp; omega
    · simp
    · (repeat' (first | with_reducible exact Below.refl _ _ | with_reducible refine Below.drew ?_ | with_reducible refine below_drewN ?_ _ | with_reducible refine Below.alloc ?_ ?_ _ | with_reducible refine Below.setCell ?_ ?_ _ | with_reducible refine Below.trans ?_ (Below.mono (by with_reducible assumption) ?_) | (simp; done) | (simp; omega) | omega))
  rintro wx ⟨L, L1, p0, p1, hb⟩
  obtain ⟨q0, q1, q2, q3⟩ := live_four L1
  go_wp2_with (first | ((with_reducible refine wpList_load_in (ty := 26) w.heap.size 0 (mach f x t) ?_ ?_ Try.underlying26 ?_ ?_ ?_); (· rfl); (· refine live_rangeAll ?_; (repeat (first | with_reducible assumption | ((with_reducible apply live_new) <;> (first | with_reducible rfl | (focus (simp; done)))) | with_reducible apply live_alloc | with_reducible apply live_drew | with_reducible apply live_drewN | ((with_reducible apply live_set_other); (case hb => first | omega | (simp; done))) | with_reducible apply live_set_same | (focus (simp; done))))); (· rfl); (· kernel_rfl)) | (go_at_call 34; refine (KV.out _ _ ?_).mono ?_; (· (repeat (first | with_reducible assumption | ((with_reducible apply live_new) <;> (first | with_reducible rfl | (focus (simp; done)))) | with_reducible apply live_alloc | with_reducible apply live_drew | with_reducible apply live_drewN | ((with_reducible apply live_set_other); (case hb => first | omega | (simp; done))) | with_reducible apply live_set_same | (focus (simp; done))))); rintro e w1 ⟨rfl, hb1⟩; have z1 := hb1.size; (try simp at z1); have L1a := live_below hb1 (b := w.heap.size) (by (repeat (first | with_reducible assumption | ((with_reducible apply live_new) <;> (first | with_reducible rfl | (focus (simp; done)))) | with_reducible apply live_alloc | with_reducible apply live_drew | with_reducible apply live_drewN | ((with_reducible apply live_set_other); (case hb => first | omega | (simp; done))) | with_reducible apply live_set_same | (focus (simp; done))))); obtain ⟨p1a, e1a, f1a⟩ := id L1a; have L1b := live_below hb1 (b := w.heap.size + 1) (by (repeat (first | with_reducible assumption | ((with_reducible apply live_new) <;> (first | with_reducible rfl | (focus (simp; done)))) | with_reducible apply live_alloc | with_reducible apply live_drew | with_reducible apply live_drewN | ((with_reducible apply live_set_other); (case hb => first | omega | (simp; done))) | with_reducible apply live_set_same | (focus (simp; done))))); obtain ⟨p1b, e1b, f1b⟩ := id L1b; clear e1a; obtain ⟨r0, r1, r2, r3⟩ := live_four L1b))
  go_ret
  refine ⟨rfl, ?_⟩
  (repeat' (first | with_reducible exact Below.refl _ _ | with_reducible refine Below.drew ?_ | with_reducible refine below_drewN ?_ _ | with_reducible refine Below.alloc ?_ ?_ _ | with_reducible refine Below.setCell ?_ ?_ _ | with_reducible refine Below.trans ?_ (Below.mono (by with_reducible assumption) ?_) | (simp; done) | (simp; omega) | omega))
set_option maxRecDepth 100000 in
set_option maxHeartbeats 8000000 in
theorem lim_speed_t (f : Nat → Int) (x : Bool) (t a b c d len feed : Int) (w : World) (hz : kinValid f t = true) (hv : ddaValid a b c d = true) (hlen : -9223372036854775808 ≤ len ∧ len ≤ 9223372036854775807) (hfeed : -9223372036854775808 ≤ feed ∧ feed ≤ 9223372036854775807) :
    Calls Try.prog 18 #[.agg (mach f x t), .agg #[.int .i64 a, .int .i64 b, .int .i64 c, .int .i64 d], .int .i64 len, .int .i64 feed] w fun e w' => e = .returned (.int .i64 (spdV (limK 2 f (ddaDom a b c d) 1048576 a b c d 4) (ddaDom a b c d) len feed)) ∧ Below w.heap.size w w' := by
  have hb4 : (-16777216 ≤ a ∧ a ≤ 16777216) ∧ (-16777216 ≤ b ∧ b ≤ 16777216) ∧ (-16777216 ≤ c ∧ c ≤ 16777216) ∧ (-16777216 ≤ d ∧ d ≤ 16777216) := by
    have := hv; simp [ddaValid] at this; omega
  have hn := ddaDom_in a b c d
  have hax := acc_facts f t hz
  have hK := limK_in 2 f (ddaDom a b c d) 1048576 a b c d (fun k hk => (hax k hk).1.1) hn.1 (by decide)
  have HP := Lib.hid (limK_pos 2 f (ddaDom a b c d) 1048576 a b c d (fun k hk => (acc_pos f t hz k hk).1) (fun k hk => dom_ge a b c d hv k hk) (by decide) 4 (by omega))
  have KV := Lib.hid (fun g w h => lim_valid1 f x t a b c d g w h)
  rw [hz, hv] at KV
  have KD := Lib.hid (fun w => dda_dom a b c d w)
  generalize ddaDom a b c d = n at *
  have HB := Lib.hid hb4
  have HN := Lib.hid hn
  have HA := Lib.hid hax
  have HK := Lib.hid hK
  clear hb4 hn hax hK hz hv
  have HLE := Lib.hid hlen
  have HFE := Lib.hid hfeed
  clear hlen hfeed
  go_enter Try.func18, Try.ntmps18
  go_upto_region 1 with (fail)
  refine gen_world (fun wx => Live wx w.heap.size (mach f x t) ∧ Live wx (w.heap.size + 1) #[.int .i64 a, .int .i64 b, .int .i64 c, .int .i64 d] ∧ w.heap.size < wx.heap.size ∧ w.heap.size + 1 < wx.heap.size ∧ Below w.heap.size w wx) ?_ ?_
  · refine ⟨live_alloc (live_new _ _ rfl) _, live_new _ _ (by simp), ?_, ?_, ?_⟩
    · simp; omega
    · simp
    · (repeat' (first | with_reducible exact Below.refl _ _ | with_reducible refine Below.drew ?_ | with_reducible refine below_drewN ?_ _ | with_reducible refine Below.alloc ?_ ?_ _ | with_reducible refine Below.setCell ?_ ?_ _ | with_reducible refine Below.trans ?_ (Below.mono (by with_reducible assumption) ?_) | (simp; done) | (simp; omega) | omega))
  rintro wx ⟨L, L1, p0, p1, hb⟩
  obtain ⟨q0, q1, q2, q3⟩ := live_four L1
  go_wp2_with (first | ((with_reducible refine wpList_load_in (ty := 26) w.heap.size 0 (mach f x t) ?_ ?_ Try.underlying26 ?_ ?_ ?_); (· rfl); (· refine live_rangeAll ?_; (repeat (first | with_reducible assumption | ((with_reducible apply live_new) <;> (first | with_reducible rfl | (focus (simp; done)))) | with_reducible apply live_alloc | with_reducible apply live_drew | with_reducible apply live_drewN | ((with_reducible apply live_set_other); (case hb => first | omega | (simp; done))) | with_reducible apply live_set_same | (focus (simp; done))))); (· rfl); (· kernel_rfl)) | (go_at_call 34; refine (KV.out _ _ ?_).mono ?_; (· (repeat (first | with_reducible assumption | ((with_reducible apply live_new) <;> (first | with_reducible rfl | (focus (simp; done)))) | with_reducible apply live_alloc | with_reducible apply live_drew | with_reducible apply live_drewN | ((with_reducible apply live_set_other); (case hb => first | omega | (simp; done))) | with_reducible apply live_set_same | (focus (simp; done))))); rintro e w1 ⟨rfl, hb1⟩; have z1 := hb1.size; (try simp at z1); have L1a := live_below hb1 (b := w.heap.size) (by (repeat (first | with_reducible assumption | ((with_reducible apply live_new) <;> (first | with_reducible rfl | (focus (simp; done)))) | with_reducible apply live_alloc | with_reducible apply live_drew | with_reducible apply live_drewN | ((with_reducible apply live_set_other); (case hb => first | omega | (simp; done))) | with_reducible apply live_set_same | (focus (simp; done))))); obtain ⟨p1a, e1a, f1a⟩ := id L1a; have L1b := live_below hb1 (b := w.heap.size + 1) (by (repeat (first | with_reducible assumption | ((with_reducible apply live_new) <;> (first | with_reducible rfl | (focus (simp; done)))) | with_reducible apply live_alloc | with_reducible apply live_drew | with_reducible apply live_drewN | ((with_reducible apply live_set_other); (case hb => first | omega | (simp; done))) | with_reducible apply live_set_same | (focus (simp; done))))); obtain ⟨p1b, e1b, f1b⟩ := id L1b; clear e1a; obtain ⟨r0, r1, r2, r3⟩ := live_four L1b) | (go_at_call 29; refine (KD.out _).mono ?_; rintro e w2 ⟨rfl, rfl⟩))
  go_loopw [19, 10] (ARel 2 f x t n 1048576 a b c d w) (fun i _ _ => 4 - (intOf i).toNat)
  case atStart =>
    refine ⟨0, rfl, by omega, rfl, ?_, ?_, ?_⟩
    · (repeat (first | with_reducible assumption | ((with_reducible apply live_new) <;> (first | with_reducible rfl | (focus (simp; done)))) | with_reducible apply live_alloc | with_reducible apply live_drew | with_reducible apply live_drewN | ((with_reducible apply live_set_other); (case hb => first | omega | (simp; done))) | with_reducible apply live_set_same | (focus (simp; done))))
    · (repeat (first | with_reducible assumption | ((with_reducible apply live_new) <;> (first | with_reducible rfl | (focus (simp; done)))) | with_reducible apply live_alloc | with_reducible apply live_drew | with_reducible apply live_drewN | ((with_reducible apply live_set_other); (case hb => first | omega | (simp; done))) | with_reducible apply live_set_same | (focus (simp; done))))
    · (repeat' (first | with_reducible exact Below.refl _ _ | with_reducible refine Below.drew ?_ | with_reducible refine below_drewN ?_ _ | with_reducible refine Below.alloc ?_ ?_ _ | with_reducible refine Below.setCell ?_ ?_ _ | with_reducible refine Below.trans ?_ (Below.mono (by with_reducible assumption) ?_) | (simp; done) | (simp; omega) | omega))
  case round =>
    obtain ⟨k, rfl, hk, rfl, L, L1, hb⟩ := hrel
    obtain ⟨q0, q1, q2, q3⟩ := live_four L1
    have p0 := L.1
    have p1 := L1.1
    rcases (by omega : k = 0 ∨ k = 1 ∨ k = 2 ∨ k = 3 ∨ k = 4) with rfl | rfl | rfl | rfl | rfl
    · by_cases h0 : a = 0
      · have e : limK 2 f n 1048576 a b c d 1 = limK 2 f n 1048576 a b c d 0 := by show lim1 _ _ _ (limC a b c d 0) = _; unfold lim1; exact if_pos h0
        have E := Lib.hid e
        clear e
        generalize limK 2 f n 1048576 a b c d 0 = V at *
        go_wp2_with fail
        go_roundw
        case rel => exact ⟨1, by go_num, by omega, by rw [E.out], L, L1, hb⟩
        case measure => first | (simp [intOf]; done) | (simp [intOf]; omega)
      · have e : limK 2 f n 1048576 a b c d 1 = lesser (limK 2 f n 1048576 a b c d 0) (f 2) n (ab a) := by show lim1 _ _ _ (limC a b c d 0) = _; unfold lim1; exact if_neg h0
        have KS := Lib.hid (fun w => lim_size a w (by have := HB.out; omega))
        have KB := Lib.hid (fun w => lim_bounded (f 2) n (ab a) (limK 2 f n 1048576 a b c d 0) w (by have h : 0 ≤ f 2 ∧ f 2 ≤ 1048576 := (HA.out 0 (by omega)).1; omega) (by have := HN.out; omega) (by have := HB.out; unfold ab; omega) (by have := HK.out 0 (by omega); omega))
        rw [← e] at KB
        clear e
        generalize limK 2 f n 1048576 a b c d 0 = V at *
        generalize ab a = S at *
        obtain ⟨u0, u1, u2, u3, u4, u5, u6⟩ := mach_ax0 f x t L
        go_upto_region 8 with (fail)
        go_region_held3 (fun w' => w'.cell? ⟨w.heap.size, 2, none⟩ = some (.int .i64 (f 2)) ∧ w'.cell? ⟨w.heap.size + 1, 0, none⟩ = some (.int .i64 a)) (first | (focus (exact ⟨y2, o0⟩; done)) | go_keep)
          (first | (go_at_call 36; (with_reducible refine (KS.out _).mono ?_); rintro e w1 ⟨rfl, rfl⟩) | (go_at_call 35; (with_reducible refine (KB.out _).mono ?_); rintro e w1 ⟨rfl, hb1⟩; have z1 := hb1.size; (try simp at z1); have L1a := live_below hb1 (b := w.heap.size) (by (repeat (first | with_reducible assumption | ((with_reducible apply live_new) <;> (first | with_reducible rfl | (focus (simp; done)))) | with_reducible apply live_alloc | with_reducible apply live_drew | with_reducible apply live_drewN | ((with_reducible apply live_set_other); (case hb => first | omega | (simp; done))) | with_reducible apply live_set_same | (focus (simp; done))))); obtain ⟨p1a, e1a, f1a⟩ := id L1a; have L1b := live_below hb1 (b := w.heap.size + 1) (by (repeat (first | with_reducible assumption | ((with_reducible apply live_new) <;> (first | with_reducible rfl | (focus (simp; done)))) | with_reducible apply live_alloc | with_reducible apply live_drew | with_reducible apply live_drewN | ((with_reducible apply live_set_other); (case hb => first | omega | (simp; done))) | with_reducible apply live_set_same | (focus (simp; done))))); obtain ⟨p1b, e1b, f1b⟩ := id L1b; clear e1a; obtain ⟨y0, y1, y2, y3, y4, y5, y6⟩ := mach_ax0 f x t L1a; obtain ⟨o0, o1, o2, o3⟩ := live_four L1b))
        all_goals (try go_wp2_with fail)
        all_goals go_roundw
        all_goals first | (case rel => exact ⟨1, by go_num, by omega, rfl, L1a, L1b, by (repeat' (first | with_reducible exact Below.refl _ _ | with_reducible refine Below.drew ?_ | with_reducible refine below_drewN ?_ _ | with_reducible refine Below.alloc ?_ ?_ _ | with_reducible refine Below.setCell ?_ ?_ _ | with_reducible refine Below.trans ?_ (Below.mono (by with_reducible assumption) ?_) | (simp; done) | (simp; omega) | omega))⟩) | (case measure => first | (simp [intOf]; done) | (simp [intOf]; omega))
    · by_cases h0 : b = 0
      · have e : limK 2 f n 1048576 a b c d 2 = limK 2 f n 1048576 a b c d 1 := by show lim1 _ _ _ (limC a b c d 1) = _; unfold lim1; exact if_pos h0
        have E := Lib.hid e
        clear e
        generalize limK 2 f n 1048576 a b c d 1 = V at *
        go_wp2_with fail
        go_roundw
        case rel => exact ⟨2, by go_num, by omega, by rw [E.out], L, L1, hb⟩
        case measure => first | (simp [intOf]; done) | (simp [intOf]; omega)
      · have e : limK 2 f n 1048576 a b c d 2 = lesser (limK 2 f n 1048576 a b c d 1) (f 9) n (ab b) := by show lim1 _ _ _ (limC a b c d 1) = _; unfold lim1; exact if_neg h0
        have KS := Lib.hid (fun w => lim_size b w (by have := HB.out; omega))
        have KB := Lib.hid (fun w => lim_bounded (f 9) n (ab b) (limK 2 f n 1048576 a b c d 1) w (by have h : 0 ≤ f 9 ∧ f 9 ≤ 1048576 := (HA.out 1 (by omega)).1; omega) (by have := HN.out; omega) (by have := HB.out; unfold ab; omega) (by have := HK.out 1 (by omega); omega))
        rw [← e] at KB
        clear e
        generalize limK 2 f n 1048576 a b c d 1 = V at *
        generalize ab b = S at *
        obtain ⟨u0, u1, u2, u3, u4, u5, u6⟩ := mach_ax1 f x t L
        go_upto_region 8 with (fail)
        go_region_held3 (fun w' => w'.cell? ⟨w.heap.size, 9, none⟩ = some (.int .i64 (f 9)) ∧ w'.cell? ⟨w.heap.size + 1, 1, none⟩ = some (.int .i64 b)) (first | (focus (exact ⟨y2, o1⟩; done)) | go_keep)
          (first | (go_at_call 36; (with_reducible refine (KS.out _).mono ?_); rintro e w1 ⟨rfl, rfl⟩) | (go_at_call 35; (with_reducible refine (KB.out _).mono ?_); rintro e w1 ⟨rfl, hb1⟩; have z1 := hb1.size; (try simp at z1); have L1a := live_below hb1 (b := w.heap.size) (by (repeat (first | with_reducible assumption | ((with_reducible apply live_new) <;> (first | with_reducible rfl | (focus (simp; done)))) | with_reducible apply live_alloc | with_reducible apply live_drew | with_reducible apply live_drewN | ((with_reducible apply live_set_other); (case hb => first | omega | (simp; done))) | with_reducible apply live_set_same | (focus (simp; done))))); obtain ⟨p1a, e1a, f1a⟩ := id L1a; have L1b := live_below hb1 (b := w.heap.size + 1) (by (repeat (first | with_reducible assumption | ((with_reducible apply live_new) <;> (first | with_reducible rfl | (focus (simp; done)))) | with_reducible apply live_alloc | with_reducible apply live_drew | with_reducible apply live_drewN | ((with_reducible apply live_set_other); (case hb => first | omega | (simp; done))) | with_reducible apply live_set_same | (focus (simp; done))))); obtain ⟨p1b, e1b, f1b⟩ := id L1b; clear e1a; obtain ⟨y0, y1, y2, y3, y4, y5, y6⟩ := mach_ax1 f x t L1a; obtain ⟨o0, o1, o2, o3⟩ := live_four L1b))
        all_goals (try go_wp2_with fail)
        all_goals go_roundw
        all_goals first | (case rel => exact ⟨2, by go_num, by omega, rfl, L1a, L1b, by (repeat' (first | with_reducible exact Below.refl _ _ | with_reducible refine Below.drew ?_ | with_reducible refine below_drewN ?_ _ | with_reducible refine Below.alloc ?_ ?_ _ | with_reducible refine Below.setCell ?_ ?_ _ | with_reducible refine Below.trans ?_ (Below.mono (by with_reducible assumption) ?_) | (simp; done) | (simp; omega) | omega))⟩) | (case measure => first | (simp [intOf]; done) | (simp [intOf]; omega))
    · by_cases h0 : c = 0
      · have e : limK 2 f n 1048576 a b c d 3 = limK 2 f n 1048576 a b c d 2 := by show lim1 _ _ _ (limC a b c d 2) = _; unfold lim1; exact if_pos h0
        have E := Lib.hid e
        clear e
        generalize limK 2 f n 1048576 a b c d 2 = V at *
        go_wp2_with fail
        go_roundw
        case rel => exact ⟨3, by go_num, by omega, by rw [E.out], L, L1, hb⟩
        case measure => first | (simp [intOf]; done) | (simp [intOf]; omega)
      · have e : limK 2 f n 1048576 a b c d 3 = lesser (limK 2 f n 1048576 a b c d 2) (f 16) n (ab c) := by show lim1 _ _ _ (limC a b c d 2) = _; unfold lim1; exact if_neg h0
        have KS := Lib.hid (fun w => lim_size c w (by have := HB.out; omega))
        have KB := Lib.hid (fun w => lim_bounded (f 16) n (ab c) (limK 2 f n 1048576 a b c d 2) w (by have h : 0 ≤ f 16 ∧ f 16 ≤ 1048576 := (HA.out 2 (by omega)).1; omega) (by have := HN.out; omega) (by have := HB.out; unfold ab; omega) (by have := HK.out 2 (by omega); omega))
        rw [← e] at KB
        clear e
        generalize limK 2 f n 1048576 a b c d 2 = V at *
        generalize ab c = S at *
        obtain ⟨u0, u1, u2, u3, u4, u5, u6⟩ := mach_ax2 f x t L
        go_upto_region 8 with (fail)
        go_region_held3 (fun w' => w'.cell? ⟨w.heap.size, 16, none⟩ = some (.int .i64 (f 16)) ∧ w'.cell? ⟨w.heap.size + 1, 2, none⟩ = some (.int .i64 c)) (first | (focus (exact ⟨y2, o2⟩; done)) | go_keep)
          (first | (go_at_call 36; (with_reducible refine (KS.out _).mono ?_); rintro e w1 ⟨rfl, rfl⟩) | (go_at_call 35; (with_reducible refine (KB.out _).mono ?_); rintro e w1 ⟨rfl, hb1⟩; have z1 := hb1.size; (try simp at z1); have L1a := live_below hb1 (b := w.heap.size) (by (repeat (first | with_reducible assumption | ((with_reducible apply live_new) <;> (first | with_reducible rfl | (focus (simp; done)))) | with_reducible apply live_alloc | with_reducible apply live_drew | with_reducible apply live_drewN | ((with_reducible apply live_set_other); (case hb => first | omega | (simp; done))) | with_reducible apply live_set_same | (focus (simp; done))))); obtain ⟨p1a, e1a, f1a⟩ := id L1a; have L1b := live_below hb1 (b := w.heap.size + 1) (by (repeat (first | with_reducible assumption | ((with_reducible apply live_new) <;> (first | with_reducible rfl | (focus (simp; done)))) | with_reducible apply live_alloc | with_reducible apply live_drew | with_reducible apply live_drewN | ((with_reducible apply live_set_other); (case hb => first | omega | (simp; done))) | with_reducible apply live_set_same | (focus (simp; done))))); obtain ⟨p1b, e1b, f1b⟩ := id L1b; clear e1a; obtain ⟨y0, y1, y2, y3, y4, y5, y6⟩ := mach_ax2 f x t L1a; obtain ⟨o0, o1, o2, o3⟩ := live_four L1b))
        all_goals (try go_wp2_with fail)
        all_goals go_roundw
        all_goals first | (case rel => exact ⟨3, by go_num, by omega, rfl, L1a, L1b, by (repeat' (first | with_reducible exact Below.refl _ _ | with_reducible refine Below.drew ?_ | with_reducible refine below_drewN ?_ _ | with_reducible refine Below.alloc ?_ ?_ _ | with_reducible refine Below.setCell ?_ ?_ _ | with_reducible refine Below.trans ?_ (Below.mono (by with_reducible assumption) ?_) | (simp; done) | (simp; omega) | omega))⟩) | (case measure => first | (simp [intOf]; done) | (simp [intOf]; omega))
    · by_cases h0 : d = 0
      · have e : limK 2 f n 1048576 a b c d 4 = limK 2 f n 1048576 a b c d 3 := by show lim1 _ _ _ (limC a b c d 3) = _; unfold lim1; exact if_pos h0
        have E := Lib.hid e
        clear e
        generalize limK 2 f n 1048576 a b c d 3 = V at *
        go_wp2_with fail
        go_roundw
        case rel => exact ⟨4, by go_num, by omega, by rw [E.out], L, L1, hb⟩
        case measure => first | (simp [intOf]; done) | (simp [intOf]; omega)
      · have e : limK 2 f n 1048576 a b c d 4 = lesser (limK 2 f n 1048576 a b c d 3) (f 23) n (ab d) := by show lim1 _ _ _ (limC a b c d 3) = _; unfold lim1; exact if_neg h0
        have KS := Lib.hid (fun w => lim_size d w (by have := HB.out; omega))
        have KB := Lib.hid (fun w => lim_bounded (f 23) n (ab d) (limK 2 f n 1048576 a b c d 3) w (by have h : 0 ≤ f 23 ∧ f 23 ≤ 1048576 := (HA.out 3 (by omega)).1; omega) (by have := HN.out; omega) (by have := HB.out; unfold ab; omega) (by have := HK.out 3 (by omega); omega))
        rw [← e] at KB
        clear e
        generalize limK 2 f n 1048576 a b c d 3 = V at *
        generalize ab d = S at *
        obtain ⟨u0, u1, u2, u3, u4, u5, u6⟩ := mach_ax3 f x t L
        go_upto_region 8 with (fail)
        go_region_held3 (fun w' => w'.cell? ⟨w.heap.size, 23, none⟩ = some (.int .i64 (f 23)) ∧ w'.cell? ⟨w.heap.size + 1, 3, none⟩ = some (.int .i64 d)) (first | (focus (exact ⟨y2, o3⟩; done)) | go_keep)
          (first | (go_at_call 36; (with_reducible refine (KS.out _).mono ?_); rintro e w1 ⟨rfl, rfl⟩) | (go_at_call 35; (with_reducible refine (KB.out _).mono ?_); rintro e w1 ⟨rfl, hb1⟩; have z1 := hb1.size; (try simp at z1); have L1a := live_below hb1 (b := w.heap.size) (by (repeat (first | with_reducible assumption | ((with_reducible apply live_new) <;> (first | with_reducible rfl | (focus (simp; done)))) | with_reducible apply live_alloc | with_reducible apply live_drew | with_reducible apply live_drewN | ((with_reducible apply live_set_other); (case hb => first | omega | (simp; done))) | with_reducible apply live_set_same | (focus (simp; done))))); obtain ⟨p1a, e1a, f1a⟩ := id L1a; have L1b := live_below hb1 (b := w.heap.size + 1) (by (repeat (first | with_reducible assumption | ((with_reducible apply live_new) <;> (first | with_reducible rfl | (focus (simp; done)))) | with_reducible apply live_alloc | with_reducible apply live_drew | with_reducible apply live_drewN | ((with_reducible apply live_set_other); (case hb => first | omega | (simp; done))) | with_reducible apply live_set_same | (focus (simp; done))))); obtain ⟨p1b, e1b, f1b⟩ := id L1b; clear e1a; obtain ⟨y0, y1, y2, y3, y4, y5, y6⟩ := mach_ax3 f x t L1a; obtain ⟨o0, o1, o2, o3⟩ := live_four L1b))
        all_goals (try go_wp2_with fail)
        all_goals go_roundw
        all_goals first | (case rel => exact ⟨4, by go_num, by omega, rfl, L1a, L1b, by (repeat' (first | with_reducible exact Below.refl _ _ | with_reducible refine Below.drew ?_ | with_reducible refine below_drewN ?_ _ | with_reducible refine Below.alloc ?_ ?_ _ | with_reducible refine Below.setCell ?_ ?_ _ | with_reducible refine Below.trans ?_ (Below.mono (by with_reducible assumption) ?_) | (simp; done) | (simp; omega) | omega))⟩) | (case measure => first | (simp [intOf]; done) | (simp [intOf]; omega))
    · have hV := HK.out 4 (by omega)
      generalize hVe : limK 2 f n 1048576 a b c d 4 = V at *
      have HV := Lib.hid hV
      have HVE := Lib.hid hVe
      clear hVe
      clear hV
      have hmn := @run_min2 Try.prog
      have hmx := @run_max2 Try.prog
      by_cases hl : 0 < len
      · by_cases hf : 0 < feed
        · have KB := Lib.hid (fun w => lim_bounded feed n len V w (by have := HFE.out; omega) (by have := HN.out; omega) (by have := HLE.out; omega) (by have := HV.out; omega))
          have E : Hid (spdV V n len feed = min V (max 1 (lesser V feed n len))) := Lib.hid (by unfold spdV; rw [if_pos ⟨hl, hf⟩])
          have HE : Hid (lesser V feed n len ≤ V) := Lib.hid (by unfold lesser; omega)
          generalize lesser V feed n len = Z at *
          rcases Int.lt_or_le Z 1 with hz | hz
          all_goals go_wp2_with (go_at_call 35; refine (KB.out _).mono ?_; rintro e w1 ⟨rfl, hb1⟩; have z1 := hb1.size; (try simp at z1))
          all_goals go_ret
          all_goals refine ⟨ret_int ?_, ?_⟩
          all_goals first | (rw [HVE.out]; have := E.out; have := HE.out; have := HP.out; have := HVE.out; omega) | (repeat' (first | with_reducible exact Below.refl _ _ | with_reducible refine Below.drew ?_ | with_reducible refine below_drewN ?_ _ | with_reducible refine Below.alloc ?_ ?_ _ | with_reducible refine Below.setCell ?_ ?_ _ | with_reducible refine Below.trans ?_ (Below.mono (by with_reducible assumption) ?_) | (simp; done) | (simp; omega) | omega))
        · have E : Hid (spdV V n len feed = V) := Lib.hid (by unfold spdV; rw [if_neg (by omega)])
          go_wp2_with fail
          go_ret
          exact ⟨ret_int (by rw [HVE.out]; exact E.out.symm), hb⟩
      · have E : Hid (spdV V n len feed = V) := Lib.hid (by unfold spdV; rw [if_neg (by omega)])
        go_wp2_with fail
        go_ret
        exact ⟨ret_int (by rw [HVE.out]; exact E.out.symm), hb⟩
end Go.Proofs.Ytkiadcgdmeebmaa
