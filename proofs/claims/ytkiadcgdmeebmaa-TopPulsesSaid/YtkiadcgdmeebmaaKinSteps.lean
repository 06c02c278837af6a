/- What Steps and Units return, in the program and in the reference, for all machines and numbers -/
import Derived.Outline
import Derived.Test.YtkiadcgdmeebmaaKinMach
namespace Go.Proofs.Ytkiadcgdmeebmaa
open Go.RowKit
set_option linter.unusedVariables false

attribute [local go_sem] cell_past1 cell_past2 cell_past3 cell_past4 froz_past1 froz_past2 froz_past3

set_option maxRecDepth 100000 in
set_option maxHeartbeats 4000000 in
theorem kin_steps_bad (f : Nat → Int) (x : Bool) (t k p : Int) (w : World) (h : stOk f t k p = false) :
    Calls Try.prog 33 #[.agg (mach f x t), .int .i64 k, .int .i64 p] w fun e w' => e = .returned (.tuple #[.int .i64 0, .int .i64 1]) ∧ Below w.heap.size w w' := by
  go_enter Try.func33, Try.ntmps33
  go_upto_region 1 with (fail)
  refine gen_world (fun wx => Live wx w.heap.size (mach f x t) ∧ Below w.heap.size w wx) ?_ ?_
  · exact ⟨live_new _ _ rfl, by (repeat' (first | with_reducible exact Below.refl _ _ | with_reducible refine Below.drew ?_ | with_reducible refine below_drewN ?_ _ | with_reducible refine Below.alloc ?_ ?_ _ | with_reducible refine Below.setCell ?_ ?_ _ | with_reducible refine Below.trans ?_ (Below.mono (by with_reducible assumption) ?_) | (simp; done) | (simp; omega) | omega))⟩
  · rintro wx ⟨L, hb⟩
    obtain ⟨px, ex, fx⟩ := id L
    have hr := mach_rangeM f x t L
    clear ex fx
    cases hv : kinValid f t
    · have HV := Lib.hid hv
      clear hv h
      go_wp2_with (first | (refine wpList_load_mid rfl 26 _ rfl w.heap.size 0 rfl _ _ hr Try.underlying26 rfl (by kernel_rfl) ?_; rw [mach_back]) | (go_at_call 45; refine (kin_valid_m _ _ _ _).mono ?_; rw [HV.out]; rintro e w1 ⟨rfl, hb1⟩; have z1 := hb1.size; (try simp at z1); have L1a := live_below hb1 (b := w.heap.size) (by (repeat (first | with_reducible assumption | ((with_reducible apply live_new) <;> (first | with_reducible rfl | (focus (simp; done)))) | with_reducible apply live_alloc | with_reducible apply live_drew | with_reducible apply live_drewN | ((with_reducible apply live_set_other); (case hb => first | omega | (simp; done))) | with_reducible apply live_set_same | (focus (simp; done))))); obtain ⟨p1a, e1a, f1a⟩ := id L1a))
      go_ret2
      exact ⟨rfl, hb.trans (hb1.mono (by have := hb.size; omega))⟩
    · have HV := Lib.hid hv
      have h2 : ¬ (0 ≤ k ∧ k < 4 ∧ -1073741824 ≤ p ∧ p ≤ 1073741824) := by
        unfold stOk at h
        rw [hv] at h
        simpa using h
      clear hv h
      by_cases hk0 : k < 0
      · go_wp2_with (first | (refine wpList_load_mid rfl 26 _ rfl w.heap.size 0 rfl _ _ hr Try.underlying26 rfl (by kernel_rfl) ?_; rw [mach_back]) | (go_at_call 45; refine (kin_valid_m _ _ _ _).mono ?_; rw [HV.out]; rintro e w1 ⟨rfl, hb1⟩; have z1 := hb1.size; (try simp at z1); have L1a := live_below hb1 (b := w.heap.size) (by (repeat (first | with_reducible assumption | ((with_reducible apply live_new) <;> (first | with_reducible rfl | (focus (simp; done)))) | with_reducible apply live_alloc | with_reducible apply live_drew | with_reducible apply live_drewN | ((with_reducible apply live_set_other); (case hb => first | omega | (simp; done))) | with_reducible apply live_set_same | (focus (simp; done))))); obtain ⟨p1a, e1a, f1a⟩ := id L1a))
        go_ret2
        exact ⟨rfl, hb.trans (hb1.mono (by have := hb.size; omega))⟩
      by_cases hk4 : 4 ≤ k
      · go_wp2_with (first | (refine wpList_load_mid rfl 26 _ rfl w.heap.size 0 rfl _ _ hr Try.underlying26 rfl (by kernel_rfl) ?_; rw [mach_back]) | (go_at_call 45; refine (kin_valid_m _ _ _ _).mono ?_; rw [HV.out]; rintro e w1 ⟨rfl, hb1⟩; have z1 := hb1.size; (try simp at z1); have L1a := live_below hb1 (b := w.heap.size) (by (repeat (first | with_reducible assumption | ((with_reducible apply live_new) <;> (first | with_reducible rfl | (focus (simp; done)))) | with_reducible apply live_alloc | with_reducible apply live_drew | with_reducible apply live_drewN | ((with_reducible apply live_set_other); (case hb => first | omega | (simp; done))) | with_reducible apply live_set_same | (focus (simp; done))))); obtain ⟨p1a, e1a, f1a⟩ := id L1a))
        go_ret2
        exact ⟨rfl, hb.trans (hb1.mono (by have := hb.size; omega))⟩
      have HP : Hid (witB p 1073741824 = false) := Lib.hid (by unfold witB; simp; omega)
      have hp : p < -1073741824 ∨ 1073741824 < p := by omega
      clear h2
      rcases hp with hp | hp
      all_goals
        go_wp2_with (first | (refine wpList_load_mid rfl 26 _ rfl w.heap.size 0 rfl _ _ hr Try.underlying26 rfl (by kernel_rfl) ?_; rw [mach_back]) | (go_at_call 45; refine (kin_valid_m _ _ _ _).mono ?_; rw [HV.out]; rintro e w1 ⟨rfl, hb1⟩; have z1 := hb1.size; (try simp at z1); have L1a := live_below hb1 (b := w.heap.size) (by (repeat (first | with_reducible assumption | ((with_reducible apply live_new) <;> (first | with_reducible rfl | (focus (simp; done)))) | with_reducible apply live_alloc | with_reducible apply live_drew | with_reducible apply live_drewN | ((with_reducible apply live_set_other); (case hb => first | omega | (simp; done))) | with_reducible apply live_set_same | (focus (simp; done))))); obtain ⟨p1a, e1a, f1a⟩ := id L1a) | (go_at_call 46; refine (kin_within _ _ _ (by decide) (by decide)).mono ?_; rw [HP.out]; rintro e wf ⟨rfl, rfl⟩))
        go_ret2
        exact ⟨rfl, hb.trans (hb1.mono (by have := hb.size; omega))⟩
set_option maxRecDepth 100000 in
set_option maxHeartbeats 4000000 in
theorem kin_steps_ok (f : Nat → Int) (x : Bool) (t k p : Int) (w : World) (h : stOk f t k p = true) :
    Calls Try.prog 33 #[.agg (mach f x t), .int .i64 k, .int .i64 p] w fun e w' => e = .returned (.tuple #[.int .i64 (rnd (p * f (7 * k.toNat)) (f (7 * k.toNat + 1))), .int .i64 0]) ∧ Below w.heap.size w w' := by
  have h2 : kinValid f t = true ∧ 0 ≤ k ∧ k < 4 ∧ -1073741824 ≤ p ∧ p ≤ 1073741824 := by unfold stOk at h; simpa using h
  obtain ⟨hv, k0, k1, p0, p1⟩ := h2
  obtain ⟨K, rfl⟩ : ∃ K : Nat, k = K := ⟨k.toNat, by omega⟩
  have ha := ax_ok f K (kin_axes f t hv K (by omega))
  have hm := mul_bd p (f (7 * K)) 1073741824 65536 p0 p1 (by omega) (by omega) (by omega)
  have hw1 := IntWalk.i64_in (p * f (7 * K)) ⟨by omega, by omega⟩
  have HW := Lib.hid hw1
  clear hw1
  have hd : 1 ≤ f (7 * K + 1) ∧ f (7 * K + 1) ≤ 65536 := by omega
  clear ha
  have HV := Lib.hid hv
  have HP : Hid (witB p 1073741824 = true) := Lib.hid (by unfold witB; simp; omega)
  clear hv h
  simp only [Int.toNat_natCast]
  rcases (by omega : K = 0 ∨ K = 1 ∨ K = 2 ∨ K = 3) with rfl | rfl | rfl | rfl
  all_goals
    simp only [Nat.mul_zero, Nat.mul_one, Nat.zero_add, Nat.reduceMul, Nat.reduceAdd] at hm hd HW ⊢
    go_enter Try.func33, Try.ntmps33
    go_upto_region 1 with (fail)
    refine gen_world (fun wx => Live wx w.heap.size (mach f x t) ∧ Below w.heap.size w wx) ?_ ?_
    · exact ⟨live_new _ _ rfl, by (repeat' (first | with_reducible exact Below.refl _ _ | with_reducible refine Below.drew ?_ | with_reducible refine below_drewN ?_ _ | with_reducible refine Below.alloc ?_ ?_ _ | with_reducible refine Below.setCell ?_ ?_ _ | with_reducible refine Below.trans ?_ (Below.mono (by with_reducible assumption) ?_) | (simp; done) | (simp; omega) | omega))⟩
    · rintro wx ⟨L, hb⟩
      obtain ⟨px, ex, fx⟩ := id L
      have hr := mach_rangeM f x t L
      clear ex fx
      go_wp2_with (first | (refine wpList_load_mid rfl 26 _ rfl w.heap.size 0 rfl _ _ hr Try.underlying26 rfl (by kernel_rfl) ?_; rw [mach_back]) | (go_at_call 45; refine (kin_valid_m _ _ _ _).mono ?_; rw [HV.out]; rintro e w1 ⟨rfl, hb1⟩; have z1 := hb1.size; (try simp at z1); have L1a := live_below hb1 (b := w.heap.size) (by (repeat (first | with_reducible assumption | ((with_reducible apply live_new) <;> (first | with_reducible rfl | (focus (simp; done)))) | with_reducible apply live_alloc | with_reducible apply live_drew | with_reducible apply live_drewN | ((with_reducible apply live_set_other); (case hb => first | omega | (simp; done))) | with_reducible apply live_set_same | (focus (simp; done))))); obtain ⟨p1a, e1a, f1a⟩ := id L1a; clear e1a f1a hr) | (go_at_call 46; refine (kin_within _ _ _ (by decide) (by decide)).mono ?_; rw [HP.out]; rintro e wf ⟨rfl, rfl⟩))
      have c0 := L1a.2.1 0
      have c1 := L1a.2.1 1
      have c7 := L1a.2.1 7
      have c8 := L1a.2.1 8
      have c14 := L1a.2.1 14
      have c15 := L1a.2.1 15
      have c21 := L1a.2.1 21
      have c22 := L1a.2.1 22
      rw [mach_0] at c0
      rw [mach_1] at c1
      rw [mach_7] at c7
      rw [mach_8] at c8
      rw [mach_14] at c14
      rw [mach_15] at c15
      rw [mach_21] at c21
      rw [mach_22] at c22
      have HB := Lib.hid (hb.trans (hb1.mono (by have := hb.size; omega)))
      have hw1 := HW.out
      go_quiet ((go_at_call 47; exact Calls.quiet_of_same (num_round_q _ _ _ (by clear hw1; omega) (by clear hw1; omega) (by clear hw1; omega) (by clear hw1; omega))))
      all_goals go_wp2_with fail
      all_goals go_ret2
      all_goals exact ⟨rfl, by (repeat' (first | with_reducible exact Below.refl _ _ | with_reducible refine Below.drew ?_ | with_reducible refine below_drewN ?_ _ | with_reducible refine Below.alloc ?_ ?_ _ | with_reducible refine Below.setCell ?_ ?_ _ | with_reducible refine Below.trans ?_ (Below.mono (by with_reducible assumption) ?_) | (simp; done) | (simp; omega) | omega))⟩


theorem kin_steps (f : Nat → Int) (x : Bool) (t k p : Int) (w : World) :
    Calls Try.prog 33 #[.agg (mach f x t), .int .i64 k, .int .i64 p] w fun e w' => e = .returned (.tuple #[.int .i64 (stV f t k p), .int .i64 (stE f t k p)]) ∧ Below w.heap.size w w' := by
  cases h : stOk f t k p
  · have k := kin_steps_bad f x t k p w h
    unfold stV stE
    rw [h]
    exact k
  · have k := kin_steps_ok f x t k p w h
    unfold stV stE
    rw [h]
    exact k

end Go.Proofs.Ytkiadcgdmeebmaa
