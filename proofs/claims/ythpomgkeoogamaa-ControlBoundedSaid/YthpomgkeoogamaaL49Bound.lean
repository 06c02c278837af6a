/- ControlBounded: a valid controller stays valid and changes only its sum, the duty is in its range, and zero where the chapter says so, for all controllers and readings -/
import Derived.Deep.RegionWith
import Derived.Test.YthpomgkeoogamaaBase
import Derived.Test.YthpomgkeoogamaaL49Awake
namespace Go.Proofs.Ythpomgkeoogamaa.controlBounded
open Go.ChangeShapes Go.WideShapes Go.ChangeAt Go.RowKit

theorem facts (t kp ki sc su li r : Int) (hv : ctlValid t kp ki sc su li = true) :
    ctlValid t kp ki sc (ctlSum2 t kp ki sc su li r) li = true ∧ 0 ≤ ctlDuty2 t kp ki sc su li r ∧ ctlDuty2 t kp ki sc su li r ≤ 255 ∧ (t = 0 → ctlDuty2 t kp ki sc su li r = 0) ∧ (li < kp * (r - t) → ctlDuty2 t kp ki sc su li r = 0) := by
  have hc : 0 ≤ t ∧ t ≤ 400000 ∧ 0 ≤ kp ∧ kp ≤ 1048576 ∧ 0 ≤ ki ∧ ki ≤ 1048576 ∧ 1 ≤ sc ∧ sc ≤ 1073741824 ∧ 0 ≤ li ∧ li ≤ 1099511627776 ∧ 0 ≤ su ∧ su ≤ li := by simpa [ctlValid] using hv
  have hs : 0 ≤ ctlSum2 t kp ki sc su li r ∧ ctlSum2 t kp ki sc su li r ≤ li := by
    unfold ctlSum2 ctlSum
    split
    · split <;> omega
    · omega
  refine ⟨by simp [ctlValid]; omega, ?_, ?_, ?_, ?_⟩
  · unfold ctlDuty2 ctlDuty; split
    · split <;> omega
    · omega
  · unfold ctlDuty2 ctlDuty; split
    · split <;> omega
    · omega
  · intro ht; unfold ctlDuty2; simp [ht]
  · intro hk
    unfold ctlDuty2
    split
    · split
      · rfl
      · unfold ctlDuty
        have h1 : ctlSum t ki su li r ≤ li := by unfold ctlSum; omega
        have h2 : kp * (t - r) = - (kp * (r - t)) := by rw [← Int.mul_neg]; congr 1; omega
        have h3 : (kp * (t - r) + ctlSum t ki su li r) / sc < 0 := Int.ediv_neg_of_neg_of_pos (by omega) (by omega)
        omega
    · rfl

attribute [local go_sem] cell_past1 cell_past2 cell_past3 cell_past4 froz_past1 froz_past2 froz_past3

set_option maxRecDepth 100000 in
set_option maxHeartbeats 4000000 in
theorem walk_bad (t kp ki sc su li r : Int) (w : World) (hv : ctlValid t kp ki sc su li = false) :
    Calls Try.prog 5 #[.agg #[.int .i64 t, .int .i64 kp, .int .i64 ki, .int .i64 sc, .int .i64 su, .int .i64 li], .int .i64 r] w fun e w' => e = .returned (.bool true) ∧ Below w.heap.size w w' := by
  have HV := Lib.hid hv
  clear hv
  go_enter Try.func5, Try.ntmps5
  go_wp2_with (first | (go_at_call 15; refine (control_step_bad _ _ _ _ _ _ _ _ HV.out).mono ?_; rintro e w1 ⟨rfl, hb1⟩; have z1 := hb1.size; (try simp at z1); have L1a := live_below hb1 (b := w.heap.size) (by (repeat (first | with_reducible assumption | ((with_reducible apply live_new) <;> (first | with_reducible rfl | (focus (simp; done)))) | with_reducible apply live_alloc | with_reducible apply live_drew | with_reducible apply live_drewN | ((with_reducible apply live_set_other); (case hb => first | omega | (simp; done))) | with_reducible apply live_set_same | (focus (simp; done))))); obtain ⟨p1a, e1a, f1a⟩ := id L1a) | (go_at_call 18; refine (control_valid _ _ _ _ _ _ _).mono ?_; rw [HV.out]; rintro e wv ⟨rfl, rfl⟩) | (go_at_call 17; refine (law49_awake _).mono ?_; rintro e w9 ⟨rfl, hb9⟩; have z9 := hb9.size; (try simp at z9)))
  all_goals go_ret
  all_goals refine ⟨rfl, ?_⟩
  all_goals (repeat' (first | with_reducible exact Below.refl _ _ | with_reducible refine Below.drew ?_ | with_reducible refine below_drewN ?_ _ | with_reducible refine Below.alloc ?_ ?_ _ | with_reducible refine Below.setCell ?_ ?_ _ | with_reducible refine Below.trans ?_ (Below.mono (by with_reducible assumption) ?_) | (simp; done) | (simp; omega) | omega))

set_option maxRecDepth 100000 in
set_option maxHeartbeats 4000000 in
theorem walk_ok (t kp ki sc su li r : Int) (w : World) (hv : ctlValid t kp ki sc su li = true) :
    Calls Try.prog 5 #[.agg #[.int .i64 t, .int .i64 kp, .int .i64 ki, .int .i64 sc, .int .i64 su, .int .i64 li], .int .i64 r] w fun e w' => e = .returned (.bool true) ∧ Below w.heap.size w w' := by
  obtain ⟨f1, f2, f3, f4, f5⟩ := facts t kp ki sc su li r hv
  have hb : 0 ≤ t ∧ t ≤ 400000 ∧ 0 ≤ kp ∧ kp ≤ 1048576 ∧ 0 ≤ ki ∧ ki ≤ 1048576 ∧ 1 ≤ sc ∧ sc ≤ 1073741824 ∧ 0 ≤ li ∧ li ≤ 1099511627776 ∧ 0 ≤ su ∧ su ≤ li := by simpa [ctlValid] using hv
  obtain ⟨t0, t1, p0, p1, k0, k1, s0, s1, l0, l1, u0, u1⟩ := hb
  have HV := Lib.hid hv
  have HF := Lib.hid f1
  clear hv f1
  generalize hd : ctlDuty2 t kp ki sc su li r = d at *
  generalize hs : ctlSum2 t kp ki sc su li r = s at *
  have HD := Lib.hid hd
  have HS := Lib.hid hs
  clear hd hs
  by_cases hr : -1073741824 ≤ r ∧ r ≤ 1073741824
  · obtain ⟨r0, r1⟩ := hr
    have m2 := mul_in kp 1048576 1074141824 (r - t) p0 p1 (by omega) (by omega) (by omega)
    simp at m2
    by_cases ht : t = 0
    · have h5 := f4 ht
      clear f4 f5
      subst ht
      subst h5
      by_cases hk : li < kp * (r - 0)
      all_goals
        go_enter Try.func5, Try.ntmps5
        go_wp2_with (first | (go_at_call 15; refine (control_step _ _ _ _ _ _ _ _).mono ?_; rw [HD.out, HS.out]; rintro e w1 ⟨rfl, hb1⟩; have z1 := hb1.size; (try simp at z1); have L1a := live_below hb1 (b := w.heap.size) (by (repeat (first | with_reducible assumption | ((with_reducible apply live_new) <;> (first | with_reducible rfl | (focus (simp; done)))) | with_reducible apply live_alloc | with_reducible apply live_drew | with_reducible apply live_drewN | ((with_reducible apply live_set_other); (case hb => first | omega | (simp; done))) | with_reducible apply live_set_same | (focus (simp; done))))); obtain ⟨p1a, e1a, f1a⟩ := id L1a) | (go_at_call 18; refine (control_valid _ _ _ _ _ _ _).mono ?_; rw [HV.out]; rintro e wv ⟨rfl, rfl⟩) | (go_at_call 18; refine (control_valid _ _ _ _ _ _ _).mono ?_; rw [HF.out]; rintro e wv ⟨rfl, rfl⟩) | (go_at_call 17; refine (law49_awake _).mono ?_; rintro e w9 ⟨rfl, hb9⟩; have z9 := hb9.size; (try simp at z9)))
        all_goals go_ret
        all_goals refine ⟨rfl, ?_⟩
        all_goals (repeat' (first | with_reducible exact Below.refl _ _ | with_reducible refine Below.drew ?_ | with_reducible refine below_drewN ?_ _ | with_reducible refine Below.alloc ?_ ?_ _ | with_reducible refine Below.setCell ?_ ?_ _ | with_reducible refine Below.trans ?_ (Below.mono (by with_reducible assumption) ?_) | (simp; done) | (simp; omega) | omega))
    · have ht1 : 1 ≤ t := by omega
      clear f4 ht
      by_cases hk : li < kp * (r - t)
      · have h5 := f5 hk
        clear f5
        subst h5
        go_enter Try.func5, Try.ntmps5
        go_wp2_with (first | (go_at_call 15; refine (control_step _ _ _ _ _ _ _ _).mono ?_; rw [HD.out, HS.out]; rintro e w1 ⟨rfl, hb1⟩; have z1 := hb1.size; (try simp at z1); have L1a := live_below hb1 (b := w.heap.size) (by (repeat (first | with_reducible assumption | ((with_reducible apply live_new) <;> (first | with_reducible rfl | (focus (simp; done)))) | with_reducible apply live_alloc | with_reducible apply live_drew | with_reducible apply live_drewN | ((with_reducible apply live_set_other); (case hb => first | omega | (simp; done))) | with_reducible apply live_set_same | (focus (simp; done))))); obtain ⟨p1a, e1a, f1a⟩ := id L1a) | (go_at_call 18; refine (control_valid _ _ _ _ _ _ _).mono ?_; rw [HV.out]; rintro e wv ⟨rfl, rfl⟩) | (go_at_call 18; refine (control_valid _ _ _ _ _ _ _).mono ?_; rw [HF.out]; rintro e wv ⟨rfl, rfl⟩) | (go_at_call 17; refine (law49_awake _).mono ?_; rintro e w9 ⟨rfl, hb9⟩; have z9 := hb9.size; (try simp at z9)))
        all_goals go_ret
        all_goals refine ⟨rfl, ?_⟩
        all_goals (repeat' (first | with_reducible exact Below.refl _ _ | with_reducible refine Below.drew ?_ | with_reducible refine below_drewN ?_ _ | with_reducible refine Below.alloc ?_ ?_ _ | with_reducible refine Below.setCell ?_ ?_ _ | with_reducible refine Below.trans ?_ (Below.mono (by with_reducible assumption) ?_) | (simp; done) | (simp; omega) | omega))
      · clear f5
        go_enter Try.func5, Try.ntmps5
        go_wp2_with (first | (go_at_call 15; refine (control_step _ _ _ _ _ _ _ _).mono ?_; rw [HD.out, HS.out]; rintro e w1 ⟨rfl, hb1⟩; have z1 := hb1.size; (try simp at z1); have L1a := live_below hb1 (b := w.heap.size) (by (repeat (first | with_reducible assumption | ((with_reducible apply live_new) <;> (first | with_reducible rfl | (focus (simp; done)))) | with_reducible apply live_alloc | with_reducible apply live_drew | with_reducible apply live_drewN | ((with_reducible apply live_set_other); (case hb => first | omega | (simp; done))) | with_reducible apply live_set_same | (focus (simp; done))))); obtain ⟨p1a, e1a, f1a⟩ := id L1a) | (go_at_call 18; refine (control_valid _ _ _ _ _ _ _).mono ?_; rw [HV.out]; rintro e wv ⟨rfl, rfl⟩) | (go_at_call 18; refine (control_valid _ _ _ _ _ _ _).mono ?_; rw [HF.out]; rintro e wv ⟨rfl, rfl⟩) | (go_at_call 17; refine (law49_awake _).mono ?_; rintro e w9 ⟨rfl, hb9⟩; have z9 := hb9.size; (try simp at z9)))
        all_goals go_ret
        all_goals refine ⟨rfl, ?_⟩
        all_goals (repeat' (first | with_reducible exact Below.refl _ _ | with_reducible refine Below.drew ?_ | with_reducible refine below_drewN ?_ _ | with_reducible refine Below.alloc ?_ ?_ _ | with_reducible refine Below.setCell ?_ ?_ _ | with_reducible refine Below.trans ?_ (Below.mono (by with_reducible assumption) ?_) | (simp; done) | (simp; omega) | omega))
  · clear f5
    by_cases ht : t = 0
    · have h5 := f4 ht
      clear f4
      subst ht
      subst h5
      rcases (by omega : r < -1073741824 ∨ 1073741824 < r) with hr2 | hr2
      all_goals
        clear hr
        go_enter Try.func5, Try.ntmps5
        go_wp2_with (first | (go_at_call 15; refine (control_step _ _ _ _ _ _ _ _).mono ?_; rw [HD.out, HS.out]; rintro e w1 ⟨rfl, hb1⟩; have z1 := hb1.size; (try simp at z1); have L1a := live_below hb1 (b := w.heap.size) (by (repeat (first | with_reducible assumption | ((with_reducible apply live_new) <;> (first | with_reducible rfl | (focus (simp; done)))) | with_reducible apply live_alloc | with_reducible apply live_drew | with_reducible apply live_drewN | ((with_reducible apply live_set_other); (case hb => first | omega | (simp; done))) | with_reducible apply live_set_same | (focus (simp; done))))); obtain ⟨p1a, e1a, f1a⟩ := id L1a) | (go_at_call 18; refine (control_valid _ _ _ _ _ _ _).mono ?_; rw [HV.out]; rintro e wv ⟨rfl, rfl⟩) | (go_at_call 18; refine (control_valid _ _ _ _ _ _ _).mono ?_; rw [HF.out]; rintro e wv ⟨rfl, rfl⟩) | (go_at_call 17; refine (law49_awake _).mono ?_; rintro e w9 ⟨rfl, hb9⟩; have z9 := hb9.size; (try simp at z9)))
        all_goals go_ret
        all_goals refine ⟨rfl, ?_⟩
        all_goals (repeat' (first | with_reducible exact Below.refl _ _ | with_reducible refine Below.drew ?_ | with_reducible refine below_drewN ?_ _ | with_reducible refine Below.alloc ?_ ?_ _ | with_reducible refine Below.setCell ?_ ?_ _ | with_reducible refine Below.trans ?_ (Below.mono (by with_reducible assumption) ?_) | (simp; done) | (simp; omega) | omega))
    · have ht1 : 1 ≤ t := by omega
      clear f4 ht
      rcases (by omega : r < -1073741824 ∨ 1073741824 < r) with hr2 | hr2
      all_goals
        clear hr
        go_enter Try.func5, Try.ntmps5
        go_wp2_with (first | (go_at_call 15; refine (control_step _ _ _ _ _ _ _ _).mono ?_; rw [HD.out, HS.out]; rintro e w1 ⟨rfl, hb1⟩; have z1 := hb1.size; (try simp at z1); have L1a := live_below hb1 (b := w.heap.size) (by (repeat (first | with_reducible assumption | ((with_reducible apply live_new) <;> (first | with_reducible rfl | (focus (simp; done)))) | with_reducible apply live_alloc | with_reducible apply live_drew | with_reducible apply live_drewN | ((with_reducible apply live_set_other); (case hb => first | omega | (simp; done))) | with_reducible apply live_set_same | (focus (simp; done))))); obtain ⟨p1a, e1a, f1a⟩ := id L1a) | (go_at_call 18; refine (control_valid _ _ _ _ _ _ _).mono ?_; rw [HV.out]; rintro e wv ⟨rfl, rfl⟩) | (go_at_call 18; refine (control_valid _ _ _ _ _ _ _).mono ?_; rw [HF.out]; rintro e wv ⟨rfl, rfl⟩) | (go_at_call 17; refine (law49_awake _).mono ?_; rintro e w9 ⟨rfl, hb9⟩; have z9 := hb9.size; (try simp at z9)))
        all_goals go_ret
        all_goals refine ⟨rfl, ?_⟩
        all_goals (repeat' (first | with_reducible exact Below.refl _ _ | with_reducible refine Below.drew ?_ | with_reducible refine below_drewN ?_ _ | with_reducible refine Below.alloc ?_ ?_ _ | with_reducible refine Below.setCell ?_ ?_ _ | with_reducible refine Below.trans ?_ (Below.mono (by with_reducible assumption) ?_) | (simp; done) | (simp; omega) | omega))

theorem walk (t kp ki sc su li r : Int) (w : World) :
    Calls Try.prog 5 #[.agg #[.int .i64 t, .int .i64 kp, .int .i64 ki, .int .i64 sc, .int .i64 su, .int .i64 li], .int .i64 r] w fun e w' => e = .returned (.bool true) ∧ Below w.heap.size w w' := by
  cases hv : ctlValid t kp ki sc su li
  · exact walk_bad t kp ki sc su li r w hv
  · exact walk_ok t kp ki sc su li r w hv

set_option maxRecDepth 100000 in
theorem lifted (os : Os) (started : os.Started) (H : Type) (enc : TypeId × Value → H) :
    ReturnsInHanded {} Try.checked os 5 .any (Rows.controlBoundedSpec.pre6 enc Try.prog Try.f5 Rows.controlBoundedRow.domain false) (Rows.controlBoundedSpec.post enc Try.prog Try.f5 false true false false) := by
  refine returnsInHanded_of_change (C := Try.checked) own started (by kernel_rfl) Try.func5
    (ChangeSpec.witness6 (enc := enc) (C := Try.checked) false ⟨#[], #[.agg #[.int .i64 0, .int .i64 0, .int .i64 0, .int .i64 0, .int .i64 0, .int .i64 0], .int .i64 0], []⟩ 8 (by kernel_rfl) (by kernel_rfl) (by kernel_rfl) (by kernel_rfl)) ?_
  intro W base args ds gs before hval0 hW _ _
  have hval : ∀ (j : Nat) t v, Try.f5.params[j]? = some t → args[j]? = some v → Value.okWide Try.prog W .any base t v := hval0
  have hW' := hW
  obtain ⟨p, q, hA0, hV, rfl, _, _⟩ := hW
  have hA : DataW.TrodAll enc Try.prog W 0 (fun _ => true) true Try.f5.params.toList args.toList ds p := hA0
  rw [Try.params5] at hA hval
  obtain ⟨v0, v1, d0, d1, p0, p1, rfl, rfl, rfl, h0, h1⟩ := trodAll_two hA
  clear hA hA0 hval0
  obtain ⟨f0, bf0, rfl⟩ := flat_ints (n := 6) (u := 3) (by kernel_rfl) (by kernel_rfl) (by kernel_rfl) Try.underlying3 (hval 0 23 v0 rfl rfl)
  obtain ⟨a1, rfl, ba1⟩ := int_open Try.underlying3 (hval 1 3 v1 rfl rfl)
  exact (walk (f0 0) (f0 1) (f0 2) (f0 3) (f0 4) (f0 5) a1 W).mono fun e W' ⟨he, hb⟩ => ⟨_, he, law_post laidOut (by kernel_rfl) rfl (fun _ => rfl) rfl Try.underlying4 hW' hb⟩

theorem holds : Rows.ControlBoundedSaid :=
  OpenClaim.holds_of_wide 5 Try.f5 rfl rfl rfl rfl rfl rfl rfl ⟨rfl, rfl, rfl, rfl, rfl⟩ rfl rfl rfl rfl rfl (by kernel_rfl) Try.func5 (by kernel_rfl)
    (of_decide_eq_true (by kernel_rfl)) (by unfold Func.isWrapper; rw [if_neg (of_decide_eq_false (by kernel_rfl))]; exact ⟨rfl, rfl⟩)
    (fun os started H enc _ => lifted os started H enc)

#print axioms holds
end Go.Proofs.Ythpomgkeoogamaa.controlBounded
