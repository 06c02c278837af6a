/- ControlMonotone: with a higher reading neither the sum nor the duty is greater, for readings from -2^30 to 2^30 -/
import Derived.Deep.RegionWith
import Derived.Test.YthpomgkeoogamaaBase
import Derived.Test.YthpomgkeoogamaaL49Awake
namespace Go.Proofs.Ythpomgkeoogamaa.controlMonotone
open Go.ChangeShapes Go.WideShapes Go.ChangeAt Go.RowKit

theorem sum_mono (t ki su li a b : Int) (hk : 0 ≤ ki) (h : a ≤ b) : ctlSum t ki su li b ≤ ctlSum t ki su li a := by
  unfold ctlSum
  have : ki * (t - b) ≤ ki * (t - a) := Int.mul_le_mul_of_nonneg_left (by omega) hk
  omega
theorem duty_mono (t kp ki sc su li a b : Int) (hp : 0 ≤ kp) (hk : 0 ≤ ki) (hs : 1 ≤ sc) (h : a ≤ b) : ctlDuty t kp ki sc su li b ≤ ctlDuty t kp ki sc su li a := by
  unfold ctlDuty
  have h1 : kp * (t - b) ≤ kp * (t - a) := Int.mul_le_mul_of_nonneg_left (by omega) hp
  have h2 := sum_mono t ki su li a b hk h
  have h3 : (kp * (t - b) + ctlSum t ki su li b) / sc ≤ (kp * (t - a) + ctlSum t ki su li a) / sc := Int.ediv_le_ediv (by omega) (by omega)
  omega
theorem both_mono (t kp ki sc su li a b : Int) (ha : -1073741824 ≤ a) (hb : b ≤ 1073741824) (h : a ≤ b) :
    ctlSum2 t kp ki sc su li b ≤ ctlSum2 t kp ki sc su li a ∧ ctlDuty2 t kp ki sc su li b ≤ ctlDuty2 t kp ki sc su li a := by
  unfold ctlSum2 ctlDuty2 ctlOk
  cases hv : ctlValid t kp ki sc su li
  · simp
  · have hc : 0 ≤ t ∧ t ≤ 400000 ∧ 0 ≤ kp ∧ kp ≤ 1048576 ∧ 0 ≤ ki ∧ ki ≤ 1048576 ∧ 1 ≤ sc ∧ sc ≤ 1073741824 ∧ 0 ≤ li ∧ li ≤ 1099511627776 ∧ 0 ≤ su ∧ su ≤ li := by simpa [ctlValid] using hv
    have e1 : decide (-1073741824 ≤ a ∧ a ≤ 1073741824) = true := by simp; omega
    have e2 : decide (-1073741824 ≤ b ∧ b ≤ 1073741824) = true := by simp; omega
    rw [e1, e2]
    by_cases ht : t = 0
    · simp [ht]
    · simp only [Bool.and_true, if_true, if_neg ht]
      exact ⟨sum_mono t ki su li a b (by omega) h, duty_mono t kp ki sc su li a b (by omega) (by omega) (by omega) h⟩

attribute [local go_sem] cell_past1 cell_past2 cell_past3 cell_past4 froz_past1 froz_past2 froz_past3

set_option maxRecDepth 100000 in
set_option maxHeartbeats 4000000 in
theorem walk (t kp ki sc su li a b : Int) (w : World) :
    Calls Try.prog 6 #[.agg #[.int .i64 t, .int .i64 kp, .int .i64 ki, .int .i64 sc, .int .i64 su, .int .i64 li], .int .i64 a, .int .i64 b] w fun e w' => e = .returned (.bool true) ∧ Below w.heap.size w w' := by
  by_cases h : -1073741824 ≤ a ∧ b ≤ 1073741824 ∧ a ≤ b
  · obtain ⟨h0, h1, h2⟩ := h
    obtain ⟨m1, m2⟩ := both_mono t kp ki sc su li a b h0 h1 h2
    go_enter Try.func6, Try.ntmps6
    go_wp2_with fail
    refine (control_step _ _ _ _ _ _ _ _).mono ?_; rintro e w1 ⟨rfl, hb1⟩; have z1 := hb1.size; (try simp at z1); have L1a := live_below hb1 (b := w.heap.size) (by (repeat (first | with_reducible assumption | ((with_reducible apply live_new) <;> (first | with_reducible rfl | (focus (simp; done)))) | with_reducible apply live_alloc | with_reducible apply live_drew | with_reducible apply live_drewN | ((with_reducible apply live_set_other); (case hb => first | omega | (simp; done))) | with_reducible apply live_set_same | (focus (simp; done))))); obtain ⟨p1a, e1a, f1a⟩ := id L1a
    go_wp2_with fail
    refine (control_step _ _ _ _ _ _ _ _).mono ?_; rintro e w2 ⟨rfl, hb2⟩; have z2 := hb2.size; (try simp at z2); have L2a := live_below hb2 (b := w.heap.size) (by (repeat (first | with_reducible assumption | ((with_reducible apply live_new) <;> (first | with_reducible rfl | (focus (simp; done)))) | with_reducible apply live_alloc | with_reducible apply live_drew | with_reducible apply live_drewN | ((with_reducible apply live_set_other); (case hb => first | omega | (simp; done))) | with_reducible apply live_set_same | (focus (simp; done))))); obtain ⟨p2a, e2a, f2a⟩ := id L2a; have L2b := live_below hb2 (b := w1.heap.size) (by (repeat (first | with_reducible assumption | ((with_reducible apply live_new) <;> (first | with_reducible rfl | (focus (simp; done)))) | with_reducible apply live_alloc | with_reducible apply live_drew | with_reducible apply live_drewN | ((with_reducible apply live_set_other); (case hb => first | omega | (simp; done))) | with_reducible apply live_set_same | (focus (simp; done))))); obtain ⟨p2b, e2b, f2b⟩ := id L2b
    go_wp2_with ((go_at_call 17; refine (law49_awake _).mono ?_; rintro e w9 ⟨rfl, hb9⟩; have z9 := hb9.size; (try simp at z9)))
    all_goals go_ret
    all_goals refine ⟨rfl, ?_⟩
    all_goals (repeat' (first | with_reducible exact Below.refl _ _ | with_reducible refine Below.drew ?_ | with_reducible refine below_drewN ?_ _ | with_reducible refine Below.alloc ?_ ?_ _ | with_reducible refine Below.setCell ?_ ?_ _ | with_reducible refine Below.trans ?_ (Below.mono (by with_reducible assumption) ?_) | (simp; done) | (simp; omega) | omega))
  · rcases (by omega : a < -1073741824 ∨ 1073741824 < b ∨ b < a) with h | h | h
    all_goals
      go_enter Try.func6, Try.ntmps6
      go_wp2_with ((go_at_call 17; refine (law49_awake _).mono ?_; rintro e w9 ⟨rfl, hb9⟩; have z9 := hb9.size; (try simp at z9)))
      all_goals go_ret
      all_goals refine ⟨rfl, ?_⟩
      all_goals (repeat' (first | with_reducible exact Below.refl _ _ | with_reducible refine Below.drew ?_ | with_reducible refine below_drewN ?_ _ | with_reducible refine Below.alloc ?_ ?_ _ | with_reducible refine Below.setCell ?_ ?_ _ | with_reducible refine Below.trans ?_ (Below.mono (by with_reducible assumption) ?_) | (simp; done) | (simp; omega) | omega))

set_option maxRecDepth 100000 in
theorem lifted (os : Os) (started : os.Started) (H : Type) (enc : TypeId × Value → H) :
    ReturnsInHanded {} Try.checked os 6 .any (Rows.controlMonotoneSpec.pre6 enc Try.prog Try.f6 Rows.controlMonotoneRow.domain false) (Rows.controlMonotoneSpec.post enc Try.prog Try.f6 false true false false) := by
  refine returnsInHanded_of_change (C := Try.checked) own started (by kernel_rfl) Try.func6
    (ChangeSpec.witness6 (enc := enc) (C := Try.checked) false ⟨#[], #[.agg #[.int .i64 0, .int .i64 0, .int .i64 0, .int .i64 0, .int .i64 0, .int .i64 0], .int .i64 0, .int .i64 0], []⟩ 8 (by kernel_rfl) (by kernel_rfl) (by kernel_rfl) (by kernel_rfl)) ?_
  intro W base args ds gs before hval0 hW _ _
  have hval : ∀ (j : Nat) t v, Try.f6.params[j]? = some t → args[j]? = some v → Value.okWide Try.prog W .any base t v := hval0
  have hW' := hW
  obtain ⟨p, q, hA0, hV, rfl, _, _⟩ := hW
  have hA : DataW.TrodAll enc Try.prog W 0 (fun _ => true) true Try.f6.params.toList args.toList ds p := hA0
  rw [Try.params6] at hA hval
  obtain ⟨v0, v1, v2, d0, d1, d2, p0, p1, p2, rfl, rfl, rfl, h0, h1, h2⟩ := trodAll_three hA
  clear hA hA0 hval0
  obtain ⟨f0, bf0, rfl⟩ := flat_ints (n := 6) (u := 3) (by kernel_rfl) (by kernel_rfl) (by kernel_rfl) Try.underlying3 (hval 0 23 v0 rfl rfl)
  obtain ⟨a1, rfl, ba1⟩ := int_open Try.underlying3 (hval 1 3 v1 rfl rfl)
  obtain ⟨a2, rfl, ba2⟩ := int_open Try.underlying3 (hval 2 3 v2 rfl rfl)
  exact (walk (f0 0) (f0 1) (f0 2) (f0 3) (f0 4) (f0 5) a1 a2 W).mono fun e W' ⟨he, hb⟩ => ⟨_, he, law_post laidOut (by kernel_rfl) rfl (fun _ => rfl) rfl Try.underlying4 hW' hb⟩

theorem holds : Rows.ControlMonotoneSaid :=
  OpenClaim.holds_of_wide 6 Try.f6 rfl rfl rfl rfl rfl rfl rfl ⟨rfl, rfl, rfl, rfl, rfl⟩ rfl rfl rfl rfl rfl (by kernel_rfl) Try.func6 (by kernel_rfl)
    (of_decide_eq_true (by kernel_rfl)) (by unfold Func.isWrapper; rw [if_neg (of_decide_eq_false (by kernel_rfl))]; exact ⟨rfl, rfl⟩)
    (fun os started H enc _ => lifted os started H enc)

#print axioms holds
end Go.Proofs.Ythpomgkeoogamaa.controlMonotone
