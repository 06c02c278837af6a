/- ThermalRests: a body at the ambient temperature stays there without heating, and a hotter one does not become hotter, for all valid heaters and all numbers -/
import Derived.Deep.RegionWith
import Derived.Deep.RegionHeld3
import Derived.RegionTactic
import Derived.BigRegion
import Derived.Test.YthpomgkeoogamaaBase
import Derived.Test.YthpomgkeoogamaaKit3
import Derived.Test.YthpomgkeoogamaaL48Awake
import Derived.Test.YthpomgkeoogamaaThMono
namespace Go.Proofs.Ythpomgkeoogamaa.thermalRests
open Go.ChangeShapes Go.WideShapes Go.ChangeAt Go.RowKit
set_option linter.unusedVariables false

attribute [local go_sem] cell_past1 cell_past2 cell_past3 cell_past4 froz_past1 froz_past2 froz_past3

set_option maxRecDepth 100000 in
set_option maxHeartbeats 4000000 in
theorem walk_bad (p l m a t : Int) (w : World) (hv : thValid p l m a = false) :
    Calls Try.prog 12 #[.agg #[.int .i64 p, .int .i64 l, .int .i64 m, .int .i64 a], .int .i64 t] w fun e w' => e = .returned (.bool true) ∧ Below w.heap.size w w' := by
  have hs : thStep p l m a t 1 = 0 := by unfold thStep; simp [hv]
  have ht : thTop p l m a = 0 := by unfold thTop; simp [hv]
  have HV := Lib.hid hv
  have HS := Lib.hid hs
  have HT := Lib.hid ht
  clear hv hs ht
  go_enter Try.func12, Try.ntmps12
  go_wp2_with (first | (go_at_call 19; refine (thermal_valid_b _ _ _ _ _).mono ?_; rw [HV.out]; rintro e w1 ⟨rfl, hb1⟩; have z1 := hb1.size; (try simp at z1); have L1a := live_below hb1 (b := w.heap.size) (by (repeat (first | with_reducible assumption | ((with_reducible apply live_new) <;> (first | with_reducible rfl | (focus (simp; done)))) | with_reducible apply live_alloc | with_reducible apply live_drew | with_reducible apply live_drewN | ((with_reducible apply live_set_other); (case hb => first | omega | (simp; done))) | with_reducible apply live_set_same | (focus (simp; done))))); obtain ⟨p1a, e1a, f1a⟩ := id L1a) | (go_at_call 24; refine (thermal_step_b _ _ _ _ _ _ _).mono ?_; rw [HS.out]; rintro e w2 ⟨rfl, hb2⟩; have z2 := hb2.size; (try simp at z2); have L2a := live_below hb2 (b := w.heap.size) (by (repeat (first | with_reducible assumption | ((with_reducible apply live_new) <;> (first | with_reducible rfl | (focus (simp; done)))) | with_reducible apply live_alloc | with_reducible apply live_drew | with_reducible apply live_drewN | ((with_reducible apply live_set_other); (case hb => first | omega | (simp; done))) | with_reducible apply live_set_same | (focus (simp; done))))); obtain ⟨p2a, e2a, f2a⟩ := id L2a) | (go_at_call 21; refine (thermal_top_b _ _ _ _ _).mono ?_; rw [HT.out]; rintro e w3 ⟨rfl, hb3⟩; have z3 := hb3.size; (try simp at z3); have L3a := live_below hb3 (b := w.heap.size) (by (repeat (first | with_reducible assumption | ((with_reducible apply live_new) <;> (first | with_reducible rfl | (focus (simp; done)))) | with_reducible apply live_alloc | with_reducible apply live_drew | with_reducible apply live_drewN | ((with_reducible apply live_set_other); (case hb => first | omega | (simp; done))) | with_reducible apply live_set_same | (focus (simp; done))))); obtain ⟨p3a, e3a, f3a⟩ := id L3a) | (go_at_call 23; refine (law48_awake _).mono ?_; rintro e w9 ⟨rfl, hb9⟩; have z9 := hb9.size; (try simp at z9); have L9a := live_below hb9 (b := w.heap.size) (by (repeat (first | with_reducible assumption | ((with_reducible apply live_new) <;> (first | with_reducible rfl | (focus (simp; done)))) | with_reducible apply live_alloc | with_reducible apply live_drew | with_reducible apply live_drewN | ((with_reducible apply live_set_other); (case hb => first | omega | (simp; done))) | with_reducible apply live_set_same | (focus (simp; done))))); obtain ⟨p9a, e9a, f9a⟩ := id L9a))
  all_goals go_ret
  all_goals refine ⟨rfl, ?_⟩
  all_goals (repeat' (first | with_reducible exact Below.refl _ _ | with_reducible refine Below.drew ?_ | with_reducible refine below_drewN ?_ _ | with_reducible refine Below.alloc ?_ ?_ _ | with_reducible refine Below.setCell ?_ ?_ _ | with_reducible refine Below.trans ?_ (Below.mono (by with_reducible assumption) ?_) | (simp; done) | (simp; omega) | omega))

set_option maxRecDepth 100000 in
set_option maxHeartbeats 4000000 in
theorem walk_ok (p l m a t : Int) (w : World) (hv : thValid p l m a = true) :
    Calls Try.prog 12 #[.agg #[.int .i64 p, .int .i64 l, .int .i64 m, .int .i64 a], .int .i64 t] w fun e w' => e = .returned (.bool true) ∧ Below w.heap.size w w' := by
  have hs : thStep p l m a a 0 = a := thStep_rest p l m a 0 hv (by omega)
  have hs5 : thStep p l m a a (-5) = a := thStep_rest p l m a (-5) hv (by omega)
  have hc := thStep_cool p l m a t hv
  have HV := Lib.hid hv
  have HS := Lib.hid hs
  have HS5 := Lib.hid hs5
  clear hv hs hs5
  generalize hr : thStep p l m a t 0 = r at *
  have HR := Lib.hid hr
  clear hr
  by_cases h : t < a
  · clear hc
    go_enter Try.func12, Try.ntmps12
    go_wp2_with (first | (go_at_call 19; refine (thermal_valid_b _ _ _ _ _).mono ?_; rw [HV.out]; rintro e w1 ⟨rfl, hb1⟩; have z1 := hb1.size; (try simp at z1); have L1a := live_below hb1 (b := w.heap.size) (by (repeat (first | with_reducible assumption | ((with_reducible apply live_new) <;> (first | with_reducible rfl | (focus (simp; done)))) | with_reducible apply live_alloc | with_reducible apply live_drew | with_reducible apply live_drewN | ((with_reducible apply live_set_other); (case hb => first | omega | (simp; done))) | with_reducible apply live_set_same | (focus (simp; done))))); obtain ⟨p1a, e1a, f1a⟩ := id L1a))
    go_region_held3 (fun w' => w'.cell? ⟨w.heap.size, 0, none⟩ = some (.int .i64 p) ∧ w'.cell? ⟨w.heap.size, 1, none⟩ = some (.int .i64 l) ∧ w'.cell? ⟨w.heap.size, 2, none⟩ = some (.int .i64 m) ∧ w'.cell? ⟨w.heap.size, 3, none⟩ = some (.int .i64 a)) (first | (focus ((with_reducible apply live_four); (repeat (first | with_reducible assumption | ((with_reducible apply live_new) <;> (first | with_reducible rfl | (focus (simp; done)))) | with_reducible apply live_alloc | with_reducible apply live_drew | with_reducible apply live_drewN | ((with_reducible apply live_set_other); (case hb => first | omega | (simp; done))) | with_reducible apply live_set_same | (focus (simp; done)))); done)) | go_keep)
      (first | (go_at_call 24; (with_reducible refine (thermal_step_b p l m a a 0 _).mono ?_); rw [HS.out]; rintro e w2 ⟨rfl, hb2⟩; have z2 := hb2.size; (try simp at z2); have L2a := live_below hb2 (b := w.heap.size) (by (repeat (first | with_reducible assumption | ((with_reducible apply live_new) <;> (first | with_reducible rfl | (focus (simp; done)))) | with_reducible apply live_alloc | with_reducible apply live_drew | with_reducible apply live_drewN | ((with_reducible apply live_set_other); (case hb => first | omega | (simp; done))) | with_reducible apply live_set_same | (focus (simp; done))))); obtain ⟨p2a, e2a, f2a⟩ := id L2a) | (go_at_call 24; (with_reducible refine (thermal_step_b p l m a a (-5) _).mono ?_); rw [HS5.out]; rintro e w3 ⟨rfl, hb3⟩; have z3 := hb3.size; (try simp at z3); have L3a := live_below hb3 (b := w.heap.size) (by (repeat (first | with_reducible assumption | ((with_reducible apply live_new) <;> (first | with_reducible rfl | (focus (simp; done)))) | with_reducible apply live_alloc | with_reducible apply live_drew | with_reducible apply live_drewN | ((with_reducible apply live_set_other); (case hb => first | omega | (simp; done))) | with_reducible apply live_set_same | (focus (simp; done))))); obtain ⟨p3a, e3a, f3a⟩ := id L3a))
    all_goals go_wp2_with (first | (go_at_call 24; refine (thermal_step_b p l m a t 0 _).mono ?_; rw [HR.out]; rintro e w4 ⟨rfl, hb4⟩; have z4 := hb4.size; (try simp at z4); have L4a := live_below hb4 (b := w.heap.size) (by (repeat (first | with_reducible assumption | ((with_reducible apply live_new) <;> (first | with_reducible rfl | (focus (simp; done)))) | with_reducible apply live_alloc | with_reducible apply live_drew | with_reducible apply live_drewN | ((with_reducible apply live_set_other); (case hb => first | omega | (simp; done))) | with_reducible apply live_set_same | (focus (simp; done))))); obtain ⟨p4a, e4a, f4a⟩ := id L4a) | (go_at_call 23; refine (law48_awake _).mono ?_; rintro e w9 ⟨rfl, hb9⟩; have z9 := hb9.size; (try simp at z9); have L9a := live_below hb9 (b := w.heap.size) (by (repeat (first | with_reducible assumption | ((with_reducible apply live_new) <;> (first | with_reducible rfl | (focus (simp; done)))) | with_reducible apply live_alloc | with_reducible apply live_drew | with_reducible apply live_drewN | ((with_reducible apply live_set_other); (case hb => first | omega | (simp; done))) | with_reducible apply live_set_same | (focus (simp; done))))); obtain ⟨p9a, e9a, f9a⟩ := id L9a))
    all_goals go_ret
    all_goals refine ⟨rfl, ?_⟩
    all_goals (repeat' (first | with_reducible exact Below.refl _ _ | with_reducible refine Below.drew ?_ | with_reducible refine below_drewN ?_ _ | with_reducible refine Below.alloc ?_ ?_ _ | with_reducible refine Below.setCell ?_ ?_ _ | with_reducible refine Below.trans ?_ (Below.mono (by with_reducible assumption) ?_) | (simp; done) | (simp; omega) | omega))
  · obtain ⟨c1, c2⟩ := hc (by omega)
    go_enter Try.func12, Try.ntmps12
    go_wp2_with (first | (go_at_call 19; refine (thermal_valid_b _ _ _ _ _).mono ?_; rw [HV.out]; rintro e w1 ⟨rfl, hb1⟩; have z1 := hb1.size; (try simp at z1); have L1a := live_below hb1 (b := w.heap.size) (by (repeat (first | with_reducible assumption | ((with_reducible apply live_new) <;> (first | with_reducible rfl | (focus (simp; done)))) | with_reducible apply live_alloc | with_reducible apply live_drew | with_reducible apply live_drewN | ((with_reducible apply live_set_other); (case hb => first | omega | (simp; done))) | with_reducible apply live_set_same | (focus (simp; done))))); obtain ⟨p1a, e1a, f1a⟩ := id L1a))
    go_region_held3 (fun w' => w'.cell? ⟨w.heap.size, 0, none⟩ = some (.int .i64 p) ∧ w'.cell? ⟨w.heap.size, 1, none⟩ = some (.int .i64 l) ∧ w'.cell? ⟨w.heap.size, 2, none⟩ = some (.int .i64 m) ∧ w'.cell? ⟨w.heap.size, 3, none⟩ = some (.int .i64 a)) (first | (focus ((with_reducible apply live_four); (repeat (first | with_reducible assumption | ((with_reducible apply live_new) <;> (first | with_reducible rfl | (focus (simp; done)))) | with_reducible apply live_alloc | with_reducible apply live_drew | with_reducible apply live_drewN | ((with_reducible apply live_set_other); (case hb => first | omega | (simp; done))) | with_reducible apply live_set_same | (focus (simp; done)))); done)) | go_keep)
      (first | (go_at_call 24; (with_reducible refine (thermal_step_b p l m a a 0 _).mono ?_); rw [HS.out]; rintro e w2 ⟨rfl, hb2⟩; have z2 := hb2.size; (try simp at z2); have L2a := live_below hb2 (b := w.heap.size) (by (repeat (first | with_reducible assumption | ((with_reducible apply live_new) <;> (first | with_reducible rfl | (focus (simp; done)))) | with_reducible apply live_alloc | with_reducible apply live_drew | with_reducible apply live_drewN | ((with_reducible apply live_set_other); (case hb => first | omega | (simp; done))) | with_reducible apply live_set_same | (focus (simp; done))))); obtain ⟨p2a, e2a, f2a⟩ := id L2a) | (go_at_call 24; (with_reducible refine (thermal_step_b p l m a a (-5) _).mono ?_); rw [HS5.out]; rintro e w3 ⟨rfl, hb3⟩; have z3 := hb3.size; (try simp at z3); have L3a := live_below hb3 (b := w.heap.size) (by (repeat (first | with_reducible assumption | ((with_reducible apply live_new) <;> (first | with_reducible rfl | (focus (simp; done)))) | with_reducible apply live_alloc | with_reducible apply live_drew | with_reducible apply live_drewN | ((with_reducible apply live_set_other); (case hb => first | omega | (simp; done))) | with_reducible apply live_set_same | (focus (simp; done))))); obtain ⟨p3a, e3a, f3a⟩ := id L3a))
    all_goals go_wp2_with (first | (go_at_call 24; refine (thermal_step_b p l m a t 0 _).mono ?_; rw [HR.out]; rintro e w4 ⟨rfl, hb4⟩; have z4 := hb4.size; (try simp at z4); have L4a := live_below hb4 (b := w.heap.size) (by (repeat (first | with_reducible assumption | ((with_reducible apply live_new) <;> (first | with_reducible rfl | (focus (simp; done)))) | with_reducible apply live_alloc | with_reducible apply live_drew | with_reducible apply live_drewN | ((with_reducible apply live_set_other); (case hb => first | omega | (simp; done))) | with_reducible apply live_set_same | (focus (simp; done))))); obtain ⟨p4a, e4a, f4a⟩ := id L4a) | (go_at_call 23; refine (law48_awake _).mono ?_; rintro e w9 ⟨rfl, hb9⟩; have z9 := hb9.size; (try simp at z9); have L9a := live_below hb9 (b := w.heap.size) (by (repeat (first | with_reducible assumption | ((with_reducible apply live_new) <;> (first | with_reducible rfl | (focus (simp; done)))) | with_reducible apply live_alloc | with_reducible apply live_drew | with_reducible apply live_drewN | ((with_reducible apply live_set_other); (case hb => first | omega | (simp; done))) | with_reducible apply live_set_same | (focus (simp; done))))); obtain ⟨p9a, e9a, f9a⟩ := id L9a))
    all_goals go_ret
    all_goals refine ⟨rfl, ?_⟩
    all_goals (repeat' (first | with_reducible exact Below.refl _ _ | with_reducible refine Below.drew ?_ | with_reducible refine below_drewN ?_ _ | with_reducible refine Below.alloc ?_ ?_ _ | with_reducible refine Below.setCell ?_ ?_ _ | with_reducible refine Below.trans ?_ (Below.mono (by with_reducible assumption) ?_) | (simp; done) | (simp; omega) | omega))

theorem walk (p l m a t : Int) (w : World) :
    Calls Try.prog 12 #[.agg #[.int .i64 p, .int .i64 l, .int .i64 m, .int .i64 a], .int .i64 t] w fun e w' => e = .returned (.bool true) ∧ Below w.heap.size w w' := by
  cases hv : thValid p l m a
  · exact walk_bad p l m a t w hv
  · exact walk_ok p l m a t w hv

set_option maxRecDepth 100000 in
theorem lifted (os : Os) (started : os.Started) (H : Type) (enc : TypeId × Value → H) :
    ReturnsInHanded {} Try.checked os 12 .any (Rows.thermalRestsSpec.pre6 enc Try.prog Try.f12 Rows.thermalRestsRow.domain false) (Rows.thermalRestsSpec.post enc Try.prog Try.f12 false true false false) := by
  refine returnsInHanded_of_change (C := Try.checked) own started (by kernel_rfl) Try.func12
    (ChangeSpec.witness6 (enc := enc) (C := Try.checked) false ⟨#[], #[.agg #[.int .i64 0, .int .i64 0, .int .i64 0, .int .i64 0], .int .i64 0], []⟩ 8 (by kernel_rfl) (by kernel_rfl) (by kernel_rfl) (by kernel_rfl)) ?_
  intro W base args ds gs before hval0 hW _ _
  have hval : ∀ (j : Nat) t v, Try.f12.params[j]? = some t → args[j]? = some v → Value.okWide Try.prog W .any base t v := hval0
  have hW' := hW
  obtain ⟨p, q, hA0, hV, rfl, _, _⟩ := hW
  have hA : DataW.TrodAll enc Try.prog W 0 (fun _ => true) true Try.f12.params.toList args.toList ds p := hA0
  rw [Try.params12] at hA hval
  obtain ⟨v0, v1, d0, d1, p0, p1, rfl, rfl, rfl, h0, h1⟩ := trodAll_two hA
  clear hA hA0 hval0
  obtain ⟨f0, bf0, rfl⟩ := flat_ints (n := 4) (u := 3) (by kernel_rfl) (by kernel_rfl) (by kernel_rfl) Try.underlying3 (hval 0 33 v0 rfl rfl)
  obtain ⟨a1, rfl, ba1⟩ := int_open Try.underlying3 (hval 1 3 v1 rfl rfl)
  exact (walk (f0 0) (f0 1) (f0 2) (f0 3) a1 W).mono fun e W' ⟨he, hb⟩ => ⟨_, he, law_post laidOut (by kernel_rfl) rfl (fun _ => rfl) rfl Try.underlying4 hW' hb⟩

theorem holds : Rows.ThermalRestsSaid :=
  OpenClaim.holds_of_wide 12 Try.f12 rfl rfl rfl rfl rfl rfl rfl ⟨rfl, rfl, rfl, rfl, rfl⟩ rfl rfl rfl rfl rfl (by kernel_rfl) Try.func12 (by kernel_rfl)
    (of_decide_eq_true (by kernel_rfl)) (by unfold Func.isWrapper; rw [if_neg (of_decide_eq_false (by kernel_rfl))]; exact ⟨rfl, rfl⟩)
    (fun os started H enc _ => lifted os started H enc)

#print axioms holds
end Go.Proofs.Ythpomgkeoogamaa.thermalRests
