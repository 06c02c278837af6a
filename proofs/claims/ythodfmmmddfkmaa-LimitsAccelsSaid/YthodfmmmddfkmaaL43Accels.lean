/- LimitsAccels: Accel and Junction of the program and of the reference return the same numbers -/
import Derived.Deep.RegionHeld3
import Derived.Deep.RegionWith
import Derived.RegionTactic
import Derived.BigRegion
import Derived.Test.YthodfmmmddfkmaaBase
import Derived.Test.YthodfmmmddfkmaaKinOpen
import Derived.Test.YthodfmmmddfkmaaLimAccel
import Derived.Test.YthodfmmmddfkmaaLimAccelR
import Derived.Test.YthodfmmmddfkmaaLimJunc
import Derived.Test.YthodfmmmddfkmaaLimJuncR
import Derived.Test.YthodfmmmddfkmaaL43Awake
namespace Go.Proofs.Ythodfmmmddfkmaa.limitsAccels
open Go.ChangeShapes Go.WideShapes Go.ChangeAt Go.RowKit
set_option linter.unusedVariables false

attribute [local go_sem] cell_past1 cell_past2 cell_past3 cell_past4 froz_past1 froz_past2 froz_past3
attribute [local go_sem ↓] loadM_in

theorem live_M44 {w : World} {b b' c' : Nat} {f : Nat → Int} {x : Bool} {t : Int} {y z u v y' z' u' v' : Value} (h : Live w b (mach f x t)) (h' : Live w b' #[y, z, u, v]) (h2 : Live w c' #[y', z', u', v']) : w.rangeAt b 0 (mach f x t).toList ∧ w.cell? ⟨b', 0, none⟩ = some y ∧ w.cell? ⟨b', 1, none⟩ = some z ∧ w.cell? ⟨b', 2, none⟩ = some u ∧ w.cell? ⟨b', 3, none⟩ = some v ∧ w.cell? ⟨c', 0, none⟩ = some y' ∧ w.cell? ⟨c', 1, none⟩ = some z' ∧ w.cell? ⟨c', 2, none⟩ = some u' ∧ w.cell? ⟨c', 3, none⟩ = some v' :=
  ⟨live_rangeAll h, h'.2.1 0, h'.2.1 1, h'.2.1 2, h'.2.1 3, h2.2.1 0, h2.2.1 1, h2.2.1 2, h2.2.1 3⟩

theorem live_M4 {w : World} {b b' : Nat} {f : Nat → Int} {x : Bool} {t : Int} {y z u v : Value} (h : Live w b (mach f x t)) (h' : Live w b' #[y, z, u, v]) : w.rangeAt b 0 (mach f x t).toList ∧ w.cell? ⟨b', 0, none⟩ = some y ∧ w.cell? ⟨b', 1, none⟩ = some z ∧ w.cell? ⟨b', 2, none⟩ = some u ∧ w.cell? ⟨b', 3, none⟩ = some v :=
  ⟨live_rangeAll h, h'.2.1 0, h'.2.1 1, h'.2.1 2, h'.2.1 3⟩

theorem accels (f : Nat → Int) (x : Bool) (t a b c d : Int) : ∃ V : Int, (∀ w : World, Calls Try.prog 30 #[.agg (mach f x t), .agg #[.int .i64 a, .int .i64 b, .int .i64 c, .int .i64 d]] w fun e w' => e = .returned (.int .i64 V) ∧ Below w.heap.size w w') ∧ (∀ w : World, Calls Try.prog 31 #[.agg (mach f x t), .agg #[.int .i64 a, .int .i64 b, .int .i64 c, .int .i64 d]] w fun e w' => e = .returned (.int .i64 V) ∧ Below w.heap.size w w') := by
  cases h : (ddaValid a b c d && kinValid f t)
  · exact ⟨0, fun w => lim_accel_f f x t a b c d w h, fun w => ref43_accel_f f x t a b c d w h⟩
  · rw [Bool.and_eq_true] at h
    exact ⟨_, fun w => lim_accel_t f x t a b c d w h.2 h.1, fun w => ref43_accel_t f x t a b c d w h.2 h.1⟩
theorem juncs (f : Nat → Int) (x : Bool) (t a b c d a' b' c' d' : Int) : ∃ V : Int, (∀ w : World, Calls Try.prog 32 #[.agg (mach f x t), .agg #[.int .i64 a, .int .i64 b, .int .i64 c, .int .i64 d], .agg #[.int .i64 a', .int .i64 b', .int .i64 c', .int .i64 d']] w fun e w' => e = .returned (.int .i64 V) ∧ Below w.heap.size w w') ∧ (∀ w : World, Calls Try.prog 33 #[.agg (mach f x t), .agg #[.int .i64 a, .int .i64 b, .int .i64 c, .int .i64 d], .agg #[.int .i64 a', .int .i64 b', .int .i64 c', .int .i64 d']] w fun e w' => e = .returned (.int .i64 V) ∧ Below w.heap.size w w') := by
  cases h : (ddaValid a b c d && (ddaValid a' b' c' d' && kinValid f t))
  · exact ⟨0, fun w => lim_junction_f f x t a b c d a' b' c' d' w h, fun w => ref43_junction_f f x t a b c d a' b' c' d' w h⟩
  · rw [Bool.and_eq_true, Bool.and_eq_true] at h
    exact ⟨_, fun w => lim_junction_t f x t a b c d a' b' c' d' w h.2.2 h.1 h.2.1, fun w => ref43_junction_t f x t a b c d a' b' c' d' w h.2.2 h.1 h.2.1⟩

set_option maxRecDepth 100000 in
set_option maxHeartbeats 4000000 in
theorem walk (f : Nat → Int) (x : Bool) (t a b c d a' b' c' d' : Int) (w : World) :
    Calls Try.prog 10 #[.agg (mach f x t), .agg #[.int .i64 a, .int .i64 b, .int .i64 c, .int .i64 d], .agg #[.int .i64 a', .int .i64 b', .int .i64 c', .int .i64 d']] w fun e w' => e = .returned (.bool true) ∧ Below w.heap.size w w' := by
  obtain ⟨V, k1, k2⟩ := accels f x t a b c d
  obtain ⟨U, k3, k4⟩ := juncs f x t a b c d a' b' c' d'
  have K1 := Lib.hid k1
  have K2 := Lib.hid k2
  have K3 := Lib.hid k3
  have K4 := Lib.hid k4
  clear k1 k2 k3 k4
  have hV : (V == V) = true := by simp
  have hU : (U == U) = true := by simp
  go_enter Try.func10, Try.ntmps10
  go_upto_region 1 with (fail)
  refine gen_world (fun wx => Live wx w.heap.size (mach f x t) ∧ Live wx (w.heap.size + 1) #[.int .i64 a, .int .i64 b, .int .i64 c, .int .i64 d] ∧ Live wx (w.heap.size + 2) #[.int .i64 a', .int .i64 b', .int .i64 c', .int .i64 d'] ∧ Below w.heap.size w wx) ?_ ?_
  · refine ⟨live_alloc (live_alloc (live_new _ _ rfl) _) _, live_alloc (live_new _ _ (by simp)) _, live_new _ _ (by simp), ?_⟩
    (repeat' (first | with_reducible exact Below.refl _ _ | with_reducible refine Below.drew ?_ | with_reducible refine below_drewN ?_ _ | with_reducible refine Below.alloc ?_ ?_ _ | with_reducible refine Below.setCell ?_ ?_ _ | with_reducible refine Below.trans ?_ (Below.mono (by with_reducible assumption) ?_) | (simp; done) | (simp; omega) | omega))
  rintro wx ⟨L, L1, L2, hb⟩
  have p0 := L.1
  have p1 := L1.1
  have p2 := L2.1
  have hld : ∀ w' : World, w'.rangeAt (w.heap.size) 0 (mach f x t).toList → (loadM (.pointer (some ⟨w.heap.size, 0, none⟩))).run Try.prog w' = .ok (.agg (mach f x t)) w' := fun w' h => loadM_run h
  go_region_held3 (fun w' => w'.rangeAt (w.heap.size) 0 (mach f x t).toList ∧ w'.cell? ⟨w.heap.size + 1, 0, none⟩ = some (.int .i64 a) ∧ w'.cell? ⟨w.heap.size + 1, 1, none⟩ = some (.int .i64 b) ∧ w'.cell? ⟨w.heap.size + 1, 2, none⟩ = some (.int .i64 c) ∧ w'.cell? ⟨w.heap.size + 1, 3, none⟩ = some (.int .i64 d) ∧ w'.cell? ⟨w.heap.size + 2, 0, none⟩ = some (.int .i64 a') ∧ w'.cell? ⟨w.heap.size + 2, 1, none⟩ = some (.int .i64 b') ∧ w'.cell? ⟨w.heap.size + 2, 2, none⟩ = some (.int .i64 c') ∧ w'.cell? ⟨w.heap.size + 2, 3, none⟩ = some (.int .i64 d')) (first | (focus (((with_reducible apply live_M44) <;> ((repeat (first | with_reducible assumption | ((with_reducible apply live_new) <;> (first | with_reducible rfl | (focus (simp; done)))) | with_reducible apply live_alloc | with_reducible apply live_drew | with_reducible apply live_drewN | ((with_reducible apply live_set_other); (case hb => first | omega | (simp; done))) | with_reducible apply live_set_same | (focus (simp; done)))))); done)) | go_keep)
    (first | (go_at_call 30; (with_reducible refine (K1.out _).mono ?_); rintro e w1 ⟨rfl, hb1⟩; have z1 := hb1.size; (try simp at z1); have L1a := live_below hb1 (b := w.heap.size) (by (repeat (first | with_reducible assumption | ((with_reducible apply live_new) <;> (first | with_reducible rfl | (focus (simp; done)))) | with_reducible apply live_alloc | with_reducible apply live_drew | with_reducible apply live_drewN | ((with_reducible apply live_set_other); (case hb => first | omega | (simp; done))) | with_reducible apply live_set_same | (focus (simp; done))))); obtain ⟨p1a, e1a, f1a⟩ := id L1a; have L1b := live_below hb1 (b := w.heap.size + 1) (by (repeat (first | with_reducible assumption | ((with_reducible apply live_new) <;> (first | with_reducible rfl | (focus (simp; done)))) | with_reducible apply live_alloc | with_reducible apply live_drew | with_reducible apply live_drewN | ((with_reducible apply live_set_other); (case hb => first | omega | (simp; done))) | with_reducible apply live_set_same | (focus (simp; done))))); obtain ⟨p1b, e1b, f1b⟩ := id L1b; have L1c := live_below hb1 (b := w.heap.size + 2) (by (repeat (first | with_reducible assumption | ((with_reducible apply live_new) <;> (first | with_reducible rfl | (focus (simp; done)))) | with_reducible apply live_alloc | with_reducible apply live_drew | with_reducible apply live_drewN | ((with_reducible apply live_set_other); (case hb => first | omega | (simp; done))) | with_reducible apply live_set_same | (focus (simp; done))))); obtain ⟨p1c, e1c, f1c⟩ := id L1c; clear e1a) | (go_at_call 31; (with_reducible refine (K2.out _).mono ?_); rintro e w2 ⟨rfl, hb2⟩; have z2 := hb2.size; (try simp at z2); have L2a := live_below hb2 (b := w.heap.size) (by (repeat (first | with_reducible assumption | ((with_reducible apply live_new) <;> (first | with_reducible rfl | (focus (simp; done)))) | with_reducible apply live_alloc | with_reducible apply live_drew | with_reducible apply live_drewN | ((with_reducible apply live_set_other); (case hb => first | omega | (simp; done))) | with_reducible apply live_set_same | (focus (simp; done))))); obtain ⟨p2a, e2a, f2a⟩ := id L2a; have L2b := live_below hb2 (b := w.heap.size + 1) (by (repeat (first | with_reducible assumption | ((with_reducible apply live_new) <;> (first | with_reducible rfl | (focus (simp; done)))) | with_reducible apply live_alloc | with_reducible apply live_drew | with_reducible apply live_drewN | ((with_reducible apply live_set_other); (case hb => first | omega | (simp; done))) | with_reducible apply live_set_same | (focus (simp; done))))); obtain ⟨p2b, e2b, f2b⟩ := id L2b; have L2c := live_below hb2 (b := w.heap.size + 2) (by (repeat (first | with_reducible assumption | ((with_reducible apply live_new) <;> (first | with_reducible rfl | (focus (simp; done)))) | with_reducible apply live_alloc | with_reducible apply live_drew | with_reducible apply live_drewN | ((with_reducible apply live_set_other); (case hb => first | omega | (simp; done))) | with_reducible apply live_set_same | (focus (simp; done))))); obtain ⟨p2c, e2c, f2c⟩ := id L2c; clear e2a) | (go_at_call 32; (with_reducible refine (K3.out _).mono ?_); rintro e w3 ⟨rfl, hb3⟩; have z3 := hb3.size; (try simp at z3); have L3a := live_below hb3 (b := w.heap.size) (by (repeat (first | with_reducible assumption | ((with_reducible apply live_new) <;> (first | with_reducible rfl | (focus (simp; done)))) | with_reducible apply live_alloc | with_reducible apply live_drew | with_reducible apply live_drewN | ((with_reducible apply live_set_other); (case hb => first | omega | (simp; done))) | with_reducible apply live_set_same | (focus (simp; done))))); obtain ⟨p3a, e3a, f3a⟩ := id L3a; have L3b := live_below hb3 (b := w.heap.size + 1) (by (repeat (first | with_reducible assumption | ((with_reducible apply live_new) <;> (first | with_reducible rfl | (focus (simp; done)))) | with_reducible apply live_alloc | with_reducible apply live_drew | with_reducible apply live_drewN | ((with_reducible apply live_set_other); (case hb => first | omega | (simp; done))) | with_reducible apply live_set_same | (focus (simp; done))))); obtain ⟨p3b, e3b, f3b⟩ := id L3b; have L3c := live_below hb3 (b := w.heap.size + 2) (by (repeat (first | with_reducible assumption | ((with_reducible apply live_new) <;> (first | with_reducible rfl | (focus (simp; done)))) | with_reducible apply live_alloc | with_reducible apply live_drew | with_reducible apply live_drewN | ((with_reducible apply live_set_other); (case hb => first | omega | (simp; done))) | with_reducible apply live_set_same | (focus (simp; done))))); obtain ⟨p3c, e3c, f3c⟩ := id L3c; clear e3a) | (go_at_call 33; (with_reducible refine (K4.out _).mono ?_); rintro e w4 ⟨rfl, hb4⟩; have z4 := hb4.size; (try simp at z4); have L4a := live_below hb4 (b := w.heap.size) (by (repeat (first | with_reducible assumption | ((with_reducible apply live_new) <;> (first | with_reducible rfl | (focus (simp; done)))) | with_reducible apply live_alloc | with_reducible apply live_drew | with_reducible apply live_drewN | ((with_reducible apply live_set_other); (case hb => first | omega | (simp; done))) | with_reducible apply live_set_same | (focus (simp; done))))); obtain ⟨p4a, e4a, f4a⟩ := id L4a; have L4b := live_below hb4 (b := w.heap.size + 1) (by (repeat (first | with_reducible assumption | ((with_reducible apply live_new) <;> (first | with_reducible rfl | (focus (simp; done)))) | with_reducible apply live_alloc | with_reducible apply live_drew | with_reducible apply live_drewN | ((with_reducible apply live_set_other); (case hb => first | omega | (simp; done))) | with_reducible apply live_set_same | (focus (simp; done))))); obtain ⟨p4b, e4b, f4b⟩ := id L4b; have L4c := live_below hb4 (b := w.heap.size + 2) (by (repeat (first | with_reducible assumption | ((with_reducible apply live_new) <;> (first | with_reducible rfl | (focus (simp; done)))) | with_reducible apply live_alloc | with_reducible apply live_drew | with_reducible apply live_drewN | ((with_reducible apply live_set_other); (case hb => first | omega | (simp; done))) | with_reducible apply live_set_same | (focus (simp; done))))); obtain ⟨p4c, e4c, f4c⟩ := id L4c; clear e4a) | (go_at_call 29; refine (law43_awake _).mono ?_; rintro e w9 ⟨rfl, hb9⟩; have z9 := hb9.size; (try simp at z9); have L9a := live_below hb9 (b := w.heap.size) (by (repeat (first | with_reducible assumption | ((with_reducible apply live_new) <;> (first | with_reducible rfl | (focus (simp; done)))) | with_reducible apply live_alloc | with_reducible apply live_drew | with_reducible apply live_drewN | ((with_reducible apply live_set_other); (case hb => first | omega | (simp; done))) | with_reducible apply live_set_same | (focus (simp; done))))); obtain ⟨p9a, e9a, f9a⟩ := id L9a; have L9b := live_below hb9 (b := w.heap.size + 1) (by (repeat (first | with_reducible assumption | ((with_reducible apply live_new) <;> (first | with_reducible rfl | (focus (simp; done)))) | with_reducible apply live_alloc | with_reducible apply live_drew | with_reducible apply live_drewN | ((with_reducible apply live_set_other); (case hb => first | omega | (simp; done))) | with_reducible apply live_set_same | (focus (simp; done))))); obtain ⟨p9b, e9b, f9b⟩ := id L9b; have L9c := live_below hb9 (b := w.heap.size + 2) (by (repeat (first | with_reducible assumption | ((with_reducible apply live_new) <;> (first | with_reducible rfl | (focus (simp; done)))) | with_reducible apply live_alloc | with_reducible apply live_drew | with_reducible apply live_drewN | ((with_reducible apply live_set_other); (case hb => first | omega | (simp; done))) | with_reducible apply live_set_same | (focus (simp; done))))); obtain ⟨p9c, e9c, f9c⟩ := id L9c; clear e9a))
  all_goals (try go_wp2_with fail)
  all_goals go_ret
  all_goals refine ⟨rfl, ?_⟩
  all_goals (repeat' (first | with_reducible exact Below.refl _ _ | with_reducible refine Below.drew ?_ | with_reducible refine below_drewN ?_ _ | with_reducible refine Below.alloc ?_ ?_ _ | with_reducible refine Below.setCell ?_ ?_ _ | with_reducible refine Below.trans ?_ (Below.mono (by with_reducible assumption) ?_) | (simp; done) | (simp; omega) | omega))

set_option maxRecDepth 100000 in
theorem lifted (os : Os) (started : os.Started) (H : Type) (enc : TypeId × Value → H) :
    ReturnsInHanded {} Try.checked os 10 .any (Rows.limitsAccelsSpec.pre6 enc Try.prog Try.f10 Rows.limitsAccelsRow.domain false) (Rows.limitsAccelsSpec.post enc Try.prog Try.f10 false true false false) := by
  refine returnsInHanded_of_change (C := Try.checked) own started (by kernel_rfl) Try.func10
    (ChangeSpec.witness6 (enc := enc) (C := Try.checked) false ⟨#[], #[.agg #[.int .i64 0, .int .i64 0, .int .i64 0, .int .i64 0, .int .i64 0, .int .i64 0, .int .i64 0, .int .i64 0, .int .i64 0, .int .i64 0, .int .i64 0, .int .i64 0, .int .i64 0, .int .i64 0, .int .i64 0, .int .i64 0, .int .i64 0, .int .i64 0, .int .i64 0, .int .i64 0, .int .i64 0, .int .i64 0, .int .i64 0, .int .i64 0, .int .i64 0, .int .i64 0, .int .i64 0, .int .i64 0, .bool false, .int .i64 0], .agg #[.int .i64 0, .int .i64 0, .int .i64 0, .int .i64 0], .agg #[.int .i64 0, .int .i64 0, .int .i64 0, .int .i64 0]], []⟩ 8 (by kernel_rfl) (by kernel_rfl) (by kernel_rfl) (by kernel_rfl)) ?_
  intro W base args ds gs before hval0 hW _ _
  have hval : ∀ (j : Nat) t v, Try.f10.params[j]? = some t → args[j]? = some v → Value.okWide Try.prog W .any base t v := hval0
  have hW' := hW
  obtain ⟨p, q, hA0, hV, rfl, _, _⟩ := hW
  have hA : DataW.TrodAll enc Try.prog W 0 (fun _ => true) true Try.f10.params.toList args.toList ds p := hA0
  rw [Try.params10] at hA hval
  obtain ⟨v0, v1, v2, d0, d1, d2, p0, p1, p2, rfl, rfl, rfl, h0, h1, h2⟩ := trodAll_three hA
  clear hA hA0 hval0
  obtain ⟨f0, x0, t0, bf0, bt0, rfl⟩ := mach_open (hval 0 26 v0 rfl rfl)
  obtain ⟨f1, bf1, rfl⟩ := flat_ints (n := 4) (u := 3) (by kernel_rfl) (by kernel_rfl) (by kernel_rfl) Try.underlying3 (hval 1 36 v1 rfl rfl)
  obtain ⟨f2, bf2, rfl⟩ := flat_ints (n := 4) (u := 3) (by kernel_rfl) (by kernel_rfl) (by kernel_rfl) Try.underlying3 (hval 2 36 v2 rfl rfl)
  exact (walk f0 x0 t0 (f1 0) (f1 1) (f1 2) (f1 3) (f2 0) (f2 1) (f2 2) (f2 3) W).mono fun e W' ⟨he, hb⟩ => ⟨_, he, law_post laidOut (by kernel_rfl) rfl (fun _ => rfl) rfl Try.underlying4 hW' hb⟩

theorem holds : Rows.LimitsAccelsSaid :=
  OpenClaim.holds_of_wide 10 Try.f10 rfl rfl rfl rfl rfl rfl rfl ⟨rfl, rfl, rfl, rfl, rfl⟩ rfl rfl rfl rfl rfl (by kernel_rfl) Try.func10 (by kernel_rfl)
    (of_decide_eq_true (by kernel_rfl)) (by unfold Func.isWrapper; rw [if_neg (of_decide_eq_false (by kernel_rfl))]; exact ⟨rfl, rfl⟩)
    (fun os started H enc _ => lifted os started H enc)

#print axioms holds
end Go.Proofs.Ythodfmmmddfkmaa.limitsAccels
