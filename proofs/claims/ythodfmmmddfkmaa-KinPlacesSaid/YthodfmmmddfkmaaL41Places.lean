/- KinPlaces: Motors and Position of the program and of the reference return the same, for all machines, positions and numbers -/
import Derived.Handy
import Derived.Laws.StructEq
import Derived.Test.YthodfmmmddfkmaaKinPlaces
import Derived.Test.YthodfmmmddfkmaaKinMotorsR
import Derived.Test.YthodfmmmddfkmaaKinPosR
import Derived.Test.YthodfmmmddfkmaaL41Awake
namespace Go.Proofs.Ythodfmmmddfkmaa.kinPlaces
open Go.ChangeShapes Go.WideShapes Go.ChangeAt Go.RowKit
set_option linter.unusedVariables false

attribute [local go_sem] cell_past1 cell_past2 cell_past3 cell_past4 froz_past1 froz_past2 froz_past3
attribute [local go_sem ↓] loadM_in

set_option maxRecDepth 100000 in
set_option maxHeartbeats 4000000 in
theorem walk (f : Nat → Int) (x : Bool) (t : Int) (g : Nat → Int) (w : World) :
    Calls Try.prog 5 #[.agg (placeA f x t g)] w fun e w' => e = .returned (.bool true) ∧ Below w.heap.size w w' := by
  have hq : ∀ (x y z u : Int) (w : World), (binOp .eql 36 (.agg #[.int .i64 x, .int .i64 y, .int .i64 z, .int .i64 u]) (.agg #[.int .i64 x, .int .i64 y, .int .i64 z, .int .i64 u])).run Try.prog w = .ok (.bool true) w := fun x y z u w => by
    rw [arr_eql]; simp [same4]
  go_enter Try.func5, Try.ntmps5
  go_upto_region 1 with (fail)
  refine gen_world (fun wx => Live wx w.heap.size (placeA f x t g) ∧ Below w.heap.size w wx) ?_ ?_
  · refine ⟨live_new _ _ rfl, ?_⟩
    (repeat' (first | with_reducible exact Below.refl _ _ | with_reducible refine Below.drew ?_ | with_reducible refine below_drewN ?_ _ | with_reducible refine Below.alloc ?_ ?_ _ | with_reducible refine Below.setCell ?_ ?_ _ | with_reducible refine Below.trans ?_ (Below.mono (by with_reducible assumption) ?_) | (simp; done) | (simp; omega) | omega))
  rintro wx ⟨L, hb⟩
  have lm := loadM_run (place_range f x t g L)
  obtain ⟨c0, c1, c2, c3, c4, c5, c6, c7⟩ := place_tail L
  go_upto_region 2 with ((go_at_call 23; refine (kin_motors _ _ _ _ _ _ _ _).mono ?_; rintro e w1 ⟨rfl, hb1⟩))
  have pw := hb.size
  have z1 := hb1.size
  refine gen_world (fun wx => Live wx w.heap.size (placeA f x t g) ∧ Live wx w1.heap.size #[.int .i64 (moV f x t (g 0) (g 1) (g 2) (g 3) 0), .int .i64 (moV f x t (g 0) (g 1) (g 2) (g 3) 1), .int .i64 (moV f x t (g 0) (g 1) (g 2) (g 3) 2), .int .i64 (moV f x t (g 0) (g 1) (g 2) (g 3) 3)] ∧ Below w.heap.size w wx) ⟨live_alloc (live_below hb1 L) _, live_new _ _ rfl, (hb.trans (hb1.mono pw)).alloc (by omega) _⟩ ?_
  have hA : w.heap.size < w1.heap.size := by have := L.1; omega
  clear L hb lm c0 c1 c2 c3 c4 c5 c6 c7 hb1 pw z1
  generalize w1.heap.size = A at hA ⊢
  rintro wx ⟨L, LA, hb⟩
  have lm := loadM_run (place_range f x t g L)
  obtain ⟨c0, c1, c2, c3, c4, c5, c6, c7⟩ := place_tail L
  go_upto_region 3 with ((go_at_call 24; refine (ref41_motors _ _ _ _ _ _ _ _).mono ?_; rintro e w1 ⟨rfl, hb1⟩))
  have pw := hb.size
  have z1 := hb1.size
  refine gen_world (fun wx => Live wx w.heap.size (placeA f x t g) ∧ Live wx A #[.int .i64 (moV f x t (g 0) (g 1) (g 2) (g 3) 0), .int .i64 (moV f x t (g 0) (g 1) (g 2) (g 3) 1), .int .i64 (moV f x t (g 0) (g 1) (g 2) (g 3) 2), .int .i64 (moV f x t (g 0) (g 1) (g 2) (g 3) 3)] ∧ Live wx w1.heap.size #[.int .i64 (moV f x t (g 0) (g 1) (g 2) (g 3) 0), .int .i64 (moV f x t (g 0) (g 1) (g 2) (g 3) 1), .int .i64 (moV f x t (g 0) (g 1) (g 2) (g 3) 2), .int .i64 (moV f x t (g 0) (g 1) (g 2) (g 3) 3)] ∧ Below w.heap.size w wx) ⟨live_alloc (live_below hb1 L) _, live_alloc (live_below hb1 LA) _, live_new _ _ rfl, (hb.trans (hb1.mono pw)).alloc (by omega) _⟩ ?_
  have hB : A < w1.heap.size := by have := LA.1; omega
  clear L LA hb lm c0 c1 c2 c3 c4 c5 c6 c7 hb1 pw z1
  generalize w1.heap.size = B at hB ⊢
  rintro wx ⟨L, LA, LB, hb⟩
  have lm := loadM_run (place_range f x t g L)
  obtain ⟨c0, c1, c2, c3, c4, c5, c6, c7⟩ := place_tail L
  go_upto_region 4 with ((go_at_call 25; refine (kin_position _ _ _ _ _ _ _ _).mono ?_; rintro e w1 ⟨rfl, hb1⟩))
  have pw := hb.size
  have z1 := hb1.size
  refine gen_world (fun wx => Live wx w.heap.size (placeA f x t g) ∧ Live wx A #[.int .i64 (moV f x t (g 0) (g 1) (g 2) (g 3) 0), .int .i64 (moV f x t (g 0) (g 1) (g 2) (g 3) 1), .int .i64 (moV f x t (g 0) (g 1) (g 2) (g 3) 2), .int .i64 (moV f x t (g 0) (g 1) (g 2) (g 3) 3)] ∧ Live wx B #[.int .i64 (moV f x t (g 0) (g 1) (g 2) (g 3) 0), .int .i64 (moV f x t (g 0) (g 1) (g 2) (g 3) 1), .int .i64 (moV f x t (g 0) (g 1) (g 2) (g 3) 2), .int .i64 (moV f x t (g 0) (g 1) (g 2) (g 3) 3)] ∧ Live wx w1.heap.size #[.int .i64 (poV f x t (g 4) (g 5) (g 6) (g 7) 0), .int .i64 (poV f x t (g 4) (g 5) (g 6) (g 7) 1), .int .i64 (poV f x t (g 4) (g 5) (g 6) (g 7) 2)] ∧ Below w.heap.size w wx) ⟨live_alloc (live_below hb1 L) _, live_alloc (live_below hb1 LA) _, live_alloc (live_below hb1 LB) _, live_new _ _ rfl, (hb.trans (hb1.mono pw)).alloc (by omega) _⟩ ?_
  have hC : B < w1.heap.size := by have := LB.1; omega
  clear L LA LB hb lm c0 c1 c2 c3 c4 c5 c6 c7 hb1 pw z1
  generalize w1.heap.size = C at hC ⊢
  rintro wx ⟨L, LA, LB, LC, hb⟩
  have lm := loadM_run (place_range f x t g L)
  obtain ⟨c0, c1, c2, c3, c4, c5, c6, c7⟩ := place_tail L
  go_upto_region 5 with ((go_at_call 26; refine (ref41_position _ _ _ _ _ _ _ _).mono ?_; rintro e w1 ⟨rfl, hb1⟩))
  have pw := hb.size
  have z1 := hb1.size
  refine gen_world (fun wx => Live wx A #[.int .i64 (moV f x t (g 0) (g 1) (g 2) (g 3) 0), .int .i64 (moV f x t (g 0) (g 1) (g 2) (g 3) 1), .int .i64 (moV f x t (g 0) (g 1) (g 2) (g 3) 2), .int .i64 (moV f x t (g 0) (g 1) (g 2) (g 3) 3)] ∧ Live wx B #[.int .i64 (moV f x t (g 0) (g 1) (g 2) (g 3) 0), .int .i64 (moV f x t (g 0) (g 1) (g 2) (g 3) 1), .int .i64 (moV f x t (g 0) (g 1) (g 2) (g 3) 2), .int .i64 (moV f x t (g 0) (g 1) (g 2) (g 3) 3)] ∧ Live wx C #[.int .i64 (poV f x t (g 4) (g 5) (g 6) (g 7) 0), .int .i64 (poV f x t (g 4) (g 5) (g 6) (g 7) 1), .int .i64 (poV f x t (g 4) (g 5) (g 6) (g 7) 2)] ∧ Live wx w1.heap.size #[.int .i64 (poV f x t (g 4) (g 5) (g 6) (g 7) 0), .int .i64 (poV f x t (g 4) (g 5) (g 6) (g 7) 1), .int .i64 (poV f x t (g 4) (g 5) (g 6) (g 7) 2)] ∧ Below w.heap.size w wx) ⟨live_alloc (live_below hb1 LA) _, live_alloc (live_below hb1 LB) _, live_alloc (live_below hb1 LC) _, live_new _ _ rfl, (hb.trans (hb1.mono pw)).alloc (by omega) _⟩ ?_
  have hD : C < w1.heap.size := by have := LC.1; omega
  clear L LA LB LC hb lm c0 c1 c2 c3 c4 c5 c6 c7 hb1 pw z1
  generalize w1.heap.size = D at hD ⊢
  generalize moV f x t (g 0) (g 1) (g 2) (g 3) 0 = m0 at *
  generalize moV f x t (g 0) (g 1) (g 2) (g 3) 1 = m1 at *
  generalize moV f x t (g 0) (g 1) (g 2) (g 3) 2 = m2 at *
  generalize moV f x t (g 0) (g 1) (g 2) (g 3) 3 = m3 at *
  generalize poV f x t (g 4) (g 5) (g 6) (g 7) 0 = n0 at *
  generalize poV f x t (g 4) (g 5) (g 6) (g 7) 1 = n1 at *
  generalize poV f x t (g 4) (g 5) (g 6) (g 7) 2 = n2 at *
  rintro wx ⟨LA, LB, LC, LD, hb⟩
  obtain ⟨a0, a1, a2, a3⟩ := live_four LA
  obtain ⟨b0, b1, b2, b3⟩ := live_four LB
  obtain ⟨c0, c1, c2⟩ := live_three LC
  obtain ⟨d0, d1, d2⟩ := live_three LD
  have pw := hb.size
  go_wp2_with (go_at_call 18; refine (law41_awake _).mono ?_; rintro e w9 ⟨rfl, hb9⟩; have z9 := hb9.size; (try simp at z9))
  all_goals go_ret
  all_goals refine ⟨rfl, ?_⟩
  all_goals (refine Below.trans hb ?_; (repeat' (first | with_reducible exact Below.refl _ _ | with_reducible refine Below.drew ?_ | with_reducible refine below_drewN ?_ _ | with_reducible refine Below.alloc ?_ ?_ _ | with_reducible refine Below.setCell ?_ ?_ _ | with_reducible refine Below.trans ?_ (Below.mono (by with_reducible assumption) ?_) | (simp; done) | (simp; omega) | omega)))

set_option maxRecDepth 100000 in
theorem lifted (os : Os) (started : os.Started) (H : Type) (enc : TypeId × Value → H) :
    ReturnsInHanded {} Try.checked os 5 .any (Rows.kinPlacesSpec.pre6 enc Try.prog Try.f5 Rows.kinPlacesRow.domain false) (Rows.kinPlacesSpec.post enc Try.prog Try.f5 false true false false) := by
  refine returnsInHanded_of_change (C := Try.checked) own started (by kernel_rfl) Try.func5
    (ChangeSpec.witness6 (enc := enc) (C := Try.checked) false ⟨#[], #[.agg #[.int .i64 0, .int .i64 0, .int .i64 0, .int .i64 0, .int .i64 0, .int .i64 0, .int .i64 0, .int .i64 0, .int .i64 0, .int .i64 0, .int .i64 0, .int .i64 0, .int .i64 0, .int .i64 0, .int .i64 0, .int .i64 0, .int .i64 0, .int .i64 0, .int .i64 0, .int .i64 0, .int .i64 0, .int .i64 0, .int .i64 0, .int .i64 0, .int .i64 0, .int .i64 0, .int .i64 0, .int .i64 0, .bool false, .int .i64 0, .int .i64 0, .int .i64 0, .int .i64 0, .int .i64 0, .int .i64 0, .int .i64 0, .int .i64 0, .int .i64 0]], []⟩ 8 (by kernel_rfl) (by kernel_rfl) (by kernel_rfl) (by kernel_rfl)) ?_
  intro W base args ds gs before hval0 hW _ _
  have hval : ∀ (j : Nat) t v, Try.f5.params[j]? = some t → args[j]? = some v → Value.okWide Try.prog W .any base t v := hval0
  have hW' := hW
  obtain ⟨p, q, hA0, hV, rfl, _, _⟩ := hW
  have hA : DataW.TrodAll enc Try.prog W 0 (fun _ => true) true Try.f5.params.toList args.toList ds p := hA0
  rw [Try.params5] at hA hval
  obtain ⟨v0, d0, rfl, rfl, h0⟩ := trodAll_one hA
  clear hA hA0 hval0
  obtain ⟨f0, x0, t0, g0, bf0, bt0, bg0, rfl⟩ := place_open (hval 0 38 v0 rfl rfl)
  exact (walk f0 x0 t0 g0 W).mono fun e W' ⟨he, hb⟩ => ⟨_, he, law_post laidOut (by kernel_rfl) rfl (fun _ => rfl) rfl Try.underlying4 hW' hb⟩

theorem holds : Rows.KinPlacesSaid :=
  OpenClaim.holds_of_wide 5 Try.f5 rfl rfl rfl rfl rfl rfl rfl ⟨rfl, rfl, rfl, rfl, rfl⟩ rfl rfl rfl rfl rfl (by kernel_rfl) Try.func5 (by kernel_rfl)
    (of_decide_eq_true (by kernel_rfl)) (by unfold Func.isWrapper; rw [if_neg (of_decide_eq_false (by kernel_rfl))]; exact ⟨rfl, rfl⟩)
    (fun os started H enc _ => lifted os started H enc)

#print axioms holds
end Go.Proofs.Ythodfmmmddfkmaa.kinPlaces
