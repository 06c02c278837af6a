/- The example of chapter 41: true -/
import Derived.Test.YthodfmmmddfkmaaProg
import Derived.WalkKit
import Derived.WalkLawsBesides
import Derived.Laws.StructEq
import Derived.Outline
import Derived.Lib.Hide
import Derived.Test.YthodfmmmddfkmaaKinPlain
import Derived.Test.YthodfmmmddfkmaaKinInside
import Derived.Test.YthodfmmmddfkmaaKinMotors
import Derived.Test.YthodfmmmddfkmaaKinPos
namespace Go.Proofs.Ythodfmmmddfkmaa
open Go.RowKit
set_option linter.unusedVariables false

attribute [local go_sem] cell_past1 cell_past2 cell_past3 cell_past4 froz_past1 froz_past2 froz_past3
attribute [local go_sem ↓] loadM_in

theorem ex41_st1 : stV (plF 5 2 4) 1000 0 3 = 8 ∧ stE (plF 5 2 4) 1000 0 3 = 0 := by decide
theorem ex41_st2 : stV (plF 5 2 4) 1000 3 (-3) = -7 ∧ stE (plF 5 2 4) 1000 3 (-3) = 0 := by decide
theorem ex41_un : unV (plF 5 2 4) 1000 0 8 = 3 ∧ unE (plF 5 2 4) 1000 0 8 = 0 := by decide
theorem ex41_mo : moV (plF 1 1 4) true 1000 3 1 0 5 0 = 4 ∧ moV (plF 1 1 4) true 1000 3 1 0 5 1 = 2 ∧ moV (plF 1 1 4) true 1000 3 1 0 5 2 = 0 ∧ moV (plF 1 1 4) true 1000 3 1 0 5 3 = 5 ∧ moE (plF 1 1 4) 1000 3 1 0 5 = 0 := by decide
theorem ex41_po : poV (plF 1 1 4) true 1000 4 2 0 5 0 = 3 ∧ poV (plF 1 1 4) true 1000 4 2 0 5 1 = 1 ∧ poV (plF 1 1 4) true 1000 4 2 0 5 2 = 0 ∧ poV (plF 1 1 4) true 1000 4 2 0 5 3 = 5 ∧ poE (plF 1 1 4) true 1000 4 2 0 5 = 0 := by decide
theorem ex41_va : kinValid (plF 1 2 4) 1000 = false ∧ kinValid (plF 1 1 4) 1000 = true ∧ kinValid (fun _ => 0) 0 = false := by decide
theorem ex41_in : insB (plF 1 1 4) 1000 1000 0 0 = true ∧ insB (plF 1 1 4) 1000 1001 0 0 = false := by decide
theorem mach_xy (f : Nat → Int) (x : Bool) (t : Int) : (mach f x t).setIfInBounds 28 (.bool true) = mach f true t := rfl

set_option maxRecDepth 100000 in
set_option maxHeartbeats 4000000 in
theorem law41_awake (w : World) : Calls Try.prog 18 #[] w fun e w' => e = .returned (.bool true) ∧ Below w.heap.size w w' := by
  have q1 : ∀ w, (binOp .eql 36 (.agg #[.int .i64 4, .int .i64 2, .int .i64 0, .int .i64 5]) (.agg #[.int .i64 4, .int .i64 2, .int .i64 0, .int .i64 5])).run Try.prog w = .ok (.bool true) w := fun w => arr_eql _ _ _ _ _ _ _ _ w
  go_enter Try.func18, Try.ntmps18
  go_upto_region 4 with (first | (go_at_call 41; ((with_reducible refine (law41_plain 5 2 _).mono ?_); rintro e w1 ⟨rfl, hb1⟩; have z1 := hb1.size; (try simp at z1))) | (go_at_call 19; ((with_reducible refine (kin_steps (plF 5 2 4) false 1000 0 3 _).mono ?_); rw [ex41_st1.1, ex41_st1.2]; rintro e w2 ⟨rfl, hb2⟩; have z2 := hb2.size; (try simp at z2))) | (go_at_call 19; ((with_reducible refine (kin_steps (plF 5 2 4) false 1000 3 (-3) _).mono ?_); rw [ex41_st2.1, ex41_st2.2]; rintro e w3 ⟨rfl, hb3⟩; have z3 := hb3.size; (try simp at z3))) | (go_at_call 21; ((with_reducible refine (kin_units (plF 5 2 4) false 1000 0 8 _).mono ?_); rw [ex41_un.1, ex41_un.2]; rintro e w4 ⟨rfl, hb4⟩; have z4 := hb4.size; (try simp at z4))))
  refine gen_world (fun wx => Below w.heap.size w wx) ?_ ?_
  · (repeat' (first | with_reducible exact Below.refl _ _ | with_reducible refine Below.drew ?_ | with_reducible refine below_drewN ?_ _ | with_reducible refine Below.alloc ?_ ?_ _ | with_reducible refine Below.setCell ?_ ?_ _ | with_reducible refine Below.trans ?_ (Below.mono (by with_reducible assumption) ?_) | (simp; done) | (simp; omega) | omega))
  intro wx hb
  go_upto_region 5 with (first | (go_at_call 41; ((with_reducible refine (law41_plain 1 1 _).mono ?_); rintro e w1 ⟨rfl, hb1⟩)) | (with_reducible refine wpList_alloc_in (ty := 26) zeroM (alloc_M _) ?_) | ((with_reducible refine wpList_store_in (ty := 26) w1.heap.size 0 (mach (plF 1 1 4) false 1000) ?_ ?_ ?_ ?_ (mach_one _ _ _) ?_); (· rfl); (· rfl); (· exact live_there (c := zeroM) (live_new _ _ rfl) 0 30 (by decide)); (· kernel_rfl)))
  have hb := hb.trans (hb1.mono hb.size)
  refine gen_world (fun wx => Live wx w1.heap.size (mach (plF 1 1 4) false 1000) ∧ Below w.heap.size w wx) ⟨live_conv (live_whole (live_new _ _ rfl) _ rfl) rfl, below_setCells hb.size _ _ _ (hb.alloc hb.size _)⟩ ?_
  have hM := hb.size
  clear hb hb1
  generalize w1.heap.size = M at hM ⊢
  rintro wx ⟨L, hb⟩
  have c28 := L.2.1 28
  rw [mach_28] at c28
  have f28 := L.2.2 28
  go_upto_region 6 with (fail)
  refine gen_world (fun wx => Live wx M (mach (plF 1 1 4) true 1000) ∧ Below w.heap.size w wx) ⟨live_conv (live_set_same L 28 _ (by decide)) (mach_xy _ _ _), hb.setCell hM _⟩ ?_
  clear L hb c28 f28
  rintro wx ⟨L, hb⟩
  have lm := loadM_run (live_rangeAll L)
  go_upto_region 7 with ((go_at_call 23; ((with_reducible refine (kin_motors (plF 1 1 4) true 1000 3 1 0 5 _).mono ?_); rw [ex41_mo.1, ex41_mo.2.1, ex41_mo.2.2.1, ex41_mo.2.2.2.1, ex41_mo.2.2.2.2]; rintro e w2 ⟨rfl, hb2⟩; have z2 := hb2.size)))
  have pM := L.1
  refine gen_world (fun wx => Live wx M (mach (plF 1 1 4) true 1000) ∧ Live wx w2.heap.size #[.int .i64 4, .int .i64 2, .int .i64 0, .int .i64 5] ∧ Below w.heap.size w wx) ⟨live_alloc (live_below hb2 L) _, live_new _ _ rfl, (hb.trans (hb2.mono hb.size)).alloc (by omega) _⟩ ?_
  have hA : M < w2.heap.size := by omega
  clear lm L hb hb2 z2 pM
  generalize w2.heap.size = A at hA ⊢
  rintro wx ⟨L, LA, hb⟩
  have lm := loadM_run (live_rangeAll L)
  obtain ⟨a0, a1, a2, a3⟩ := live_four LA
  go_upto_region 8 with ((go_at_call 25; ((with_reducible refine (kin_position (plF 1 1 4) true 1000 4 2 0 5 _).mono ?_); rw [ex41_po.1, ex41_po.2.1, ex41_po.2.2.1, ex41_po.2.2.2.1, ex41_po.2.2.2.2]; rintro e w3 ⟨rfl, hb3⟩; have z3 := hb3.size)))
  have pA := LA.1
  refine gen_world (fun wx => Live wx M (mach (plF 1 1 4) true 1000) ∧ Live wx A #[.int .i64 4, .int .i64 2, .int .i64 0, .int .i64 5] ∧ Live wx w3.heap.size #[.int .i64 3, .int .i64 1, .int .i64 0] ∧ Below w.heap.size w wx) ⟨live_alloc (live_below hb3 L) _, live_alloc (live_below hb3 LA) _, live_new _ _ rfl, (hb.trans (hb3.mono hb.size)).alloc (by omega) _⟩ ?_
  have hV : A < w3.heap.size := by omega
  clear lm L LA a0 a1 a2 a3 hb hb3 z3 pA
  generalize w3.heap.size = V at hV ⊢
  rintro wx ⟨L, LA, LV, hb⟩
  obtain ⟨a0, a1, a2, a3⟩ := live_four LA
  obtain ⟨v0, v1, v2⟩ : wx.cell? ⟨V, 0, none⟩ = some (.int .i64 3) ∧ wx.cell? ⟨V, 1, none⟩ = some (.int .i64 1) ∧ wx.cell? ⟨V, 2, none⟩ = some (.int .i64 0) := ⟨LV.2.1 0, LV.2.1 1, LV.2.1 2⟩
  clear LA LV
  have zM : ∀ w, (Instr.build 26 #[]).run Try.prog w = .ok (.agg (mach (fun _ => 0) false 0)) w := fun w => run_build w _ _ _ (by kernel_rfl)
  go_wp2_with (first | (go_at_call 41; ((with_reducible refine (law41_plain 1 2 _).mono ?_); rintro e w5 ⟨rfl, hb5⟩; have z5 := hb5.size; (try simp at z5); have L5a := live_below hb5 (b := M) (by (repeat (first | with_reducible assumption | ((with_reducible apply live_new) <;> (first | with_reducible rfl | (focus (simp; done)))) | with_reducible apply live_alloc | with_reducible apply live_drew | with_reducible apply live_drewN | ((with_reducible apply live_set_other); (case hb => first | omega | (simp; done))) | with_reducible apply live_set_same | (focus (simp; done))))); obtain ⟨p5a, e5a, f5a⟩ := id L5a; clear e5a f5a; have lm := loadM_run (live_rangeAll L5a))) | (go_at_call 14; ((with_reducible refine (kin_valid_m (plF 1 2 4) false 1000 _).mono ?_); rw [ex41_va.1]; rintro e w6 ⟨rfl, hb6⟩; have z6 := hb6.size; (try simp at z6); have L6a := live_below hb6 (b := M) (by (repeat (first | with_reducible assumption | ((with_reducible apply live_new) <;> (first | with_reducible rfl | (focus (simp; done)))) | with_reducible apply live_alloc | with_reducible apply live_drew | with_reducible apply live_drewN | ((with_reducible apply live_set_other); (case hb => first | omega | (simp; done))) | with_reducible apply live_set_same | (focus (simp; done))))); obtain ⟨p6a, e6a, f6a⟩ := id L6a; clear e6a f6a; have lm6 := loadM_run (live_rangeAll L6a))) | (go_at_call 14; ((with_reducible refine (kin_valid_m (plF 1 1 4) true 1000 _).mono ?_); rw [ex41_va.2.1]; rintro e w7 ⟨rfl, hb7⟩; have z7 := hb7.size; (try simp at z7); have L7a := live_below hb7 (b := M) (by (repeat (first | with_reducible assumption | ((with_reducible apply live_new) <;> (first | with_reducible rfl | (focus (simp; done)))) | with_reducible apply live_alloc | with_reducible apply live_drew | with_reducible apply live_drewN | ((with_reducible apply live_set_other); (case hb => first | omega | (simp; done))) | with_reducible apply live_set_same | (focus (simp; done))))); obtain ⟨p7a, e7a, f7a⟩ := id L7a; clear e7a f7a; have lm7 := loadM_run (live_rangeAll L7a))) | (go_at_call 14; refine (kin_valid_m (fun _ => 0) false 0 _).mono ?_; rw [ex41_va.2.2]; rintro e w8 ⟨rfl, hb8⟩; have z8 := hb8.size; (try simp at z8); have L8a := live_below hb8 (b := M) (by (repeat (first | with_reducible assumption | ((with_reducible apply live_new) <;> (first | with_reducible rfl | (focus (simp; done)))) | with_reducible apply live_alloc | with_reducible apply live_drew | with_reducible apply live_drewN | ((with_reducible apply live_set_other); (case hb => first | omega | (simp; done))) | with_reducible apply live_set_same | (focus (simp; done))))); obtain ⟨p8a, e8a, f8a⟩ := id L8a; clear e8a f8a; have lm8 := loadM_run (live_rangeAll L8a)) | (go_at_call 16; ((with_reducible refine (kin_inside (plF 1 1 4) true 1000 1000 0 0 _).mono ?_); rw [ex41_in.1]; rintro e w9 ⟨rfl, hb9⟩; have z9 := hb9.size; (try simp at z9); have L9a := live_below hb9 (b := M) (by (repeat (first | with_reducible assumption | ((with_reducible apply live_new) <;> (first | with_reducible rfl | (focus (simp; done)))) | with_reducible apply live_alloc | with_reducible apply live_drew | with_reducible apply live_drewN | ((with_reducible apply live_set_other); (case hb => first | omega | (simp; done))) | with_reducible apply live_set_same | (focus (simp; done))))); obtain ⟨p9a, e9a, f9a⟩ := id L9a; clear e9a f9a; have lm9 := loadM_run (live_rangeAll L9a))) | (go_at_call 16; ((with_reducible refine (kin_inside (plF 1 1 4) true 1000 1001 0 0 _).mono ?_); rw [ex41_in.2]; rintro e w10 ⟨rfl, hb10⟩; have z10 := hb10.size; (try simp at z10))))
  go_ret
  have pw := hb.size
  refine ⟨rfl, ?_⟩
  (repeat' (first | with_reducible exact Below.refl _ _ | with_reducible refine Below.drew ?_ | with_reducible refine below_drewN ?_ _ | with_reducible refine Below.alloc ?_ ?_ _ | with_reducible refine Below.setCell ?_ ?_ _ | with_reducible refine Below.trans ?_ (Below.mono (by with_reducible assumption) ?_) | (simp; done) | (simp; omega) | omega))
end Go.Proofs.Ythodfmmmddfkmaa
