/- What Valid of the reference of chapter 41 returns, for all machines -/
import Derived.Test.YthodfmmmddfkmaaProg
import Derived.WalkKit
import Derived.WalkLawsBesides
import Derived.Handy
import Derived.Deep.DeepCutAuto
import Derived.LoopTactic
import Derived.Deep.MidRow
import Derived.Outline
import Derived.Lib.Hide
import Derived.Test.YthodfmmmddfkmaaKinValid
namespace Go.Proofs.Ythodfmmmddfkmaa
open Go.RowKit
set_option linter.unusedVariables false

attribute [local go_sem] cell_past1 cell_past2 cell_past3 cell_past4 froz_past1 froz_past2 froz_past3

theorem ax_two (f : Nat → Int) (k : Nat) : axAt f k = (decide (1 ≤ f (7 * k) ∧ f (7 * k) ≤ 65536 ∧ 1 ≤ f (7 * k + 1) ∧ f (7 * k + 1) ≤ f (7 * k) ∧ 1 ≤ f (7 * k + 2) ∧ f (7 * k + 2) ≤ 1048576 ∧ 1 ≤ f (7 * k + 3) ∧ f (7 * k + 3) ≤ 16777216 ∧ 1 ≤ f (7 * k + 4) ∧ f (7 * k + 4) ≤ 1048576) && decide (f (7 * k + 5) ≤ f (7 * k + 6) ∧ -1048576 ≤ f (7 * k + 5) ∧ f (7 * k + 6) ≤ 1048576)) := by
  unfold axAt axOk; rw [Bool.eq_iff_iff]; simp; omega

set_option maxRecDepth 100000 in
set_option maxHeartbeats 8000000 in
theorem ref41_valid (f : Nat → Int) (x : Bool) (t : Int) (w : World) :
    Calls Try.prog 15 #[.agg #[.int .i64 (f 0), .int .i64 (f 1), .int .i64 (f 2), .int .i64 (f 3), .int .i64 (f 4), .int .i64 (f 5), .int .i64 (f 6), .int .i64 (f 7), .int .i64 (f 8), .int .i64 (f 9), .int .i64 (f 10), .int .i64 (f 11), .int .i64 (f 12), .int .i64 (f 13), .int .i64 (f 14), .int .i64 (f 15), .int .i64 (f 16), .int .i64 (f 17), .int .i64 (f 18), .int .i64 (f 19), .int .i64 (f 20), .int .i64 (f 21), .int .i64 (f 22), .int .i64 (f 23), .int .i64 (f 24), .int .i64 (f 25), .int .i64 (f 26), .int .i64 (f 27), .bool x, .int .i64 t]] w fun e w' => e = .returned (.bool (kinValid f t)) ∧ Below w.heap.size w w' := by
  obtain ⟨i0, i1, i2, i3⟩ := ax_idx f
  go_enter Try.func15, Try.ntmps15
  go_upto_region 1 with (fail)
  refine gen_world (fun wx => wx.rangeAt w.heap.size 0 [.int .i64 (f 0), .int .i64 (f 1), .int .i64 (f 2), .int .i64 (f 3), .int .i64 (f 4), .int .i64 (f 5), .int .i64 (f 6), .int .i64 (f 7), .int .i64 (f 8), .int .i64 (f 9), .int .i64 (f 10), .int .i64 (f 11), .int .i64 (f 12), .int .i64 (f 13), .int .i64 (f 14), .int .i64 (f 15), .int .i64 (f 16), .int .i64 (f 17), .int .i64 (f 18), .int .i64 (f 19), .int .i64 (f 20), .int .i64 (f 21), .int .i64 (f 22), .int .i64 (f 23), .int .i64 (f 24), .int .i64 (f 25), .int .i64 (f 26), .int .i64 (f 27)] ∧ wx.cell? ⟨w.heap.size, 29, none⟩ = some (.int .i64 t) ∧ w.heap.size < wx.heap.size ∧ Below w.heap.size w wx) ?_ ?_
  · have L : Live (w.alloc (.cells #[.int .i64 (f 0), .int .i64 (f 1), .int .i64 (f 2), .int .i64 (f 3), .int .i64 (f 4), .int .i64 (f 5), .int .i64 (f 6), .int .i64 (f 7), .int .i64 (f 8), .int .i64 (f 9), .int .i64 (f 10), .int .i64 (f 11), .int .i64 (f 12), .int .i64 (f 13), .int .i64 (f 14), .int .i64 (f 15), .int .i64 (f 16), .int .i64 (f 17), .int .i64 (f 18), .int .i64 (f 19), .int .i64 (f 20), .int .i64 (f 21), .int .i64 (f 22), .int .i64 (f 23), .int .i64 (f 24), .int .i64 (f 25), .int .i64 (f 26), .int .i64 (f 27), .bool x, .int .i64 t] 26)) w.heap.size #[.int .i64 (f 0), .int .i64 (f 1), .int .i64 (f 2), .int .i64 (f 3), .int .i64 (f 4), .int .i64 (f 5), .int .i64 (f 6), .int .i64 (f 7), .int .i64 (f 8), .int .i64 (f 9), .int .i64 (f 10), .int .i64 (f 11), .int .i64 (f 12), .int .i64 (f 13), .int .i64 (f 14), .int .i64 (f 15), .int .i64 (f 16), .int .i64 (f 17), .int .i64 (f 18), .int .i64 (f 19), .int .i64 (f 20), .int .i64 (f 21), .int .i64 (f 22), .int .i64 (f 23), .int .i64 (f 24), .int .i64 (f 25), .int .i64 (f 26), .int .i64 (f 27), .bool x, .int .i64 t] := live_new _ _ rfl
    refine ⟨mach_range f x t L, L.2.1 29, L.1, ?_⟩
    (repeat' (first | with_reducible exact Below.refl _ _ | with_reducible refine Below.drew ?_ | with_reducible refine below_drewN ?_ _ | with_reducible refine Below.alloc ?_ ?_ _ | with_reducible refine Below.setCell ?_ ?_ _ | with_reducible refine Below.trans ?_ (Below.mono (by with_reducible assumption) ?_) | (simp; done) | (simp; omega) | omega))
  · rintro wx ⟨hr, ct, zt, hbt⟩
    go_wp2_with (refine wpList_load_mid rfl 24 _ rfl w.heap.size 0 rfl _ _ hr Try.underlying24 rfl (by kernel_rfl) ?_)
    clear hr
    go_loopw [7] (MRel f t w.heap.size w) (fun i _ => 4 - (intOf i).toNat)
    case atStart => exact ⟨0, rfl, by omega, fun j h => absurd h (by omega), ct, zt, hbt⟩
    case round =>
      obtain ⟨k, rfl, hk, hok, ct, zt, hbt⟩ := hrel
      have HOK := Lib.hid hok
      clear hok
      rcases (by omega : k = 0 ∨ k = 1 ∨ k = 2 ∨ k = 3 ∨ k = 4) with rfl | rfl | rfl | rfl | rfl
      · have HT : Hid (axAt f 0 = (decide (1 ≤ f 0 ∧ f 0 ≤ 65536 ∧ 1 ≤ f 1 ∧ f 1 ≤ f 0 ∧ 1 ≤ f 2 ∧ f 2 ≤ 1048576 ∧ 1 ≤ f 3 ∧ f 3 ≤ 16777216 ∧ 1 ≤ f 4 ∧ f 4 ≤ 1048576) && decide (f 5 ≤ f 6 ∧ -1048576 ≤ f 5 ∧ f 6 ≤ 1048576))) := Lib.hid (ax_two f 0)
        go_upto_region 4 with (fail)
        go_cut [59] (fun s59 wy => s59 = .bool (!decide (1 ≤ f 0 ∧ f 0 ≤ 65536 ∧ 1 ≤ f 1 ∧ f 1 ≤ f 0 ∧ 1 ≤ f 2 ∧ f 2 ≤ 1048576 ∧ 1 ≤ f 3 ∧ f 3 ≤ 16777216 ∧ 1 ≤ f 4 ∧ f 4 ≤ 1048576)) ∧ Live wy wr.heap.size #[.int .i64 (f 0), .int .i64 (f 1), .int .i64 (f 2), .int .i64 (f 3), .int .i64 (f 4), .int .i64 (f 5), .int .i64 (f 6)] ∧ wy.cell? ⟨w.heap.size, 29, none⟩ = some (.int .i64 t) ∧ w.heap.size < wy.heap.size ∧ Below w.heap.size w wy)
        case first =>
          go_wp2_with fail
          all_goals go_meet
          all_goals refine ⟨congrArg Value.bool ?_, ?_, ?_, ?_, ?_⟩
          all_goals first | (rw [cell_past1 _ _ _ _ zt]; exact ct) | exact ct | (focus ((repeat (first | with_reducible assumption | ((with_reducible apply live_new) <;> (first | with_reducible rfl | (focus (simp; done)))) | with_reducible apply live_alloc | with_reducible apply live_drew | with_reducible apply live_drewN | ((with_reducible apply live_set_other); (case hb => first | omega | (simp; done))) | with_reducible apply live_set_same | (focus (simp; done)))); done)) | (focus (simp; omega)) | exact zt | exact hbt | (refine Below.trans hbt ?_; (repeat' (first | with_reducible exact Below.refl _ _ | with_reducible refine Below.drew ?_ | with_reducible refine below_drewN ?_ _ | with_reducible refine Below.alloc ?_ ?_ _ | with_reducible refine Below.setCell ?_ ?_ _ | with_reducible refine Below.trans ?_ (Below.mono (by with_reducible assumption) ?_) | (simp; done) | (simp; omega) | omega)); done) | (clear i0 i1 i2 i3 ct; rw [Bool.eq_iff_iff]; simp at *; omega)
        case rest =>
          obtain ⟨rfl, LA, ct, zt, hbt⟩ := hcut
          obtain ⟨pa, ea, fa⟩ := id LA
          cases hx : decide (1 ≤ f 0 ∧ f 0 ≤ 65536 ∧ 1 ≤ f 1 ∧ f 1 ≤ f 0 ∧ 1 ≤ f 2 ∧ f 2 ≤ 1048576 ∧ 1 ≤ f 3 ∧ f 3 ≤ 16777216 ∧ 1 ≤ f 4 ∧ f 4 ≤ 1048576)
          · have HK : Hid (kinValid f t = false) := by show _ = _; unfold kinValid; simp [HT.out, hx]
            go_wp2_with fail
            go_ret
            exact ⟨ret_bool HK.out.symm, hbt⟩
          · have HX := Lib.hid hx
            clear hx
            go_upto_region 6 with (fail)
            go_cut [74] (fun s74 wy => s74 = .bool (!decide (f 5 ≤ f 6 ∧ -1048576 ≤ f 5 ∧ f 6 ≤ 1048576)) ∧ wy.cell? ⟨w.heap.size, 29, none⟩ = some (.int .i64 t) ∧ w.heap.size < wy.heap.size ∧ Below w.heap.size w wy)
            case first =>
              go_wp2_with fail
              all_goals go_meet
              all_goals refine ⟨congrArg Value.bool ?_, ?_, ?_, ?_⟩
              all_goals first | (rw [cell_past1 _ _ _ _ zt]; exact ct) | exact ct | (focus ((repeat (first | with_reducible assumption | ((with_reducible apply live_new) <;> (first | with_reducible rfl | (focus (simp; done)))) | with_reducible apply live_alloc | with_reducible apply live_drew | with_reducible apply live_drewN | ((with_reducible apply live_set_other); (case hb => first | omega | (simp; done))) | with_reducible apply live_set_same | (focus (simp; done)))); done)) | (focus (simp; omega)) | exact zt | exact hbt | (refine Below.trans hbt ?_; (repeat' (first | with_reducible exact Below.refl _ _ | with_reducible refine Below.drew ?_ | with_reducible refine below_drewN ?_ _ | with_reducible refine Below.alloc ?_ ?_ _ | with_reducible refine Below.setCell ?_ ?_ _ | with_reducible refine Below.trans ?_ (Below.mono (by with_reducible assumption) ?_) | (simp; done) | (simp; omega) | omega)); done) | (clear i0 i1 i2 i3 ct; rw [Bool.eq_iff_iff]; simp at *; omega)
            case rest =>
              obtain ⟨rfl, ct, zt, hbt⟩ := hcut
              clear LA pa ea fa
              cases hy : decide (f 5 ≤ f 6 ∧ -1048576 ≤ f 5 ∧ f 6 ≤ 1048576)
              · have HK : Hid (kinValid f t = false) := by show _ = _; unfold kinValid; simp [HT.out, hy]
                go_wp2_with fail
                go_ret
                exact ⟨ret_bool HK.out.symm, hbt⟩
              · have HY := Lib.hid hy
                go_wp2_with fail
                go_roundw
                case rel => exact ⟨1, by go_num, by omega, fun j hj => by rcases (by omega : j < 0 ∨ j = 0) with h | rfl; exact HOK.out j h; rw [HT.out, HX.out, HY.out]; rfl, ct, zt, hbt⟩
                case measure => first | (simp [intOf]; done) | (simp [intOf]; omega)
      · have HT : Hid (axAt f 1 = (decide (1 ≤ f 7 ∧ f 7 ≤ 65536 ∧ 1 ≤ f 8 ∧ f 8 ≤ f 7 ∧ 1 ≤ f 9 ∧ f 9 ≤ 1048576 ∧ 1 ≤ f 10 ∧ f 10 ≤ 16777216 ∧ 1 ≤ f 11 ∧ f 11 ≤ 1048576) && decide (f 12 ≤ f 13 ∧ -1048576 ≤ f 12 ∧ f 13 ≤ 1048576))) := Lib.hid (ax_two f 1)
        go_upto_region 4 with (fail)
        go_cut [59] (fun s59 wy => s59 = .bool (!decide (1 ≤ f 7 ∧ f 7 ≤ 65536 ∧ 1 ≤ f 8 ∧ f 8 ≤ f 7 ∧ 1 ≤ f 9 ∧ f 9 ≤ 1048576 ∧ 1 ≤ f 10 ∧ f 10 ≤ 16777216 ∧ 1 ≤ f 11 ∧ f 11 ≤ 1048576)) ∧ Live wy wr.heap.size #[.int .i64 (f 7), .int .i64 (f 8), .int .i64 (f 9), .int .i64 (f 10), .int .i64 (f 11), .int .i64 (f 12), .int .i64 (f 13)] ∧ wy.cell? ⟨w.heap.size, 29, none⟩ = some (.int .i64 t) ∧ w.heap.size < wy.heap.size ∧ Below w.heap.size w wy)
        case first =>
          go_wp2_with fail
          all_goals go_meet
          all_goals refine ⟨congrArg Value.bool ?_, ?_, ?_, ?_, ?_⟩
          all_goals first | (rw [cell_past1 _ _ _ _ zt]; exact ct) | exact ct | (focus ((repeat (first | with_reducible assumption | ((with_reducible apply live_new) <;> (first | with_reducible rfl | (focus (simp; done)))) | with_reducible apply live_alloc | with_reducible apply live_drew | with_reducible apply live_drewN | ((with_reducible apply live_set_other); (case hb => first | omega | (simp; done))) | with_reducible apply live_set_same | (focus (simp; done)))); done)) | (focus (simp; omega)) | exact zt | exact hbt | (refine Below.trans hbt ?_; (repeat' (first | with_reducible exact Below.refl _ _ | with_reducible refine Below.drew ?_ | with_reducible refine below_drewN ?_ _ | with_reducible refine Below.alloc ?_ ?_ _ | with_reducible refine Below.setCell ?_ ?_ _ | with_reducible refine Below.trans ?_ (Below.mono (by with_reducible assumption) ?_) | (simp; done) | (simp; omega) | omega)); done) | (clear i0 i1 i2 i3 ct; rw [Bool.eq_iff_iff]; simp at *; omega)
        case rest =>
          obtain ⟨rfl, LA, ct, zt, hbt⟩ := hcut
          obtain ⟨pa, ea, fa⟩ := id LA
          cases hx : decide (1 ≤ f 7 ∧ f 7 ≤ 65536 ∧ 1 ≤ f 8 ∧ f 8 ≤ f 7 ∧ 1 ≤ f 9 ∧ f 9 ≤ 1048576 ∧ 1 ≤ f 10 ∧ f 10 ≤ 16777216 ∧ 1 ≤ f 11 ∧ f 11 ≤ 1048576)
          · have HK : Hid (kinValid f t = false) := by show _ = _; unfold kinValid; simp [HT.out, hx]
            go_wp2_with fail
            go_ret
            exact ⟨ret_bool HK.out.symm, hbt⟩
          · have HX := Lib.hid hx
            clear hx
            go_upto_region 6 with (fail)
            go_cut [74] (fun s74 wy => s74 = .bool (!decide (f 12 ≤ f 13 ∧ -1048576 ≤ f 12 ∧ f 13 ≤ 1048576)) ∧ wy.cell? ⟨w.heap.size, 29, none⟩ = some (.int .i64 t) ∧ w.heap.size < wy.heap.size ∧ Below w.heap.size w wy)
            case first =>
              go_wp2_with fail
              all_goals go_meet
              all_goals refine ⟨congrArg Value.bool ?_, ?_, ?_, ?_⟩
              all_goals first | (rw [cell_past1 _ _ _ _ zt]; exact ct) | exact ct | (focus ((repeat (first | with_reducible assumption | ((with_reducible apply live_new) <;> (first | with_reducible rfl | (focus (simp; done)))) | with_reducible apply live_alloc | with_reducible apply live_drew | with_reducible apply live_drewN | ((with_reducible apply live_set_other); (case hb => first | omega | (simp; done))) | with_reducible apply live_set_same | (focus (simp; done)))); done)) | (focus (simp; omega)) | exact zt | exact hbt | (refine Below.trans hbt ?_; (repeat' (first | with_reducible exact Below.refl _ _ | with_reducible refine Below.drew ?_ | with_reducible refine below_drewN ?_ _ | with_reducible refine Below.alloc ?_ ?_ _ | with_reducible refine Below.setCell ?_ ?_ _ | with_reducible refine Below.trans ?_ (Below.mono (by with_reducible assumption) ?_) | (simp; done) | (simp; omega) | omega)); done) | (clear i0 i1 i2 i3 ct; rw [Bool.eq_iff_iff]; simp at *; omega)
            case rest =>
              obtain ⟨rfl, ct, zt, hbt⟩ := hcut
              clear LA pa ea fa
              cases hy : decide (f 12 ≤ f 13 ∧ -1048576 ≤ f 12 ∧ f 13 ≤ 1048576)
              · have HK : Hid (kinValid f t = false) := by show _ = _; unfold kinValid; simp [HT.out, hy]
                go_wp2_with fail
                go_ret
                exact ⟨ret_bool HK.out.symm, hbt⟩
              · have HY := Lib.hid hy
                go_wp2_with fail
                go_roundw
                case rel => exact ⟨2, by go_num, by omega, fun j hj => by rcases (by omega : j < 1 ∨ j = 1) with h | rfl; exact HOK.out j h; rw [HT.out, HX.out, HY.out]; rfl, ct, zt, hbt⟩
                case measure => first | (simp [intOf]; done) | (simp [intOf]; omega)
      · have HT : Hid (axAt f 2 = (decide (1 ≤ f 14 ∧ f 14 ≤ 65536 ∧ 1 ≤ f 15 ∧ f 15 ≤ f 14 ∧ 1 ≤ f 16 ∧ f 16 ≤ 1048576 ∧ 1 ≤ f 17 ∧ f 17 ≤ 16777216 ∧ 1 ≤ f 18 ∧ f 18 ≤ 1048576) && decide (f 19 ≤ f 20 ∧ -1048576 ≤ f 19 ∧ f 20 ≤ 1048576))) := Lib.hid (ax_two f 2)
        go_upto_region 4 with (fail)
        go_cut [59] (fun s59 wy => s59 = .bool (!decide (1 ≤ f 14 ∧ f 14 ≤ 65536 ∧ 1 ≤ f 15 ∧ f 15 ≤ f 14 ∧ 1 ≤ f 16 ∧ f 16 ≤ 1048576 ∧ 1 ≤ f 17 ∧ f 17 ≤ 16777216 ∧ 1 ≤ f 18 ∧ f 18 ≤ 1048576)) ∧ Live wy wr.heap.size #[.int .i64 (f 14), .int .i64 (f 15), .int .i64 (f 16), .int .i64 (f 17), .int .i64 (f 18), .int .i64 (f 19), .int .i64 (f 20)] ∧ wy.cell? ⟨w.heap.size, 29, none⟩ = some (.int .i64 t) ∧ w.heap.size < wy.heap.size ∧ Below w.heap.size w wy)
        case first =>
          go_wp2_with fail
          all_goals go_meet
          all_goals refine ⟨congrArg Value.bool ?_, ?_, ?_, ?_, ?_⟩
          all_goals first | (rw [cell_past1 _ _ _ _ zt]; exact ct) | exact ct | (focus ((repeat (first | with_reducible assumption | ((with_reducible apply live_new) <;> (first | with_reducible rfl | (focus (simp; done)))) | with_reducible apply live_alloc | with_reducible apply live_drew | with_reducible apply live_drewN | ((with_reducible apply live_set_other); (case hb => first | omega | (simp; done))) | with_reducible apply live_set_same | (focus (simp; done)))); done)) | (focus (simp; omega)) | exact zt | exact hbt | (refine Below.trans hbt ?_; (repeat' (first | with_reducible exact Below.refl _ _ | with_reducible refine Below.drew ?_ | with_reducible refine below_drewN ?_ _ | with_reducible refine Below.alloc ?_ ?_ _ | with_reducible refine Below.setCell ?_ ?_ _ | with_reducible refine Below.trans ?_ (Below.mono (by with_reducible assumption) ?_) | (simp; done) | (simp; omega) | omega)); done) | (clear i0 i1 i2 i3 ct; rw [Bool.eq_iff_iff]; simp at *; omega)
        case rest =>
          obtain ⟨rfl, LA, ct, zt, hbt⟩ := hcut
          obtain ⟨pa, ea, fa⟩ := id LA
          cases hx : decide (1 ≤ f 14 ∧ f 14 ≤ 65536 ∧ 1 ≤ f 15 ∧ f 15 ≤ f 14 ∧ 1 ≤ f 16 ∧ f 16 ≤ 1048576 ∧ 1 ≤ f 17 ∧ f 17 ≤ 16777216 ∧ 1 ≤ f 18 ∧ f 18 ≤ 1048576)
          · have HK : Hid (kinValid f t = false) := by show _ = _; unfold kinValid; simp [HT.out, hx]
            go_wp2_with fail
            go_ret
            exact ⟨ret_bool HK.out.symm, hbt⟩
          · have HX := Lib.hid hx
            clear hx
            go_upto_region 6 with (fail)
            go_cut [74] (fun s74 wy => s74 = .bool (!decide (f 19 ≤ f 20 ∧ -1048576 ≤ f 19 ∧ f 20 ≤ 1048576)) ∧ wy.cell? ⟨w.heap.size, 29, none⟩ = some (.int .i64 t) ∧ w.heap.size < wy.heap.size ∧ Below w.heap.size w wy)
            case first =>
              go_wp2_with fail
              all_goals go_meet
              all_goals refine ⟨congrArg Value.bool ?_, ?_, ?_, ?_⟩
              all_goals first | (rw [cell_past1 _ _ _ _ zt]; exact ct) | exact ct | (focus ((repeat (first | with_reducible assumption | ((with_reducible apply live_new) <;> (first | with_reducible rfl | (focus (simp; done)))) | with_reducible apply live_alloc | with_reducible apply live_drew | with_reducible apply live_drewN | ((with_reducible apply live_set_other); (case hb => first | omega | (simp; done))) | with_reducible apply live_set_same | (focus (simp; done)))); done)) | (focus (simp; omega)) | exact zt | exact hbt | (refine Below.trans hbt ?_; (repeat' (first | with_reducible exact Below.refl _ _ | with_reducible refine Below.drew ?_ | with_reducible refine below_drewN ?_ _ | with_reducible refine Below.alloc ?_ ?_ _ | with_reducible refine Below.setCell ?_ ?_ _ | with_reducible refine Below.trans ?_ (Below.mono (by with_reducible assumption) ?_) | (simp; done) | (simp; omega) | omega)); done) | (clear i0 i1 i2 i3 ct; rw [Bool.eq_iff_iff]; simp at *; omega)
            case rest =>
              obtain ⟨rfl, ct, zt, hbt⟩ := hcut
              clear LA pa ea fa
              cases hy : decide (f 19 ≤ f 20 ∧ -1048576 ≤ f 19 ∧ f 20 ≤ 1048576)
              · have HK : Hid (kinValid f t = false) := by show _ = _; unfold kinValid; simp [HT.out, hy]
                go_wp2_with fail
                go_ret
                exact ⟨ret_bool HK.out.symm, hbt⟩
              · have HY := Lib.hid hy
                go_wp2_with fail
                go_roundw
                case rel => exact ⟨3, by go_num, by omega, fun j hj => by rcases (by omega : j < 2 ∨ j = 2) with h | rfl; exact HOK.out j h; rw [HT.out, HX.out, HY.out]; rfl, ct, zt, hbt⟩
                case measure => first | (simp [intOf]; done) | (simp [intOf]; omega)
      · have HT : Hid (axAt f 3 = (decide (1 ≤ f 21 ∧ f 21 ≤ 65536 ∧ 1 ≤ f 22 ∧ f 22 ≤ f 21 ∧ 1 ≤ f 23 ∧ f 23 ≤ 1048576 ∧ 1 ≤ f 24 ∧ f 24 ≤ 16777216 ∧ 1 ≤ f 25 ∧ f 25 ≤ 1048576) && decide (f 26 ≤ f 27 ∧ -1048576 ≤ f 26 ∧ f 27 ≤ 1048576))) := Lib.hid (ax_two f 3)
        go_upto_region 4 with (fail)
        go_cut [59] (fun s59 wy => s59 = .bool (!decide (1 ≤ f 21 ∧ f 21 ≤ 65536 ∧ 1 ≤ f 22 ∧ f 22 ≤ f 21 ∧ 1 ≤ f 23 ∧ f 23 ≤ 1048576 ∧ 1 ≤ f 24 ∧ f 24 ≤ 16777216 ∧ 1 ≤ f 25 ∧ f 25 ≤ 1048576)) ∧ Live wy wr.heap.size #[.int .i64 (f 21), .int .i64 (f 22), .int .i64 (f 23), .int .i64 (f 24), .int .i64 (f 25), .int .i64 (f 26), .int .i64 (f 27)] ∧ wy.cell? ⟨w.heap.size, 29, none⟩ = some (.int .i64 t) ∧ w.heap.size < wy.heap.size ∧ Below w.heap.size w wy)
        case first =>
          go_wp2_with fail
          all_goals go_meet
          all_goals refine ⟨congrArg Value.bool ?_, ?_, ?_, ?_, ?_⟩
          all_goals first | (rw [cell_past1 _ _ _ _ zt]; exact ct) | exact ct | (focus ((repeat (first | with_reducible assumption | ((with_reducible apply live_new) <;> (first | with_reducible rfl | (focus (simp; done)))) | with_reducible apply live_alloc | with_reducible apply live_drew | with_reducible apply live_drewN | ((with_reducible apply live_set_other); (case hb => first | omega | (simp; done))) | with_reducible apply live_set_same | (focus (simp; done)))); done)) | (focus (simp; omega)) | exact zt | exact hbt | (refine Below.trans hbt ?_; (repeat' (first | with_reducible exact Below.refl _ _ | with_reducible refine Below.drew ?_ | with_reducible refine below_drewN ?_ _ | with_reducible refine Below.alloc ?_ ?_ _ | with_reducible refine Below.setCell ?_ ?_ _ | with_reducible refine Below.trans ?_ (Below.mono (by with_reducible assumption) ?_) | (simp; done) | (simp; omega) | omega)); done) | (clear i0 i1 i2 i3 ct; rw [Bool.eq_iff_iff]; simp at *; omega)
        case rest =>
          obtain ⟨rfl, LA, ct, zt, hbt⟩ := hcut
          obtain ⟨pa, ea, fa⟩ := id LA
          cases hx : decide (1 ≤ f 21 ∧ f 21 ≤ 65536 ∧ 1 ≤ f 22 ∧ f 22 ≤ f 21 ∧ 1 ≤ f 23 ∧ f 23 ≤ 1048576 ∧ 1 ≤ f 24 ∧ f 24 ≤ 16777216 ∧ 1 ≤ f 25 ∧ f 25 ≤ 1048576)
          · have HK : Hid (kinValid f t = false) := by show _ = _; unfold kinValid; simp [HT.out, hx]
            go_wp2_with fail
            go_ret
            exact ⟨ret_bool HK.out.symm, hbt⟩
          · have HX := Lib.hid hx
            clear hx
            go_upto_region 6 with (fail)
            go_cut [74] (fun s74 wy => s74 = .bool (!decide (f 26 ≤ f 27 ∧ -1048576 ≤ f 26 ∧ f 27 ≤ 1048576)) ∧ wy.cell? ⟨w.heap.size, 29, none⟩ = some (.int .i64 t) ∧ w.heap.size < wy.heap.size ∧ Below w.heap.size w wy)
            case first =>
              go_wp2_with fail
              all_goals go_meet
              all_goals refine ⟨congrArg Value.bool ?_, ?_, ?_, ?_⟩
              all_goals first | (rw [cell_past1 _ _ _ _ zt]; exact ct) | exact ct | (focus ((repeat (first | with_reducible assumption | ((with_reducible apply live_new) <;> (first | with_reducible rfl | (focus (simp; done)))) | with_reducible apply live_alloc | with_reducible apply live_drew | with_reducible apply live_drewN | ((with_reducible apply live_set_other); (case hb => first | omega | (simp; done))) | with_reducible apply live_set_same | (focus (simp; done)))); done)) | (focus (simp; omega)) | exact zt | exact hbt | (refine Below.trans hbt ?_; (repeat' (first | with_reducible exact Below.refl _ _ | with_reducible refine Below.drew ?_ | with_reducible refine below_drewN ?_ _ | with_reducible refine Below.alloc ?_ ?_ _ | with_reducible refine Below.setCell ?_ ?_ _ | with_reducible refine Below.trans ?_ (Below.mono (by with_reducible assumption) ?_) | (simp; done) | (simp; omega) | omega)); done) | (clear i0 i1 i2 i3 ct; rw [Bool.eq_iff_iff]; simp at *; omega)
            case rest =>
              obtain ⟨rfl, ct, zt, hbt⟩ := hcut
              clear LA pa ea fa
              cases hy : decide (f 26 ≤ f 27 ∧ -1048576 ≤ f 26 ∧ f 27 ≤ 1048576)
              · have HK : Hid (kinValid f t = false) := by show _ = _; unfold kinValid; simp [HT.out, hy]
                go_wp2_with fail
                go_ret
                exact ⟨ret_bool HK.out.symm, hbt⟩
              · have HY := Lib.hid hy
                go_wp2_with fail
                go_roundw
                case rel => exact ⟨4, by go_num, by omega, fun j hj => by rcases (by omega : j < 3 ∨ j = 3) with h | rfl; exact HOK.out j h; rw [HT.out, HX.out, HY.out]; rfl, ct, zt, hbt⟩
                case measure => first | (simp [intOf]; done) | (simp [intOf]; omega)
      · have HK : Hid (kinValid f t = decide (1 ≤ t ∧ t ≤ 1048576)) := by
          show _ = _
          unfold kinValid
          rw [HOK.out 0 (by omega), HOK.out 1 (by omega), HOK.out 2 (by omega), HOK.out 3 (by omega)]; rfl
        clear i0 i1 i2 i3
        go_wp2_with fail
        all_goals go_ret
        all_goals refine ⟨ret_bool ?_, hbt⟩
        all_goals (rw [HK.out, Bool.eq_iff_iff]; simp; omega)
end Go.Proofs.Ythodfmmmddfkmaa
