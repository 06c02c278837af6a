/- The example of chapter 01: true -/
import Derived.Test.YtimonckfibphcaaProg
import Derived.WalkKit
import Derived.WalkLawsBesides
import Derived.Outline
import Derived.Lib.Hide
import Derived.Test.YtimonckfibphcaaKit5
import Derived.Test.YtimonckfibphcaaNumRound
import Derived.Test.YtimonckfibphcaaNumClamp
import Derived.Test.YtimonckfibphcaaNumIsqrt
import Derived.Test.YtimonckfibphcaaNumMulDiv
import Derived.Test.YtimonckfibphcaaNumFmt
import Derived.Test.YtimonckfibphcaaNumPrs
namespace Go.Proofs.Ytimonckfibphcaa
open Go.RowKit
set_option linter.unusedVariables false

attribute [local go_sem] cell_past1 cell_past2 cell_past3 cell_past4 froz_past1 froz_past2 froz_past3

theorem ex01_fl : flrQ (-7) 2 = -4 ∧ flrE (-7) 2 = 0 := by decide
theorem ex01_r1 : rndQ 7 2 = 4 ∧ flrE 7 2 = 0 := by decide
theorem ex01_r2 : rndQ (-7) 2 = -3 ∧ flrE (-7) 2 = 0 := by decide
theorem ex01_r3 : rndQ 7 (-2) = -3 ∧ flrE 7 (-2) = 0 := by decide
theorem ex01_m1 : mdV 4611686018427387904 6 4 = 6917529027641081856 ∧ mdE 4611686018427387904 6 4 = 0 := by decide
theorem ex01_m2 : mdV 4611686018427387904 4 2 = 0 ∧ mdE 4611686018427387904 4 2 = 3 := by decide
theorem ex01_is : isq 24 = 4 := (isq_unique 24 4 (by decide) (by decide) (by decide)).symm
theorem ex01_p1 : psV ⟨#[45, 49, 50]⟩ = -12 ∧ psE ⟨#[45, 49, 50]⟩ = 0 := by decide
theorem ex01_p2 : psV ⟨#[57, 50, 50, 51, 51, 55, 50, 48, 51, 54, 56, 53, 52, 55, 55, 53, 56, 48, 56]⟩ = 0 ∧ psE ⟨#[57, 50, 50, 51, 51, 55, 50, 48, 51, 54, 56, 53, 52, 55, 55, 53, 56, 48, 56]⟩ = 3 := by decide
theorem ex01_fm : fmtS (-9223372036854775808) = ⟨#[45, 57, 50, 50, 51, 51, 55, 50, 48, 51, 54, 56, 53, 52, 55, 55, 53, 56, 48, 56]⟩ := by
  unfold fmtS fmtL
  rw [show Int.natAbs (-9223372036854775808) = 9223372036854775808 from rfl]
  iterate 19 rw [leD_rec]; simp only [Nat.reduceDiv, Nat.reduceMod, Nat.reduceEqDiff, ↓reduceIte]
  rfl

set_option maxRecDepth 100000 in
set_option maxHeartbeats 4000000 in
theorem law01_awake (w : World) : Calls Try.prog 15 #[] w fun e w' => e = .returned (.bool true) ∧ Below w.heap.size w w' := by
  have hP1 := Lib.hid (fun w => num_parse ⟨#[45, 49, 50]⟩ w (by decide))
  have hP2 := Lib.hid (fun w => num_parse ⟨#[57, 50, 50, 51, 51, 55, 50, 48, 51, 54, 56, 53, 52, 55, 55, 53, 56, 48, 56]⟩ w (by decide))
  have hI := Lib.hid (fun w => num_isqrt 24 w (by decide))
  go_enter Try.func15, Try.ntmps15
  go_wp2_with (first | (go_at_call 10; refine (num_floor (-7) 2 _ (by decide) (by decide)).mono ?_; rw [ex01_fl.1, ex01_fl.2]; rintro e w' ⟨rfl, rfl⟩) | (go_at_call 12; ((with_reducible refine (num_round 7 2 _ (by decide) (by decide)).mono ?_); rw [ex01_r1.1, ex01_r1.2]; rintro e w' ⟨rfl, rfl⟩)) | (go_at_call 12; ((with_reducible refine (num_round (-7) 2 _ (by decide) (by decide)).mono ?_); rw [ex01_r2.1, ex01_r2.2]; rintro e w' ⟨rfl, rfl⟩)) | (go_at_call 12; ((with_reducible refine (num_round 7 (-2) _ (by decide) (by decide)).mono ?_); rw [ex01_r3.1, ex01_r3.2]; rintro e w' ⟨rfl, rfl⟩)) | (go_at_call 16; ((with_reducible refine (num_muldiv 4611686018427387904 6 4 _ (by decide) (by decide) (by decide)).mono ?_); rw [ex01_m1.1, ex01_m1.2]; rintro e w1 ⟨rfl, hb1⟩; have z1 := hb1.size; (try simp at z1))) | (go_at_call 16; ((with_reducible refine (num_muldiv 4611686018427387904 4 2 _ (by decide) (by decide) (by decide)).mono ?_); rw [ex01_m2.1, ex01_m2.2]; rintro e w2 ⟨rfl, hb2⟩; have z2 := hb2.size; (try simp at z2))) | (go_at_call 19; refine (hI.out _).mono ?_; rw [ex01_is]; rintro e w' ⟨rfl, rfl⟩) | (go_at_call 22; ((with_reducible refine (hP1.out _).mono ?_); rw [ex01_p1.1, ex01_p1.2]; rintro e w' ⟨rfl, rfl⟩)) | (go_at_call 22; ((with_reducible refine (hP2.out _).mono ?_); rw [ex01_p2.1, ex01_p2.2]; rintro e w' ⟨rfl, rfl⟩)) | (go_at_call 25; refine (num_clamp 7 0 5 _).mono ?_; rintro e w' ⟨rfl, rfl⟩) | (go_at_call 21; refine (num_format (-9223372036854775808) _ (by decide)).mono ?_; rw [ex01_fm]; rintro e w3 ⟨rfl, hb3⟩; have z3 := hb3.size; (try simp at z3)))
  all_goals go_ret
  all_goals refine ⟨rfl, ?_⟩
  all_goals (repeat' (first | with_reducible exact Below.refl _ _ | with_reducible refine Below.drew ?_ | with_reducible refine below_drewN ?_ _ | with_reducible refine Below.alloc ?_ ?_ _ | with_reducible refine Below.setCell ?_ ?_ _ | with_reducible refine Below.trans ?_ (Below.mono (by with_reducible assumption) ?_) | (simp; done) | (simp; omega) | omega))
end Go.Proofs.Ytimonckfibphcaa
