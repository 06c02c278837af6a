/- What Valid of the reference of chapter 41 returns, for all machines -/
import Derived.Test.YtkiadcgdmeebmaaProg
import Derived.WalkKit
import Derived.WalkLawsBesides
import Derived.Handy
import Derived.Deep.DeepCutAuto
import Derived.LoopTactic
import Derived.Deep.MidRow
import Derived.Outline
import Derived.Lib.Hide
import Derived.Test.YtkiadcgdmeebmaaKinValid
namespace Go.Proofs.Ytkiadcgdmeebmaa
open Go.RowKit
set_option linter.unusedVariables false

attribute [local go_sem] cell_past1 cell_past2 cell_past3 cell_past4 froz_past1 froz_past2 froz_past3

theorem ax_two (f : Nat → Int) (k : Nat) : axAt f k = (decide (1 ≤ f (7 * k) ∧ f (7 * k) ≤ 65536 ∧ 1 ≤ f (7 * k + 1) ∧ f (7 * k + 1) ≤ f (7 * k) ∧ 1 ≤ f (7 * k + 2) ∧ f (7 * k + 2) ≤ 1048576 ∧ 1 ≤ f (7 * k + 3) ∧ f (7 * k + 3) ≤ 16777216 ∧ 1 ≤ f (7 * k + 4) ∧ f (7 * k + 4) ≤ 1048576) && decide (f (7 * k + 5) ≤ f (7 * k + 6) ∧ -1048576 ≤ f (7 * k + 5) ∧ f (7 * k + 6) ≤ 1048576)) := by
  unfold axAt axOk; rw [Bool.eq_iff_iff]; simp; omega

end Go.Proofs.Ytkiadcgdmeebmaa
