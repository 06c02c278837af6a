/- What Valid of dda returns, in the program and in the reference, for all counts -/
import Derived.Test.YtkiadcgdmeebmaaProg
import Derived.WalkKit
import Derived.WalkLawsBesides
import Derived.Handy
import Derived.Lib.Hide
import Derived.Test.YtkiadcgdmeebmaaKit
import Derived.Test.YtkiadcgdmeebmaaDdaEq
namespace Go.Proofs.Ytkiadcgdmeebmaa
open Go.RowKit

def ddaValid (a b c d : Int) : Bool :=
  decide ((-16777216 ≤ a ∧ a ≤ 16777216) ∧ (-16777216 ≤ b ∧ b ≤ 16777216) ∧ (-16777216 ≤ c ∧ c ≤ 16777216) ∧ (-16777216 ≤ d ∧ d ≤ 16777216) ∧ ¬ (a = 0 ∧ b = 0 ∧ c = 0 ∧ d = 0))

set_option maxRecDepth 100000 in
set_option maxHeartbeats 4000000 in
theorem dda_valid (a b c d : Int) (w : World) :
    Calls Try.prog 42 #[.agg #[.int .i64 a, .int .i64 b, .int .i64 c, .int .i64 d]] w fun e w' =>
      e = .returned (.bool (ddaValid a b c d)) ∧ w.alloc (.cells #[.int .i64 a, .int .i64 b, .int .i64 c, .int .i64 d] 32) = w' := by
  obtain ⟨i0, i1, i2, i3⟩ := arr_idx a b c d
  obtain ⟨z, hz⟩ : ∃ z, z = same4 a b c d 0 0 0 0 := ⟨_, rfl⟩
  have hn : ∀ w, (binOp .neq 32 (.agg #[.int .i64 a, .int .i64 b, .int .i64 c, .int .i64 d]) (.agg #[.int .i64 0, .int .i64 0, .int .i64 0, .int .i64 0])).run Try.prog w = .ok (.bool (!z)) w := fun w => by rw [hz]; exact arr_neq a b c d 0 0 0 0 w
  have HZ := Lib.hid hz
  clear hz
  go_enter Try.func42, Try.ntmps42
  go_wp2
  go_rounds 5
  all_goals go_ret
  all_goals refine ⟨ret_bool ?_, rfl⟩
  all_goals first
    | (unfold ddaValid; rw [Bool.eq_iff_iff]; simp; omega)
    | (rw [HZ.out]; unfold ddaValid same4; rw [Bool.eq_iff_iff]; simp; omega)

set_option maxRecDepth 100000 in
set_option maxHeartbeats 4000000 in
theorem ref42_valid (a b c d : Int) (w : World) :
    Calls Try.prog 22 #[.agg #[.int .i64 a, .int .i64 b, .int .i64 c, .int .i64 d]] w fun e w' =>
      e = .returned (.bool (ddaValid a b c d)) ∧ w.alloc (.cells #[.int .i64 a, .int .i64 b, .int .i64 c, .int .i64 d] 32) = w' := by
  go_enter Try.func22, Try.ntmps22
  go_wp2
  go_rounds 5
  all_goals go_ret
  all_goals refine ⟨ret_bool ?_, ?_⟩
  all_goals first | rfl | (simp [*]; done) | skip
  all_goals (unfold ddaValid; rw [Bool.eq_iff_iff]; simp; omega)
end Go.Proofs.Ytkiadcgdmeebmaa
