/- A block (and a motion) compared with itself is equal -/
import Derived.Test.YtleohgnnbpicjaaProg
import Derived.WalkKit
import Derived.WalkLawsBesides
import Derived.Laws.StructEq
import Derived.Lib.Hide
import Derived.Test.YtleohgnnbpicjaaKit
import Derived.Test.YtleohgnnbpicjaaDdaEq
namespace Go.Proofs.Ytleohgnnbpicjaa
open Go.RowKit

theorem blk_equalIn9999 (a b c d ac en cr ex : Int) (w : World) :
    (Op.equalIn 9999 24 (.agg #[.int .i64 a, .int .i64 b, .int .i64 c, .int .i64 d, .int .i64 ac, .int .i64 en, .int .i64 cr, .int .i64 ex]) (.agg #[.int .i64 a, .int .i64 b, .int .i64 c, .int .i64 d, .int .i64 ac, .int .i64 en, .int .i64 cr, .int .i64 ex])).run Try.prog w = .ok true w := by
  have hq : ∀ w, (Op.equalIn 9998 22 (.agg #[.int .i64 a, .int .i64 b, .int .i64 c, .int .i64 d]) (.agg #[.int .i64 a, .int .i64 b, .int .i64 c, .int .i64 d])).run Try.prog w = .ok true w := fun w => by
    have h := arr_equalIn 9996 a b c d a b c d w
    rw [show same4 a b c d a b c d = true from by simp [same4]] at h
    exact h
  go_simp
theorem blk_eql (a b c d ac en cr ex : Int) (w : World) :
    (binOp .eql 24 (.agg #[.int .i64 a, .int .i64 b, .int .i64 c, .int .i64 d, .int .i64 ac, .int .i64 en, .int .i64 cr, .int .i64 ex]) (.agg #[.int .i64 a, .int .i64 b, .int .i64 c, .int .i64 d, .int .i64 ac, .int .i64 en, .int .i64 cr, .int .i64 ex])).run Try.prog w = .ok (.bool true) w := by
  have hq : ∀ w, (Op.equalIn 9999 22 (.agg #[.int .i64 a, .int .i64 b, .int .i64 c, .int .i64 d]) (.agg #[.int .i64 a, .int .i64 b, .int .i64 c, .int .i64 d])).run Try.prog w = .ok true w := fun w => by
    have h := arr_equalIn 9997 a b c d a b c d w
    rw [show same4 a b c d a b c d = true from by simp [same4]] at h
    exact h
  go_simp
theorem mot_eql (a b c d ac en cr ex dn wt : Int) (w : World) :
    (binOp .eql 40 (.agg #[.int .i64 a, .int .i64 b, .int .i64 c, .int .i64 d, .int .i64 ac, .int .i64 en, .int .i64 cr, .int .i64 ex, .int .i64 dn, .int .i64 wt]) (.agg #[.int .i64 a, .int .i64 b, .int .i64 c, .int .i64 d, .int .i64 ac, .int .i64 en, .int .i64 cr, .int .i64 ex, .int .i64 dn, .int .i64 wt])).run Try.prog w = .ok (.bool true) w := by
  have hq := blk_equalIn9999 a b c d ac en cr ex
  go_simp
theorem mot_neq (a b c d ac en cr ex dn wt : Int) (w : World) :
    (binOp .neq 40 (.agg #[.int .i64 a, .int .i64 b, .int .i64 c, .int .i64 d, .int .i64 ac, .int .i64 en, .int .i64 cr, .int .i64 ex, .int .i64 dn, .int .i64 wt]) (.agg #[.int .i64 a, .int .i64 b, .int .i64 c, .int .i64 d, .int .i64 ac, .int .i64 en, .int .i64 cr, .int .i64 ex, .int .i64 dn, .int .i64 wt])).run Try.prog w = .ok (.bool false) w := by
  have hq := blk_equalIn9999 a b c d ac en cr ex
  go_simp
theorem blk_neq (a b c d ac en cr ex : Int) (w : World) :
    (binOp .neq 24 (.agg #[.int .i64 a, .int .i64 b, .int .i64 c, .int .i64 d, .int .i64 ac, .int .i64 en, .int .i64 cr, .int .i64 ex]) (.agg #[.int .i64 a, .int .i64 b, .int .i64 c, .int .i64 d, .int .i64 ac, .int .i64 en, .int .i64 cr, .int .i64 ex])).run Try.prog w = .ok (.bool false) w := by
  have hq : ∀ w, (Op.equalIn 9999 22 (.agg #[.int .i64 a, .int .i64 b, .int .i64 c, .int .i64 d]) (.agg #[.int .i64 a, .int .i64 b, .int .i64 c, .int .i64 d])).run Try.prog w = .ok true w := fun w => by
    have h := arr_equalIn 9997 a b c d a b c d w
    rw [show same4 a b c d a b c d = true from by simp [same4]] at h
    exact h
  go_simp
end Go.Proofs.Ytleohgnnbpicjaa
