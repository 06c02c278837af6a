/- Two arrays of four ints compared, and the elements of one, as the walk asks for them -/
import Derived.Test.YtkiadcgdmeebmaaProg
import Derived.WalkKit
import Derived.WalkLawsBesides
import Derived.Lib.Hide
import Derived.Test.YtkiadcgdmeebmaaKit
namespace Go.Proofs.Ytkiadcgdmeebmaa
open Go.RowKit

theorem arr_idx (a b c d : Int) :
    (∀ w, (Instr.index 32 (.agg #[.int .i64 a, .int .i64 b, .int .i64 c, .int .i64 d]) (.int .i64 0)).run Try.prog w = .ok (.int .i64 a) w) ∧
    (∀ w, (Instr.index 32 (.agg #[.int .i64 a, .int .i64 b, .int .i64 c, .int .i64 d]) (.int .i64 1)).run Try.prog w = .ok (.int .i64 b) w) ∧
    (∀ w, (Instr.index 32 (.agg #[.int .i64 a, .int .i64 b, .int .i64 c, .int .i64 d]) (.int .i64 2)).run Try.prog w = .ok (.int .i64 c) w) ∧
    (∀ w, (Instr.index 32 (.agg #[.int .i64 a, .int .i64 b, .int .i64 c, .int .i64 d]) (.int .i64 3)).run Try.prog w = .ok (.int .i64 d) w) :=
  ⟨fun _ => by kernel_rfl, fun _ => by kernel_rfl, fun _ => by kernel_rfl, fun _ => by kernel_rfl⟩

def same4 (a b c d e f g h : Int) : Bool := a == e && (b == f && (c == g && d == h))

theorem arr_equalIn (k : Nat) (a b c d e f g h : Int) (w : World) :
    (Op.equalIn (k + 2) 32 (.agg #[.int .i64 a, .int .i64 b, .int .i64 c, .int .i64 d]) (.agg #[.int .i64 e, .int .i64 f, .int .i64 g, .int .i64 h])).run Try.prog w = .ok (same4 a b c d e f g h) w := by
  have hu : Try.prog.underlying 32 = some (.array 4 3) := Try.underlying32
  have hi : Try.prog.underlying 3 = some (.int .i64) := Try.underlying3
  have h1 : (sizeOf 3).run Try.prog w = .ok 1 w := by kernel_rfl
  have h0 : (Go.isAgg 3).run Try.prog w = .ok false w := by kernel_rfl
  have h2 : ∀ (xs : Array Value) (i : Nat) (v : Value), xs[i]? = some v → (part 3 xs i).run Try.prog w = .ok v w := fun xs i v hx => by
    simp [part, h0, hx]
  have h20 : ∀ (x y z u : Value), (part 3 #[x, y, z, u] 0).run Try.prog w = .ok x w := fun x y z u => h2 _ _ _ rfl
  have h21 : ∀ (x y z u : Value), (part 3 #[x, y, z, u] 1).run Try.prog w = .ok y w := fun x y z u => h2 _ _ _ rfl
  have h22 : ∀ (x y z u : Value), (part 3 #[x, y, z, u] 2).run Try.prog w = .ok z w := fun x y z u => h2 _ _ _ rfl
  have h23 : ∀ (x y z u : Value), (part 3 #[x, y, z, u] 3).run Try.prog w = .ok u w := fun x y z u => h2 _ _ _ rfl
  have h3 : ∀ (x y : Int), (Op.equalIn (k + 1) 3 (.int .i64 x) (.int .i64 y)).run Try.prog w = .ok (x == y) w := fun x y => run_equalIn_int w k _ _ _ _ _ hi
  rw [show k + 2 = (k + 1) + 1 from rfl]
  rw [Op.equalIn]
  simp only [Sem.run_bind, run_underlying hu, Result.andThen_ok, h1]
  unfold same4
  by_cases q1 : a = e
  all_goals by_cases q2 : b = f
  all_goals by_cases q3 : c = g
  all_goals by_cases q4 : d = h
  all_goals simp [List.range', h20, h21, h22, h23, h3, q1, q2, q3, q4]

theorem arr_eql (a b c d e f g h : Int) (w : World) :
    (binOp .eql 32 (.agg #[.int .i64 a, .int .i64 b, .int .i64 c, .int .i64 d]) (.agg #[.int .i64 e, .int .i64 f, .int .i64 g, .int .i64 h])).run Try.prog w = .ok (.bool (same4 a b c d e f g h)) w := by
  simp only [binOp]
  simp [Op.equal, Op.maxDepth, arr_equalIn 9998]
theorem arr_neq (a b c d e f g h : Int) (w : World) :
    (binOp .neq 32 (.agg #[.int .i64 a, .int .i64 b, .int .i64 c, .int .i64 d]) (.agg #[.int .i64 e, .int .i64 f, .int .i64 g, .int .i64 h])).run Try.prog w = .ok (.bool (!same4 a b c d e f g h)) w := by
  simp only [binOp]
  simp [Op.equal, Op.maxDepth, arr_equalIn 9998]
end Go.Proofs.Ytkiadcgdmeebmaa
