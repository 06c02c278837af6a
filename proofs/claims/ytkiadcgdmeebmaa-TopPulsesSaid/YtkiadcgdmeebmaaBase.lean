/- Two closed facts on the program that every frame asks for -/
import Derived.Test.YtkiadcgdmeebmaaRows
import Derived.WalkKit
import Derived.ProofKit
import Derived.JoinedOf
import Derived.JoinedAt
import Derived.Test.YtkiadcgdmeebmaaKit
namespace Go.Proofs.Ytkiadcgdmeebmaa
theorem own : ownKnob Try.prog.godebug = none := by kernel_rfl
theorem laidOut : laidOutB Try.prog = true := by kernel_rfl
end Go.Proofs.Ytkiadcgdmeebmaa
