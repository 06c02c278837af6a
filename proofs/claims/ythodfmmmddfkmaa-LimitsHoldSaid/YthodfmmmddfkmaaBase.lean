/- Two closed facts on the program that every frame asks for -/
import Derived.Test.YthodfmmmddfkmaaRows
import Derived.WalkKit
import Derived.ProofKit
import Derived.JoinedOf
import Derived.JoinedAt
import Derived.Test.YthodfmmmddfkmaaKit
namespace Go.Proofs.Ythodfmmmddfkmaa
theorem own : ownKnob Try.prog.godebug = none := by kernel_rfl
theorem laidOut : laidOutB Try.prog = true := by kernel_rfl
end Go.Proofs.Ythodfmmmddfkmaa
