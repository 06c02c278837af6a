/- What MulDiv of the reference returns: the floor of the exact quotient, or an error -/
import Derived.Test.YtkiadcgdmeebmaaNumMulDiv
namespace Go.Proofs.Ytkiadcgdmeebmaa
open Go.RowKit
set_option linter.unusedVariables false

end Go.Proofs.Ytkiadcgdmeebmaa
