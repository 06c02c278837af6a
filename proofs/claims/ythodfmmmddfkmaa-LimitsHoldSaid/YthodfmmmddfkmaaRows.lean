/-
  No cell of these rows narrows 'for every input' (looked for: loops, veiled, ifaces, maps, wideKeys, modest, calm, conditions, laid).
  DERIVED. THE GIVEN ROWS OF THIS SEAT. 11 by the template 'for every input the law returns true; each argument reads behind the call as it read before'; 0 by the template 'total and deterministic' (their statements: YthodfmmmddfkmaaTotals.lean).
  GIVEN WITH THE SEED: the statements are not yours to turn. If you find one false, say at which input.
  Laid BY PROGRAM, IN A SANDBOX (cutbox-rows.mjs): the forced cells as the released guide's own fill.sh prints them over the translation f83c2c07ef5b06a7… (all of the seat's roots in one cut). By AI agents, Wed Nov 11 2026. No macro, syntax, notation, axiom, sorry.
-/
import Derived.Test.YthodfmmmddfkmaaChecked
import GoSem.Claim
import GoSem.ClaimJoined
import GoSem.ClaimMapViews
import Derived.JoinedTies
import Derived.KernelRfl
namespace Go.Proofs.Ythodfmmmddfkmaa
/- THE CELL 'sum', in the pinned program and in every row, IS THE sha256 OF THE DUMP (.gsa) THAT YthodfmmmddfkmaaProg.lean LOADS. Nothing in Lean hashes anything: it is a label: what it is worth is what the hold of that sum in a sandbox is worth. -/
noncomputable def Try.pinned : Pinned := { name := "ythodfmmmddfkmaa", sum := "f83c2c07ef5b06a75b2a72de340d60ef3737845a68d885e4c6e6e28729546834", checked := Try.checked }
namespace Rows
def none {H : Type} : Left H := { results := [], args := [] }

/-- 'additivelaw41.KinChecks': WHATEVER THE INPUT: true; the input reads as it did. -/
def kinChecksSpec : ChangeSpec := { name := "kinChecks", fn := fun _ => fun
  | [d1, d2] => { results := [.lit (.bool true)], args := [d1, d2] }
  | _ => none }
def kinChecksRow : OpenClaim := { program := "ythodfmmmddfkmaa", sum := "f83c2c07ef5b06a75b2a72de340d60ef3737845a68d885e4c6e6e28729546834", func := "additive/additivelaw41.KinChecks", spec := "kinChecks", apart := false }
def KinChecksSaid : Prop := kinChecksRow.holds Try.pinned (OpenSpec.ofChange kinChecksSpec)

/-- ITS FALSE NEIGHBOUR: 'it returns false'. Refute it at one input. -/
def kinChecksWrong : ChangeSpec := { name := "kinChecks", fn := fun _ => fun
  | [d1, d2] => { results := [.lit (.bool false)], args := [d1, d2] }
  | _ => none }
def KinChecksWrongFalsely : Prop := kinChecksRow.holds Try.pinned (OpenSpec.ofChange kinChecksWrong)

/-- 'additivelaw41.KinSteps': WHATEVER THE INPUT: true; the input reads as it did. -/
def kinStepsSpec : ChangeSpec := { name := "kinSteps", fn := fun _ => fun
  | [d1, d2, d3] => { results := [.lit (.bool true)], args := [d1, d2, d3] }
  | _ => none }
def kinStepsRow : OpenClaim := { program := "ythodfmmmddfkmaa", sum := "f83c2c07ef5b06a75b2a72de340d60ef3737845a68d885e4c6e6e28729546834", func := "additive/additivelaw41.KinSteps", spec := "kinSteps", apart := false }
def KinStepsSaid : Prop := kinStepsRow.holds Try.pinned (OpenSpec.ofChange kinStepsSpec)

/-- ITS FALSE NEIGHBOUR: 'it returns false'. Refute it at one input. -/
def kinStepsWrong : ChangeSpec := { name := "kinSteps", fn := fun _ => fun
  | [d1, d2, d3] => { results := [.lit (.bool false)], args := [d1, d2, d3] }
  | _ => none }
def KinStepsWrongFalsely : Prop := kinStepsRow.holds Try.pinned (OpenSpec.ofChange kinStepsWrong)

/-- 'additivelaw41.KinPlaces': WHATEVER THE INPUT: true; the input reads as it did. -/
def kinPlacesSpec : ChangeSpec := { name := "kinPlaces", fn := fun _ => fun
  | [d] => { results := [.lit (.bool true)], args := [d] }
  | _ => none }
def kinPlacesRow : OpenClaim := { program := "ythodfmmmddfkmaa", sum := "f83c2c07ef5b06a75b2a72de340d60ef3737845a68d885e4c6e6e28729546834", func := "additive/additivelaw41.KinPlaces", spec := "kinPlaces", apart := false }
def KinPlacesSaid : Prop := kinPlacesRow.holds Try.pinned (OpenSpec.ofChange kinPlacesSpec)

/-- ITS FALSE NEIGHBOUR: 'it returns false'. Refute it at one input. -/
def kinPlacesWrong : ChangeSpec := { name := "kinPlaces", fn := fun _ => fun
  | [d] => { results := [.lit (.bool false)], args := [d] }
  | _ => none }
def KinPlacesWrongFalsely : Prop := kinPlacesRow.holds Try.pinned (OpenSpec.ofChange kinPlacesWrong)

/-- 'additivelaw41.KinInverse': WHATEVER THE INPUT: true; the input reads as it did. -/
def kinInverseSpec : ChangeSpec := { name := "kinInverse", fn := fun _ => fun
  | [d] => { results := [.lit (.bool true)], args := [d] }
  | _ => none }
def kinInverseRow : OpenClaim := { program := "ythodfmmmddfkmaa", sum := "f83c2c07ef5b06a75b2a72de340d60ef3737845a68d885e4c6e6e28729546834", func := "additive/additivelaw41.KinInverse", spec := "kinInverse", apart := false }
def KinInverseSaid : Prop := kinInverseRow.holds Try.pinned (OpenSpec.ofChange kinInverseSpec)

/-- ITS FALSE NEIGHBOUR: 'it returns false'. Refute it at one input. -/
def kinInverseWrong : ChangeSpec := { name := "kinInverse", fn := fun _ => fun
  | [d] => { results := [.lit (.bool false)], args := [d] }
  | _ => none }
def KinInverseWrongFalsely : Prop := kinInverseRow.holds Try.pinned (OpenSpec.ofChange kinInverseWrong)

/-- 'additivelaw41.KinNearest': WHATEVER THE INPUT: true; the input reads as it did. -/
def kinNearestSpec : ChangeSpec := { name := "kinNearest", fn := fun _ => fun
  | [d1, d2, d3] => { results := [.lit (.bool true)], args := [d1, d2, d3] }
  | _ => none }
def kinNearestRow : OpenClaim := { program := "ythodfmmmddfkmaa", sum := "f83c2c07ef5b06a75b2a72de340d60ef3737845a68d885e4c6e6e28729546834", func := "additive/additivelaw41.KinNearest", spec := "kinNearest", apart := false }
def KinNearestSaid : Prop := kinNearestRow.holds Try.pinned (OpenSpec.ofChange kinNearestSpec)

/-- ITS FALSE NEIGHBOUR: 'it returns false'. Refute it at one input. -/
def kinNearestWrong : ChangeSpec := { name := "kinNearest", fn := fun _ => fun
  | [d1, d2, d3] => { results := [.lit (.bool false)], args := [d1, d2, d3] }
  | _ => none }
def KinNearestWrongFalsely : Prop := kinNearestRow.holds Try.pinned (OpenSpec.ofChange kinNearestWrong)

/-- 'additivelaw41.KinMonotone': WHATEVER THE INPUT: true; the input reads as it did. -/
def kinMonotoneSpec : ChangeSpec := { name := "kinMonotone", fn := fun _ => fun
  | [d1, d2, d3] => { results := [.lit (.bool true)], args := [d1, d2, d3] }
  | _ => none }
def kinMonotoneRow : OpenClaim := { program := "ythodfmmmddfkmaa", sum := "f83c2c07ef5b06a75b2a72de340d60ef3737845a68d885e4c6e6e28729546834", func := "additive/additivelaw41.KinMonotone", spec := "kinMonotone", apart := false }
def KinMonotoneSaid : Prop := kinMonotoneRow.holds Try.pinned (OpenSpec.ofChange kinMonotoneSpec)

/-- ITS FALSE NEIGHBOUR: 'it returns false'. Refute it at one input. -/
def kinMonotoneWrong : ChangeSpec := { name := "kinMonotone", fn := fun _ => fun
  | [d1, d2, d3] => { results := [.lit (.bool false)], args := [d1, d2, d3] }
  | _ => none }
def KinMonotoneWrongFalsely : Prop := kinMonotoneRow.holds Try.pinned (OpenSpec.ofChange kinMonotoneWrong)

/-- 'additivelaw43.LimitsSpeeds': WHATEVER THE INPUT: true; the input reads as it did. -/
def limitsSpeedsSpec : ChangeSpec := { name := "limitsSpeeds", fn := fun _ => fun
  | [d1, d2, d3, d4] => { results := [.lit (.bool true)], args := [d1, d2, d3, d4] }
  | _ => none }
def limitsSpeedsRow : OpenClaim := { program := "ythodfmmmddfkmaa", sum := "f83c2c07ef5b06a75b2a72de340d60ef3737845a68d885e4c6e6e28729546834", func := "additive/additivelaw43.LimitsSpeeds", spec := "limitsSpeeds", named := ["math/bits.divideError", "math/bits.overflowError"], apart := false }
def LimitsSpeedsSaid : Prop := limitsSpeedsRow.holds Try.pinned (OpenSpec.ofChange limitsSpeedsSpec)

/-- ITS FALSE NEIGHBOUR: 'it returns false'. Refute it at one input. -/
def limitsSpeedsWrong : ChangeSpec := { name := "limitsSpeeds", fn := fun _ => fun
  | [d1, d2, d3, d4] => { results := [.lit (.bool false)], args := [d1, d2, d3, d4] }
  | _ => none }
def LimitsSpeedsWrongFalsely : Prop := limitsSpeedsRow.holds Try.pinned (OpenSpec.ofChange limitsSpeedsWrong)

/-- 'additivelaw43.LimitsAccels': WHATEVER THE INPUT: true; the input reads as it did. -/
def limitsAccelsSpec : ChangeSpec := { name := "limitsAccels", fn := fun _ => fun
  | [d1, d2, d3] => { results := [.lit (.bool true)], args := [d1, d2, d3] }
  | _ => none }
def limitsAccelsRow : OpenClaim := { program := "ythodfmmmddfkmaa", sum := "f83c2c07ef5b06a75b2a72de340d60ef3737845a68d885e4c6e6e28729546834", func := "additive/additivelaw43.LimitsAccels", spec := "limitsAccels", named := ["math/bits.divideError", "math/bits.overflowError"], apart := false }
def LimitsAccelsSaid : Prop := limitsAccelsRow.holds Try.pinned (OpenSpec.ofChange limitsAccelsSpec)

/-- ITS FALSE NEIGHBOUR: 'it returns false'. Refute it at one input. -/
def limitsAccelsWrong : ChangeSpec := { name := "limitsAccels", fn := fun _ => fun
  | [d1, d2, d3] => { results := [.lit (.bool false)], args := [d1, d2, d3] }
  | _ => none }
def LimitsAccelsWrongFalsely : Prop := limitsAccelsRow.holds Try.pinned (OpenSpec.ofChange limitsAccelsWrong)

/-- 'additivelaw43.LimitsHold': WHATEVER THE INPUT: true; the input reads as it did. -/
def limitsHoldSpec : ChangeSpec := { name := "limitsHold", fn := fun _ => fun
  | [d1, d2, d3, d4, d5] => { results := [.lit (.bool true)], args := [d1, d2, d3, d4, d5] }
  | _ => none }
def limitsHoldRow : OpenClaim := { program := "ythodfmmmddfkmaa", sum := "f83c2c07ef5b06a75b2a72de340d60ef3737845a68d885e4c6e6e28729546834", func := "additive/additivelaw43.LimitsHold", spec := "limitsHold", named := ["math/bits.divideError", "math/bits.overflowError"], apart := false }
def LimitsHoldSaid : Prop := limitsHoldRow.holds Try.pinned (OpenSpec.ofChange limitsHoldSpec)

/-- ITS FALSE NEIGHBOUR: 'it returns false'. Refute it at one input. -/
def limitsHoldWrong : ChangeSpec := { name := "limitsHold", fn := fun _ => fun
  | [d1, d2, d3, d4, d5] => { results := [.lit (.bool false)], args := [d1, d2, d3, d4, d5] }
  | _ => none }
def LimitsHoldWrongFalsely : Prop := limitsHoldRow.holds Try.pinned (OpenSpec.ofChange limitsHoldWrong)

/-- 'additivelaw43.LimitsScale': WHATEVER THE INPUT: true; the input reads as it did. -/
def limitsScaleSpec : ChangeSpec := { name := "limitsScale", fn := fun _ => fun
  | [d1, d2, d3, d4] => { results := [.lit (.bool true)], args := [d1, d2, d3, d4] }
  | _ => none }
def limitsScaleRow : OpenClaim := { program := "ythodfmmmddfkmaa", sum := "f83c2c07ef5b06a75b2a72de340d60ef3737845a68d885e4c6e6e28729546834", func := "additive/additivelaw43.LimitsScale", spec := "limitsScale", named := ["math/bits.divideError", "math/bits.overflowError"], apart := false }
def LimitsScaleSaid : Prop := limitsScaleRow.holds Try.pinned (OpenSpec.ofChange limitsScaleSpec)

/-- ITS FALSE NEIGHBOUR: 'it returns false'. Refute it at one input. -/
def limitsScaleWrong : ChangeSpec := { name := "limitsScale", fn := fun _ => fun
  | [d1, d2, d3, d4] => { results := [.lit (.bool false)], args := [d1, d2, d3, d4] }
  | _ => none }
def LimitsScaleWrongFalsely : Prop := limitsScaleRow.holds Try.pinned (OpenSpec.ofChange limitsScaleWrong)

/-- 'additivelaw43.LimitsTurn': WHATEVER THE INPUT: true; the input reads as it did. -/
def limitsTurnSpec : ChangeSpec := { name := "limitsTurn", fn := fun _ => fun
  | [d1, d2, d3] => { results := [.lit (.bool true)], args := [d1, d2, d3] }
  | _ => none }
def limitsTurnRow : OpenClaim := { program := "ythodfmmmddfkmaa", sum := "f83c2c07ef5b06a75b2a72de340d60ef3737845a68d885e4c6e6e28729546834", func := "additive/additivelaw43.LimitsTurn", spec := "limitsTurn", named := ["math/bits.divideError", "math/bits.overflowError"], apart := false }
def LimitsTurnSaid : Prop := limitsTurnRow.holds Try.pinned (OpenSpec.ofChange limitsTurnSpec)

/-- ITS FALSE NEIGHBOUR: 'it returns false'. Refute it at one input. -/
def limitsTurnWrong : ChangeSpec := { name := "limitsTurn", fn := fun _ => fun
  | [d1, d2, d3] => { results := [.lit (.bool false)], args := [d1, d2, d3] }
  | _ => none }
def LimitsTurnWrongFalsely : Prop := limitsTurnRow.holds Try.pinned (OpenSpec.ofChange limitsTurnWrong)

/- THE SECOND FORM. 'bulk': how many values and letters a reading holds, each counted each time it is reached (what is shared counts as often as it is met; a slice's spare places count too). A statement '..UptoSaid' is the law's where the arguments, and the package variables that the reading takes, are together of bulk at most 1048576: NARROWER than '..Said'. Prove '..Said' where nothing that the law and all that it calls make is longer than what came in: it says more and counts as full. Else prove '..UptoSaid'. A law counts once. -/
mutual
def uptoBulk {H : Type} : DataW H → Nat
  | .lit (.string bytes) => bytes.length + 1
  | .lit _ => 1
  | .nil => 1
  | .ptr d => uptoBulk d + 1
  | .slice elems spare => uptoBulkAll elems + uptoBulkAll spare + 1
  | .agg parts => uptoBulkAll parts + 1
  | .iface _ d => uptoBulk d + 1
  | .map entries => uptoBulkEntries entries + 1
  | .held _ => 1
def uptoBulkAll {H : Type} : List (DataW H) → Nat
  | [] => 0
  | d :: r => uptoBulk d + uptoBulkAll r
def uptoBulkEntries {H : Type} : List (Lit × DataW H) → Nat
  | [] => 0
  | x :: r => uptoBulkEntry x + uptoBulkEntries r
def uptoBulkEntry {H : Type} : Lit × DataW H → Nat
  | (.string bytes, d) => bytes.length + uptoBulk d + 1
  | (_, d) => uptoBulk d + 1
 end
def uptoSmall : (H : Type) → List (DataW H) → Bool := fun _ ds => decide (uptoBulkAll ds ≤ 1048576)
def OpenSpec.upto (s : _root_.Go.ChangeSpec) : _root_.Go.OpenSpec := { _root_.Go.OpenSpec.ofChange s with cond := some uptoSmall }

/-- 'additivelaw41.KinChecks', WHERE WHAT IT READS IS OF BULK AT MOST 1048576: true; the input reads as it did. -/
def kinChecksUptoRow : OpenClaim := { program := "ythodfmmmddfkmaa", sum := "f83c2c07ef5b06a75b2a72de340d60ef3737845a68d885e4c6e6e28729546834", func := "additive/additivelaw41.KinChecks", spec := "kinChecks", apart := false, narrowed := true }
def KinChecksUptoSaid : Prop := kinChecksUptoRow.holds Try.pinned (OpenSpec.upto kinChecksSpec)

/-- 'additivelaw41.KinSteps', WHERE WHAT IT READS IS OF BULK AT MOST 1048576: true; the input reads as it did. -/
def kinStepsUptoRow : OpenClaim := { program := "ythodfmmmddfkmaa", sum := "f83c2c07ef5b06a75b2a72de340d60ef3737845a68d885e4c6e6e28729546834", func := "additive/additivelaw41.KinSteps", spec := "kinSteps", apart := false, narrowed := true }
def KinStepsUptoSaid : Prop := kinStepsUptoRow.holds Try.pinned (OpenSpec.upto kinStepsSpec)

/-- 'additivelaw41.KinPlaces', WHERE WHAT IT READS IS OF BULK AT MOST 1048576: true; the input reads as it did. -/
def kinPlacesUptoRow : OpenClaim := { program := "ythodfmmmddfkmaa", sum := "f83c2c07ef5b06a75b2a72de340d60ef3737845a68d885e4c6e6e28729546834", func := "additive/additivelaw41.KinPlaces", spec := "kinPlaces", apart := false, narrowed := true }
def KinPlacesUptoSaid : Prop := kinPlacesUptoRow.holds Try.pinned (OpenSpec.upto kinPlacesSpec)

/-- 'additivelaw41.KinInverse', WHERE WHAT IT READS IS OF BULK AT MOST 1048576: true; the input reads as it did. -/
def kinInverseUptoRow : OpenClaim := { program := "ythodfmmmddfkmaa", sum := "f83c2c07ef5b06a75b2a72de340d60ef3737845a68d885e4c6e6e28729546834", func := "additive/additivelaw41.KinInverse", spec := "kinInverse", apart := false, narrowed := true }
def KinInverseUptoSaid : Prop := kinInverseUptoRow.holds Try.pinned (OpenSpec.upto kinInverseSpec)

/-- 'additivelaw41.KinNearest', WHERE WHAT IT READS IS OF BULK AT MOST 1048576: true; the input reads as it did. -/
def kinNearestUptoRow : OpenClaim := { program := "ythodfmmmddfkmaa", sum := "f83c2c07ef5b06a75b2a72de340d60ef3737845a68d885e4c6e6e28729546834", func := "additive/additivelaw41.KinNearest", spec := "kinNearest", apart := false, narrowed := true }
def KinNearestUptoSaid : Prop := kinNearestUptoRow.holds Try.pinned (OpenSpec.upto kinNearestSpec)

/-- 'additivelaw41.KinMonotone', WHERE WHAT IT READS IS OF BULK AT MOST 1048576: true; the input reads as it did. -/
def kinMonotoneUptoRow : OpenClaim := { program := "ythodfmmmddfkmaa", sum := "f83c2c07ef5b06a75b2a72de340d60ef3737845a68d885e4c6e6e28729546834", func := "additive/additivelaw41.KinMonotone", spec := "kinMonotone", apart := false, narrowed := true }
def KinMonotoneUptoSaid : Prop := kinMonotoneUptoRow.holds Try.pinned (OpenSpec.upto kinMonotoneSpec)

/-- 'additivelaw43.LimitsSpeeds', WHERE WHAT IT READS IS OF BULK AT MOST 1048576: true; the input reads as it did. -/
def limitsSpeedsUptoRow : OpenClaim := { program := "ythodfmmmddfkmaa", sum := "f83c2c07ef5b06a75b2a72de340d60ef3737845a68d885e4c6e6e28729546834", func := "additive/additivelaw43.LimitsSpeeds", spec := "limitsSpeeds", named := ["math/bits.divideError", "math/bits.overflowError"], apart := false, narrowed := true }
def LimitsSpeedsUptoSaid : Prop := limitsSpeedsUptoRow.holds Try.pinned (OpenSpec.upto limitsSpeedsSpec)

/-- 'additivelaw43.LimitsAccels', WHERE WHAT IT READS IS OF BULK AT MOST 1048576: true; the input reads as it did. -/
def limitsAccelsUptoRow : OpenClaim := { program := "ythodfmmmddfkmaa", sum := "f83c2c07ef5b06a75b2a72de340d60ef3737845a68d885e4c6e6e28729546834", func := "additive/additivelaw43.LimitsAccels", spec := "limitsAccels", named := ["math/bits.divideError", "math/bits.overflowError"], apart := false, narrowed := true }
def LimitsAccelsUptoSaid : Prop := limitsAccelsUptoRow.holds Try.pinned (OpenSpec.upto limitsAccelsSpec)

/-- 'additivelaw43.LimitsHold', WHERE WHAT IT READS IS OF BULK AT MOST 1048576: true; the input reads as it did. -/
def limitsHoldUptoRow : OpenClaim := { program := "ythodfmmmddfkmaa", sum := "f83c2c07ef5b06a75b2a72de340d60ef3737845a68d885e4c6e6e28729546834", func := "additive/additivelaw43.LimitsHold", spec := "limitsHold", named := ["math/bits.divideError", "math/bits.overflowError"], apart := false, narrowed := true }
def LimitsHoldUptoSaid : Prop := limitsHoldUptoRow.holds Try.pinned (OpenSpec.upto limitsHoldSpec)

/-- 'additivelaw43.LimitsScale', WHERE WHAT IT READS IS OF BULK AT MOST 1048576: true; the input reads as it did. -/
def limitsScaleUptoRow : OpenClaim := { program := "ythodfmmmddfkmaa", sum := "f83c2c07ef5b06a75b2a72de340d60ef3737845a68d885e4c6e6e28729546834", func := "additive/additivelaw43.LimitsScale", spec := "limitsScale", named := ["math/bits.divideError", "math/bits.overflowError"], apart := false, narrowed := true }
def LimitsScaleUptoSaid : Prop := limitsScaleUptoRow.holds Try.pinned (OpenSpec.upto limitsScaleSpec)

/-- 'additivelaw43.LimitsTurn', WHERE WHAT IT READS IS OF BULK AT MOST 1048576: true; the input reads as it did. -/
def limitsTurnUptoRow : OpenClaim := { program := "ythodfmmmddfkmaa", sum := "f83c2c07ef5b06a75b2a72de340d60ef3737845a68d885e4c6e6e28729546834", func := "additive/additivelaw43.LimitsTurn", spec := "limitsTurn", named := ["math/bits.divideError", "math/bits.overflowError"], apart := false, narrowed := true }
def LimitsTurnUptoSaid : Prop := limitsTurnUptoRow.holds Try.pinned (OpenSpec.upto limitsTurnSpec)

end Rows
end Go.Proofs.Ythodfmmmddfkmaa
