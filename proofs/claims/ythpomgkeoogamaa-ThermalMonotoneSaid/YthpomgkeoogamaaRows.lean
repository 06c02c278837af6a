/-
  No cell of these rows narrows 'for every input' (looked for: loops, veiled, ifaces, maps, wideKeys, modest, calm, conditions, laid).
  DERIVED. THE GIVEN ROWS OF THIS SEAT. 12 by the template 'for every input the law returns true; each argument reads behind the call as it read before'; 0 by the template 'total and deterministic' (their statements: YthpomgkeoogamaaTotals.lean).
  GIVEN WITH THE SEED: the statements are not yours to turn. If you find one false, say at which input.
  Laid BY PROGRAM, IN A SANDBOX (cutbox-rows.mjs): the forced cells as the released guide's own fill.sh prints them over the translation e7e1cd71d3e25214… (all of the seat's roots in one cut). By AI agents, Wed Nov 11 2026. No macro, syntax, notation, axiom, sorry.
-/
import Derived.Test.YthpomgkeoogamaaChecked
import GoSem.Claim
import GoSem.ClaimJoined
import GoSem.ClaimMapViews
import Derived.JoinedTies
import Derived.KernelRfl
namespace Go.Proofs.Ythpomgkeoogamaa
/- THE CELL 'sum', in the pinned program and in every row, IS THE sha256 OF THE DUMP (.gsa) THAT YthpomgkeoogamaaProg.lean LOADS. Nothing in Lean hashes anything: it is a label: what it is worth is what the hold of that sum in a sandbox is worth. -/
noncomputable def Try.pinned : Pinned := { name := "ythpomgkeoogamaa", sum := "e7e1cd71d3e252140c5140d1c157732f386e4ea528db0629162755847c154899", checked := Try.checked }
namespace Rows
def none {H : Type} : Left H := { results := [], args := [] }

/-- 'additivelaw49.ControlSteps': WHATEVER THE INPUT: true; the input reads as it did. -/
def controlStepsSpec : ChangeSpec := { name := "controlSteps", fn := fun _ => fun
  | [d1, d2] => { results := [.lit (.bool true)], args := [d1, d2] }
  | _ => none }
def controlStepsRow : OpenClaim := { program := "ythpomgkeoogamaa", sum := "e7e1cd71d3e252140c5140d1c157732f386e4ea528db0629162755847c154899", func := "additive/additivelaw49.ControlSteps", spec := "controlSteps", apart := false }
def ControlStepsSaid : Prop := controlStepsRow.holds Try.pinned (OpenSpec.ofChange controlStepsSpec)

/-- ITS FALSE NEIGHBOUR: 'it returns false'. Refute it at one input. -/
def controlStepsWrong : ChangeSpec := { name := "controlSteps", fn := fun _ => fun
  | [d1, d2] => { results := [.lit (.bool false)], args := [d1, d2] }
  | _ => none }
def ControlStepsWrongFalsely : Prop := controlStepsRow.holds Try.pinned (OpenSpec.ofChange controlStepsWrong)

/-- 'additivelaw49.ControlRuns': WHATEVER THE INPUT: true; the input reads as it did. -/
def controlRunsSpec : ChangeSpec := { name := "controlRuns", fn := fun _ => fun
  | [d1, d2] => { results := [.lit (.bool true)], args := [d1, d2] }
  | _ => none }
def controlRunsRow : OpenClaim := { program := "ythpomgkeoogamaa", sum := "e7e1cd71d3e252140c5140d1c157732f386e4ea528db0629162755847c154899", func := "additive/additivelaw49.ControlRuns", spec := "controlRuns", apart := false }
def ControlRunsSaid : Prop := controlRunsRow.holds Try.pinned (OpenSpec.ofChange controlRunsSpec)

/-- ITS FALSE NEIGHBOUR: 'it returns false'. Refute it at one input. -/
def controlRunsWrong : ChangeSpec := { name := "controlRuns", fn := fun _ => fun
  | [d1, d2] => { results := [.lit (.bool false)], args := [d1, d2] }
  | _ => none }
def ControlRunsWrongFalsely : Prop := controlRunsRow.holds Try.pinned (OpenSpec.ofChange controlRunsWrong)

/-- 'additivelaw49.ControlBounded': WHATEVER THE INPUT: true; the input reads as it did. -/
def controlBoundedSpec : ChangeSpec := { name := "controlBounded", fn := fun _ => fun
  | [d1, d2] => { results := [.lit (.bool true)], args := [d1, d2] }
  | _ => none }
def controlBoundedRow : OpenClaim := { program := "ythpomgkeoogamaa", sum := "e7e1cd71d3e252140c5140d1c157732f386e4ea528db0629162755847c154899", func := "additive/additivelaw49.ControlBounded", spec := "controlBounded", apart := false }
def ControlBoundedSaid : Prop := controlBoundedRow.holds Try.pinned (OpenSpec.ofChange controlBoundedSpec)

/-- ITS FALSE NEIGHBOUR: 'it returns false'. Refute it at one input. -/
def controlBoundedWrong : ChangeSpec := { name := "controlBounded", fn := fun _ => fun
  | [d1, d2] => { results := [.lit (.bool false)], args := [d1, d2] }
  | _ => none }
def ControlBoundedWrongFalsely : Prop := controlBoundedRow.holds Try.pinned (OpenSpec.ofChange controlBoundedWrong)

/-- 'additivelaw49.ControlMonotone': WHATEVER THE INPUT: true; the input reads as it did. -/
def controlMonotoneSpec : ChangeSpec := { name := "controlMonotone", fn := fun _ => fun
  | [d1, d2, d3] => { results := [.lit (.bool true)], args := [d1, d2, d3] }
  | _ => none }
def controlMonotoneRow : OpenClaim := { program := "ythpomgkeoogamaa", sum := "e7e1cd71d3e252140c5140d1c157732f386e4ea528db0629162755847c154899", func := "additive/additivelaw49.ControlMonotone", spec := "controlMonotone", apart := false }
def ControlMonotoneSaid : Prop := controlMonotoneRow.holds Try.pinned (OpenSpec.ofChange controlMonotoneSpec)

/-- ITS FALSE NEIGHBOUR: 'it returns false'. Refute it at one input. -/
def controlMonotoneWrong : ChangeSpec := { name := "controlMonotone", fn := fun _ => fun
  | [d1, d2, d3] => { results := [.lit (.bool false)], args := [d1, d2, d3] }
  | _ => none }
def ControlMonotoneWrongFalsely : Prop := controlMonotoneRow.holds Try.pinned (OpenSpec.ofChange controlMonotoneWrong)

/-- 'additivelaw48.ThermalChecks': WHATEVER THE INPUT: true; the input reads as it did. -/
def thermalChecksSpec : ChangeSpec := { name := "thermalChecks", fn := fun _ => fun
  | [d] => { results := [.lit (.bool true)], args := [d] }
  | _ => none }
def thermalChecksRow : OpenClaim := { program := "ythpomgkeoogamaa", sum := "e7e1cd71d3e252140c5140d1c157732f386e4ea528db0629162755847c154899", func := "additive/additivelaw48.ThermalChecks", spec := "thermalChecks", unfollowed := true, recurses := true, apart := false }
def ThermalChecksSaid : Prop := thermalChecksRow.holds Try.pinned (OpenSpec.ofChange thermalChecksSpec)

/-- ITS FALSE NEIGHBOUR: 'it returns false'. Refute it at one input. -/
def thermalChecksWrong : ChangeSpec := { name := "thermalChecks", fn := fun _ => fun
  | [d] => { results := [.lit (.bool false)], args := [d] }
  | _ => none }
def ThermalChecksWrongFalsely : Prop := thermalChecksRow.holds Try.pinned (OpenSpec.ofChange thermalChecksWrong)

/-- 'additivelaw48.ThermalSteps': WHATEVER THE INPUT: true; the input reads as it did. -/
def thermalStepsSpec : ChangeSpec := { name := "thermalSteps", fn := fun _ => fun
  | [d1, d2, d3] => { results := [.lit (.bool true)], args := [d1, d2, d3] }
  | _ => none }
def thermalStepsRow : OpenClaim := { program := "ythpomgkeoogamaa", sum := "e7e1cd71d3e252140c5140d1c157732f386e4ea528db0629162755847c154899", func := "additive/additivelaw48.ThermalSteps", spec := "thermalSteps", unfollowed := true, recurses := true, apart := false }
def ThermalStepsSaid : Prop := thermalStepsRow.holds Try.pinned (OpenSpec.ofChange thermalStepsSpec)

/-- ITS FALSE NEIGHBOUR: 'it returns false'. Refute it at one input. -/
def thermalStepsWrong : ChangeSpec := { name := "thermalSteps", fn := fun _ => fun
  | [d1, d2, d3] => { results := [.lit (.bool false)], args := [d1, d2, d3] }
  | _ => none }
def ThermalStepsWrongFalsely : Prop := thermalStepsRow.holds Try.pinned (OpenSpec.ofChange thermalStepsWrong)

/-- 'additivelaw48.ThermalRuns': WHATEVER THE INPUT: true; the input reads as it did. -/
def thermalRunsSpec : ChangeSpec := { name := "thermalRuns", fn := fun _ => fun
  | [d1, d2, d3] => { results := [.lit (.bool true)], args := [d1, d2, d3] }
  | _ => none }
def thermalRunsRow : OpenClaim := { program := "ythpomgkeoogamaa", sum := "e7e1cd71d3e252140c5140d1c157732f386e4ea528db0629162755847c154899", func := "additive/additivelaw48.ThermalRuns", spec := "thermalRuns", unfollowed := true, recurses := true, apart := false }
def ThermalRunsSaid : Prop := thermalRunsRow.holds Try.pinned (OpenSpec.ofChange thermalRunsSpec)

/-- ITS FALSE NEIGHBOUR: 'it returns false'. Refute it at one input. -/
def thermalRunsWrong : ChangeSpec := { name := "thermalRuns", fn := fun _ => fun
  | [d1, d2, d3] => { results := [.lit (.bool false)], args := [d1, d2, d3] }
  | _ => none }
def ThermalRunsWrongFalsely : Prop := thermalRunsRow.holds Try.pinned (OpenSpec.ofChange thermalRunsWrong)

/-- 'additivelaw48.ThermalBounded': WHATEVER THE INPUT: true; the input reads as it did. -/
def thermalBoundedSpec : ChangeSpec := { name := "thermalBounded", fn := fun _ => fun
  | [d1, d2, d3] => { results := [.lit (.bool true)], args := [d1, d2, d3] }
  | _ => none }
def thermalBoundedRow : OpenClaim := { program := "ythpomgkeoogamaa", sum := "e7e1cd71d3e252140c5140d1c157732f386e4ea528db0629162755847c154899", func := "additive/additivelaw48.ThermalBounded", spec := "thermalBounded", unfollowed := true, recurses := true, apart := false }
def ThermalBoundedSaid : Prop := thermalBoundedRow.holds Try.pinned (OpenSpec.ofChange thermalBoundedSpec)

/-- ITS FALSE NEIGHBOUR: 'it returns false'. Refute it at one input. -/
def thermalBoundedWrong : ChangeSpec := { name := "thermalBounded", fn := fun _ => fun
  | [d1, d2, d3] => { results := [.lit (.bool false)], args := [d1, d2, d3] }
  | _ => none }
def ThermalBoundedWrongFalsely : Prop := thermalBoundedRow.holds Try.pinned (OpenSpec.ofChange thermalBoundedWrong)

/-- 'additivelaw48.ThermalMonotone': WHATEVER THE INPUT: true; the input reads as it did. -/
def thermalMonotoneSpec : ChangeSpec := { name := "thermalMonotone", fn := fun _ => fun
  | [d] => { results := [.lit (.bool true)], args := [d] }
  | _ => none }
def thermalMonotoneRow : OpenClaim := { program := "ythpomgkeoogamaa", sum := "e7e1cd71d3e252140c5140d1c157732f386e4ea528db0629162755847c154899", func := "additive/additivelaw48.ThermalMonotone", spec := "thermalMonotone", unfollowed := true, recurses := true, apart := false }
def ThermalMonotoneSaid : Prop := thermalMonotoneRow.holds Try.pinned (OpenSpec.ofChange thermalMonotoneSpec)

/-- ITS FALSE NEIGHBOUR: 'it returns false'. Refute it at one input. -/
def thermalMonotoneWrong : ChangeSpec := { name := "thermalMonotone", fn := fun _ => fun
  | [d] => { results := [.lit (.bool false)], args := [d] }
  | _ => none }
def ThermalMonotoneWrongFalsely : Prop := thermalMonotoneRow.holds Try.pinned (OpenSpec.ofChange thermalMonotoneWrong)

/-- 'additivelaw48.ThermalRests': WHATEVER THE INPUT: true; the input reads as it did. -/
def thermalRestsSpec : ChangeSpec := { name := "thermalRests", fn := fun _ => fun
  | [d1, d2] => { results := [.lit (.bool true)], args := [d1, d2] }
  | _ => none }
def thermalRestsRow : OpenClaim := { program := "ythpomgkeoogamaa", sum := "e7e1cd71d3e252140c5140d1c157732f386e4ea528db0629162755847c154899", func := "additive/additivelaw48.ThermalRests", spec := "thermalRests", unfollowed := true, recurses := true, apart := false }
def ThermalRestsSaid : Prop := thermalRestsRow.holds Try.pinned (OpenSpec.ofChange thermalRestsSpec)

/-- ITS FALSE NEIGHBOUR: 'it returns false'. Refute it at one input. -/
def thermalRestsWrong : ChangeSpec := { name := "thermalRests", fn := fun _ => fun
  | [d1, d2] => { results := [.lit (.bool false)], args := [d1, d2] }
  | _ => none }
def ThermalRestsWrongFalsely : Prop := thermalRestsRow.holds Try.pinned (OpenSpec.ofChange thermalRestsWrong)

/-- 'additivelaw49.ControlValid': WHATEVER THE INPUT: true; the input reads as it did. -/
def controlValidSpec : ChangeSpec := { name := "controlValid", fn := fun _ => fun
  | [d1, d2] => { results := [.lit (.bool true)], args := [d1, d2] }
  | _ => none }
def controlValidRow : OpenClaim := { program := "ythpomgkeoogamaa", sum := "e7e1cd71d3e252140c5140d1c157732f386e4ea528db0629162755847c154899", func := "additive/additivelaw49.ControlValid", spec := "controlValid", apart := false }
def ControlValidSaid : Prop := controlValidRow.holds Try.pinned (OpenSpec.ofChange controlValidSpec)

/-- ITS FALSE NEIGHBOUR: 'it returns false'. Refute it at one input. -/
def controlValidWrong : ChangeSpec := { name := "controlValid", fn := fun _ => fun
  | [d1, d2] => { results := [.lit (.bool false)], args := [d1, d2] }
  | _ => none }
def ControlValidWrongFalsely : Prop := controlValidRow.holds Try.pinned (OpenSpec.ofChange controlValidWrong)

/-- 'additivelaw49.ControlAims': WHATEVER THE INPUT: true; the input reads as it did. -/
def controlAimsSpec : ChangeSpec := { name := "controlAims", fn := fun _ => fun
  | [d1, d2, d3] => { results := [.lit (.bool true)], args := [d1, d2, d3] }
  | _ => none }
def controlAimsRow : OpenClaim := { program := "ythpomgkeoogamaa", sum := "e7e1cd71d3e252140c5140d1c157732f386e4ea528db0629162755847c154899", func := "additive/additivelaw49.ControlAims", spec := "controlAims", apart := false }
def ControlAimsSaid : Prop := controlAimsRow.holds Try.pinned (OpenSpec.ofChange controlAimsSpec)

/-- ITS FALSE NEIGHBOUR: 'it returns false'. Refute it at one input. -/
def controlAimsWrong : ChangeSpec := { name := "controlAims", fn := fun _ => fun
  | [d1, d2, d3] => { results := [.lit (.bool false)], args := [d1, d2, d3] }
  | _ => none }
def ControlAimsWrongFalsely : Prop := controlAimsRow.holds Try.pinned (OpenSpec.ofChange controlAimsWrong)

/- THE SECOND FORM. 'bulk': how many values and letters a reading holds, each counted each time it is reached (what is shared counts as often as it is met; a slice's spare places count too). A statement '..UptoSaid' is the law's where the arguments, and the package variables that the reading takes, are together of bulk at most 1048576: NARROWER than '..Said'. Prove '..Said' where nothing that the law and all that it calls make is longer than what came in: it says more and counts as full. Else prove '..UptoSaid'. A law counts once. -/
mutual
def uptoBulk {H : Type} : DataW H → Nat
  | .lit (.string bytes) => bytes.length + 1
  | .lit _ => 1
  | .nil => 1
  | .ptr d => uptoBulk d + 1
  | .slice elems spare => uptoBulkAll elems + uptoBulkAll spare + 1
  | .agg parts => uptoBulkAll parts + 1
  | .iface _ d => uptoBulk d + 1
  | .map entries => uptoBulkEntries entries + 1
  | .held _ => 1
def uptoBulkAll {H : Type} : List (DataW H) → Nat
  | [] => 0
  | d :: r => uptoBulk d + uptoBulkAll r
def uptoBulkEntries {H : Type} : List (Lit × DataW H) → Nat
  | [] => 0
  | x :: r => uptoBulkEntry x + uptoBulkEntries r
def uptoBulkEntry {H : Type} : Lit × DataW H → Nat
  | (.string bytes, d) => bytes.length + uptoBulk d + 1
  | (_, d) => uptoBulk d + 1
 end
def uptoSmall : (H : Type) → List (DataW H) → Bool := fun _ ds => decide (uptoBulkAll ds ≤ 1048576)
def OpenSpec.upto (s : _root_.Go.ChangeSpec) : _root_.Go.OpenSpec := { _root_.Go.OpenSpec.ofChange s with cond := some uptoSmall }

/-- 'additivelaw49.ControlSteps', WHERE WHAT IT READS IS OF BULK AT MOST 1048576: true; the input reads as it did. -/
def controlStepsUptoRow : OpenClaim := { program := "ythpomgkeoogamaa", sum := "e7e1cd71d3e252140c5140d1c157732f386e4ea528db0629162755847c154899", func := "additive/additivelaw49.ControlSteps", spec := "controlSteps", apart := false, narrowed := true }
def ControlStepsUptoSaid : Prop := controlStepsUptoRow.holds Try.pinned (OpenSpec.upto controlStepsSpec)

/-- 'additivelaw49.ControlRuns', WHERE WHAT IT READS IS OF BULK AT MOST 1048576: true; the input reads as it did. -/
def controlRunsUptoRow : OpenClaim := { program := "ythpomgkeoogamaa", sum := "e7e1cd71d3e252140c5140d1c157732f386e4ea528db0629162755847c154899", func := "additive/additivelaw49.ControlRuns", spec := "controlRuns", apart := false, narrowed := true }
def ControlRunsUptoSaid : Prop := controlRunsUptoRow.holds Try.pinned (OpenSpec.upto controlRunsSpec)

/-- 'additivelaw49.ControlBounded', WHERE WHAT IT READS IS OF BULK AT MOST 1048576: true; the input reads as it did. -/
def controlBoundedUptoRow : OpenClaim := { program := "ythpomgkeoogamaa", sum := "e7e1cd71d3e252140c5140d1c157732f386e4ea528db0629162755847c154899", func := "additive/additivelaw49.ControlBounded", spec := "controlBounded", apart := false, narrowed := true }
def ControlBoundedUptoSaid : Prop := controlBoundedUptoRow.holds Try.pinned (OpenSpec.upto controlBoundedSpec)

/-- 'additivelaw49.ControlMonotone', WHERE WHAT IT READS IS OF BULK AT MOST 1048576: true; the input reads as it did. -/
def controlMonotoneUptoRow : OpenClaim := { program := "ythpomgkeoogamaa", sum := "e7e1cd71d3e252140c5140d1c157732f386e4ea528db0629162755847c154899", func := "additive/additivelaw49.ControlMonotone", spec := "controlMonotone", apart := false, narrowed := true }
def ControlMonotoneUptoSaid : Prop := controlMonotoneUptoRow.holds Try.pinned (OpenSpec.upto controlMonotoneSpec)

/-- 'additivelaw48.ThermalChecks', WHERE WHAT IT READS IS OF BULK AT MOST 1048576: true; the input reads as it did. -/
def thermalChecksUptoRow : OpenClaim := { program := "ythpomgkeoogamaa", sum := "e7e1cd71d3e252140c5140d1c157732f386e4ea528db0629162755847c154899", func := "additive/additivelaw48.ThermalChecks", spec := "thermalChecks", unfollowed := true, recurses := true, apart := false, narrowed := true }
def ThermalChecksUptoSaid : Prop := thermalChecksUptoRow.holds Try.pinned (OpenSpec.upto thermalChecksSpec)

/-- 'additivelaw48.ThermalSteps', WHERE WHAT IT READS IS OF BULK AT MOST 1048576: true; the input reads as it did. -/
def thermalStepsUptoRow : OpenClaim := { program := "ythpomgkeoogamaa", sum := "e7e1cd71d3e252140c5140d1c157732f386e4ea528db0629162755847c154899", func := "additive/additivelaw48.ThermalSteps", spec := "thermalSteps", unfollowed := true, recurses := true, apart := false, narrowed := true }
def ThermalStepsUptoSaid : Prop := thermalStepsUptoRow.holds Try.pinned (OpenSpec.upto thermalStepsSpec)

/-- 'additivelaw48.ThermalRuns', WHERE WHAT IT READS IS OF BULK AT MOST 1048576: true; the input reads as it did. -/
def thermalRunsUptoRow : OpenClaim := { program := "ythpomgkeoogamaa", sum := "e7e1cd71d3e252140c5140d1c157732f386e4ea528db0629162755847c154899", func := "additive/additivelaw48.ThermalRuns", spec := "thermalRuns", unfollowed := true, recurses := true, apart := false, narrowed := true }
def ThermalRunsUptoSaid : Prop := thermalRunsUptoRow.holds Try.pinned (OpenSpec.upto thermalRunsSpec)

/-- 'additivelaw48.ThermalBounded', WHERE WHAT IT READS IS OF BULK AT MOST 1048576: true; the input reads as it did. -/
def thermalBoundedUptoRow : OpenClaim := { program := "ythpomgkeoogamaa", sum := "e7e1cd71d3e252140c5140d1c157732f386e4ea528db0629162755847c154899", func := "additive/additivelaw48.ThermalBounded", spec := "thermalBounded", unfollowed := true, recurses := true, apart := false, narrowed := true }
def ThermalBoundedUptoSaid : Prop := thermalBoundedUptoRow.holds Try.pinned (OpenSpec.upto thermalBoundedSpec)

/-- 'additivelaw48.ThermalMonotone', WHERE WHAT IT READS IS OF BULK AT MOST 1048576: true; the input reads as it did. -/
def thermalMonotoneUptoRow : OpenClaim := { program := "ythpomgkeoogamaa", sum := "e7e1cd71d3e252140c5140d1c157732f386e4ea528db0629162755847c154899", func := "additive/additivelaw48.ThermalMonotone", spec := "thermalMonotone", unfollowed := true, recurses := true, apart := false, narrowed := true }
def ThermalMonotoneUptoSaid : Prop := thermalMonotoneUptoRow.holds Try.pinned (OpenSpec.upto thermalMonotoneSpec)

/-- 'additivelaw48.ThermalRests', WHERE WHAT IT READS IS OF BULK AT MOST 1048576: true; the input reads as it did. -/
def thermalRestsUptoRow : OpenClaim := { program := "ythpomgkeoogamaa", sum := "e7e1cd71d3e252140c5140d1c157732f386e4ea528db0629162755847c154899", func := "additive/additivelaw48.ThermalRests", spec := "thermalRests", unfollowed := true, recurses := true, apart := false, narrowed := true }
def ThermalRestsUptoSaid : Prop := thermalRestsUptoRow.holds Try.pinned (OpenSpec.upto thermalRestsSpec)

/-- 'additivelaw49.ControlValid', WHERE WHAT IT READS IS OF BULK AT MOST 1048576: true; the input reads as it did. -/
def controlValidUptoRow : OpenClaim := { program := "ythpomgkeoogamaa", sum := "e7e1cd71d3e252140c5140d1c157732f386e4ea528db0629162755847c154899", func := "additive/additivelaw49.ControlValid", spec := "controlValid", apart := false, narrowed := true }
def ControlValidUptoSaid : Prop := controlValidUptoRow.holds Try.pinned (OpenSpec.upto controlValidSpec)

/-- 'additivelaw49.ControlAims', WHERE WHAT IT READS IS OF BULK AT MOST 1048576: true; the input reads as it did. -/
def controlAimsUptoRow : OpenClaim := { program := "ythpomgkeoogamaa", sum := "e7e1cd71d3e252140c5140d1c157732f386e4ea528db0629162755847c154899", func := "additive/additivelaw49.ControlAims", spec := "controlAims", apart := false, narrowed := true }
def ControlAimsUptoSaid : Prop := controlAimsUptoRow.holds Try.pinned (OpenSpec.upto controlAimsSpec)

end Rows
end Go.Proofs.Ythpomgkeoogamaa
