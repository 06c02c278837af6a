/-
  No cell of these rows narrows 'for every input' (looked for: loops, veiled, ifaces, maps, wideKeys, modest, calm, conditions, laid).
  DERIVED. THE GIVEN ROWS OF THIS SEAT. 12 by the template 'for every input the law returns true; each argument reads behind the call as it read before'; 0 by the template 'total and deterministic' (their statements: YtjcnheakjgmidaaTotals.lean).
  GIVEN WITH THE SEED: the statements are not yours to turn. If you find one false, say at which input.
  Laid BY PROGRAM, IN A SANDBOX (cutbox-rows.mjs): the forced cells as the released guide's own fill.sh prints them over the translation c178469d5fa36eef… (all of the seat's roots in one cut). By AI agents, Wed Nov 11 2026. No macro, syntax, notation, axiom, sorry.
-/
import Derived.Test.YtjcnheakjgmidaaChecked
import GoSem.Claim
import GoSem.ClaimJoined
import GoSem.ClaimMapViews
import Derived.JoinedTies
import Derived.KernelRfl
namespace Go.Proofs.Ytjcnheakjgmidaa
/- THE CELL 'sum', in the pinned program and in every row, IS THE sha256 OF THE DUMP (.gsa) THAT YtjcnheakjgmidaaProg.lean LOADS. Nothing in Lean hashes anything: it is a label: what it is worth is what the hold of that sum in a sandbox is worth. -/
noncomputable def Try.pinned : Pinned := { name := "ytjcnheakjgmidaa", sum := "c178469d5fa36eefc7d820adfc91af3fd51901ce40491a4c806d1bb063dd6725", checked := Try.checked }
namespace Rows
def none {H : Type} : Left H := { results := [], args := [] }

/-- 'additivelaw42.DdaCounts': WHATEVER THE INPUT: true; the input reads as it did. -/
def ddaCountsSpec : ChangeSpec := { name := "ddaCounts", fn := fun _ => fun
  | [d] => { results := [.lit (.bool true)], args := [d] }
  | _ => none }
def ddaCountsRow : OpenClaim := { program := "ytjcnheakjgmidaa", sum := "c178469d5fa36eefc7d820adfc91af3fd51901ce40491a4c806d1bb063dd6725", func := "additive/additivelaw42.DdaCounts", spec := "ddaCounts", apart := false }
def DdaCountsSaid : Prop := ddaCountsRow.holds Try.pinned (OpenSpec.ofChange ddaCountsSpec)

/-- ITS FALSE NEIGHBOUR: 'it returns false'. Refute it at one input. -/
def ddaCountsWrong : ChangeSpec := { name := "ddaCounts", fn := fun _ => fun
  | [d] => { results := [.lit (.bool false)], args := [d] }
  | _ => none }
def DdaCountsWrongFalsely : Prop := ddaCountsRow.holds Try.pinned (OpenSpec.ofChange ddaCountsWrong)

/-- 'additivelaw42.DdaAt': WHATEVER THE INPUT: true; the input reads as it did. -/
def ddaAtSpec : ChangeSpec := { name := "ddaAt", fn := fun _ => fun
  | [d1, d2] => { results := [.lit (.bool true)], args := [d1, d2] }
  | _ => none }
def ddaAtRow : OpenClaim := { program := "ytjcnheakjgmidaa", sum := "c178469d5fa36eefc7d820adfc91af3fd51901ce40491a4c806d1bb063dd6725", func := "additive/additivelaw42.DdaAt", spec := "ddaAt", apart := false }
def DdaAtSaid : Prop := ddaAtRow.holds Try.pinned (OpenSpec.ofChange ddaAtSpec)

/-- ITS FALSE NEIGHBOUR: 'it returns false'. Refute it at one input. -/
def ddaAtWrong : ChangeSpec := { name := "ddaAt", fn := fun _ => fun
  | [d1, d2] => { results := [.lit (.bool false)], args := [d1, d2] }
  | _ => none }
def DdaAtWrongFalsely : Prop := ddaAtRow.holds Try.pinned (OpenSpec.ofChange ddaAtWrong)

/-- 'additivelaw42.DdaPulse': WHATEVER THE INPUT: true; the input reads as it did. -/
def ddaPulseSpec : ChangeSpec := { name := "ddaPulse", fn := fun _ => fun
  | [d1, d2] => { results := [.lit (.bool true)], args := [d1, d2] }
  | _ => none }
def ddaPulseRow : OpenClaim := { program := "ytjcnheakjgmidaa", sum := "c178469d5fa36eefc7d820adfc91af3fd51901ce40491a4c806d1bb063dd6725", func := "additive/additivelaw42.DdaPulse", spec := "ddaPulse", apart := false }
def DdaPulseSaid : Prop := ddaPulseRow.holds Try.pinned (OpenSpec.ofChange ddaPulseSpec)

/-- ITS FALSE NEIGHBOUR: 'it returns false'. Refute it at one input. -/
def ddaPulseWrong : ChangeSpec := { name := "ddaPulse", fn := fun _ => fun
  | [d1, d2] => { results := [.lit (.bool false)], args := [d1, d2] }
  | _ => none }
def DdaPulseWrongFalsely : Prop := ddaPulseRow.holds Try.pinned (OpenSpec.ofChange ddaPulseWrong)

/-- 'additivelaw42.DdaExact': WHATEVER THE INPUT: true; the input reads as it did. -/
def ddaExactSpec : ChangeSpec := { name := "ddaExact", fn := fun _ => fun
  | [d] => { results := [.lit (.bool true)], args := [d] }
  | _ => none }
def ddaExactRow : OpenClaim := { program := "ytjcnheakjgmidaa", sum := "c178469d5fa36eefc7d820adfc91af3fd51901ce40491a4c806d1bb063dd6725", func := "additive/additivelaw42.DdaExact", spec := "ddaExact", apart := false }
def DdaExactSaid : Prop := ddaExactRow.holds Try.pinned (OpenSpec.ofChange ddaExactSpec)

/-- ITS FALSE NEIGHBOUR: 'it returns false'. Refute it at one input. -/
def ddaExactWrong : ChangeSpec := { name := "ddaExact", fn := fun _ => fun
  | [d] => { results := [.lit (.bool false)], args := [d] }
  | _ => none }
def DdaExactWrongFalsely : Prop := ddaExactRow.holds Try.pinned (OpenSpec.ofChange ddaExactWrong)

/-- 'additivelaw42.DdaNear': WHATEVER THE INPUT: true; the input reads as it did. -/
def ddaNearSpec : ChangeSpec := { name := "ddaNear", fn := fun _ => fun
  | [d1, d2] => { results := [.lit (.bool true)], args := [d1, d2] }
  | _ => none }
def ddaNearRow : OpenClaim := { program := "ytjcnheakjgmidaa", sum := "c178469d5fa36eefc7d820adfc91af3fd51901ce40491a4c806d1bb063dd6725", func := "additive/additivelaw42.DdaNear", spec := "ddaNear", apart := false }
def DdaNearSaid : Prop := ddaNearRow.holds Try.pinned (OpenSpec.ofChange ddaNearSpec)

/-- ITS FALSE NEIGHBOUR: 'it returns false'. Refute it at one input. -/
def ddaNearWrong : ChangeSpec := { name := "ddaNear", fn := fun _ => fun
  | [d1, d2] => { results := [.lit (.bool false)], args := [d1, d2] }
  | _ => none }
def DdaNearWrongFalsely : Prop := ddaNearRow.holds Try.pinned (OpenSpec.ofChange ddaNearWrong)

/-- 'additivelaw42.DdaSigns': WHATEVER THE INPUT: true; the input reads as it did. -/
def ddaSignsSpec : ChangeSpec := { name := "ddaSigns", fn := fun _ => fun
  | [d1, d2] => { results := [.lit (.bool true)], args := [d1, d2] }
  | _ => none }
def ddaSignsRow : OpenClaim := { program := "ytjcnheakjgmidaa", sum := "c178469d5fa36eefc7d820adfc91af3fd51901ce40491a4c806d1bb063dd6725", func := "additive/additivelaw42.DdaSigns", spec := "ddaSigns", apart := false }
def DdaSignsSaid : Prop := ddaSignsRow.holds Try.pinned (OpenSpec.ofChange ddaSignsSpec)

/-- ITS FALSE NEIGHBOUR: 'it returns false'. Refute it at one input. -/
def ddaSignsWrong : ChangeSpec := { name := "ddaSigns", fn := fun _ => fun
  | [d1, d2] => { results := [.lit (.bool false)], args := [d1, d2] }
  | _ => none }
def DdaSignsWrongFalsely : Prop := ddaSignsRow.holds Try.pinned (OpenSpec.ofChange ddaSignsWrong)

/-- 'additivelaw45.RampSquares': WHATEVER THE INPUT: true; the input reads as it did. -/
def rampSquaresSpec : ChangeSpec := { name := "rampSquares", fn := fun _ => fun
  | [d1, d2] => { results := [.lit (.bool true)], args := [d1, d2] }
  | _ => none }
def rampSquaresRow : OpenClaim := { program := "ytjcnheakjgmidaa", sum := "c178469d5fa36eefc7d820adfc91af3fd51901ce40491a4c806d1bb063dd6725", func := "additive/additivelaw45.RampSquares", spec := "rampSquares", unfollowed := true, recurses := true, apart := false }
def RampSquaresSaid : Prop := rampSquaresRow.holds Try.pinned (OpenSpec.ofChange rampSquaresSpec)

/-- ITS FALSE NEIGHBOUR: 'it returns false'. Refute it at one input. -/
def rampSquaresWrong : ChangeSpec := { name := "rampSquares", fn := fun _ => fun
  | [d1, d2] => { results := [.lit (.bool false)], args := [d1, d2] }
  | _ => none }
def RampSquaresWrongFalsely : Prop := rampSquaresRow.holds Try.pinned (OpenSpec.ofChange rampSquaresWrong)

/-- 'additivelaw45.RampIntervals': WHATEVER THE INPUT: true; the input reads as it did. -/
def rampIntervalsSpec : ChangeSpec := { name := "rampIntervals", fn := fun _ => fun
  | [d1, d2, d3] => { results := [.lit (.bool true)], args := [d1, d2, d3] }
  | _ => none }
def rampIntervalsRow : OpenClaim := { program := "ytjcnheakjgmidaa", sum := "c178469d5fa36eefc7d820adfc91af3fd51901ce40491a4c806d1bb063dd6725", func := "additive/additivelaw45.RampIntervals", spec := "rampIntervals", unfollowed := true, recurses := true, apart := false }
def RampIntervalsSaid : Prop := rampIntervalsRow.holds Try.pinned (OpenSpec.ofChange rampIntervalsSpec)

/-- ITS FALSE NEIGHBOUR: 'it returns false'. Refute it at one input. -/
def rampIntervalsWrong : ChangeSpec := { name := "rampIntervals", fn := fun _ => fun
  | [d1, d2, d3] => { results := [.lit (.bool false)], args := [d1, d2, d3] }
  | _ => none }
def RampIntervalsWrongFalsely : Prop := rampIntervalsRow.holds Try.pinned (OpenSpec.ofChange rampIntervalsWrong)

/-- 'additivelaw45.RampDurations': WHATEVER THE INPUT: true; the input reads as it did. -/
def rampDurationsSpec : ChangeSpec := { name := "rampDurations", fn := fun _ => fun
  | [d1, d2] => { results := [.lit (.bool true)], args := [d1, d2] }
  | _ => none }
def rampDurationsRow : OpenClaim := { program := "ytjcnheakjgmidaa", sum := "c178469d5fa36eefc7d820adfc91af3fd51901ce40491a4c806d1bb063dd6725", func := "additive/additivelaw45.RampDurations", spec := "rampDurations", unfollowed := true, recurses := true, apart := false }
def RampDurationsSaid : Prop := rampDurationsRow.holds Try.pinned (OpenSpec.ofChange rampDurationsSpec)

/-- ITS FALSE NEIGHBOUR: 'it returns false'. Refute it at one input. -/
def rampDurationsWrong : ChangeSpec := { name := "rampDurations", fn := fun _ => fun
  | [d1, d2] => { results := [.lit (.bool false)], args := [d1, d2] }
  | _ => none }
def RampDurationsWrongFalsely : Prop := rampDurationsRow.holds Try.pinned (OpenSpec.ofChange rampDurationsWrong)

/-- 'additivelaw45.RampBounded': WHATEVER THE INPUT: true; the input reads as it did. -/
def rampBoundedSpec : ChangeSpec := { name := "rampBounded", fn := fun _ => fun
  | [d] => { results := [.lit (.bool true)], args := [d] }
  | _ => none }
def rampBoundedRow : OpenClaim := { program := "ytjcnheakjgmidaa", sum := "c178469d5fa36eefc7d820adfc91af3fd51901ce40491a4c806d1bb063dd6725", func := "additive/additivelaw45.RampBounded", spec := "rampBounded", unfollowed := true, recurses := true, apart := false }
def RampBoundedSaid : Prop := rampBoundedRow.holds Try.pinned (OpenSpec.ofChange rampBoundedSpec)

/-- ITS FALSE NEIGHBOUR: 'it returns false'. Refute it at one input. -/
def rampBoundedWrong : ChangeSpec := { name := "rampBounded", fn := fun _ => fun
  | [d] => { results := [.lit (.bool false)], args := [d] }
  | _ => none }
def RampBoundedWrongFalsely : Prop := rampBoundedRow.holds Try.pinned (OpenSpec.ofChange rampBoundedWrong)

/-- 'additivelaw45.RampTurned': WHATEVER THE INPUT: true; the input reads as it did. -/
def rampTurnedSpec : ChangeSpec := { name := "rampTurned", fn := fun _ => fun
  | [d1, d2] => { results := [.lit (.bool true)], args := [d1, d2] }
  | _ => none }
def rampTurnedRow : OpenClaim := { program := "ytjcnheakjgmidaa", sum := "c178469d5fa36eefc7d820adfc91af3fd51901ce40491a4c806d1bb063dd6725", func := "additive/additivelaw45.RampTurned", spec := "rampTurned", unfollowed := true, recurses := true, apart := false }
def RampTurnedSaid : Prop := rampTurnedRow.holds Try.pinned (OpenSpec.ofChange rampTurnedSpec)

/-- ITS FALSE NEIGHBOUR: 'it returns false'. Refute it at one input. -/
def rampTurnedWrong : ChangeSpec := { name := "rampTurned", fn := fun _ => fun
  | [d1, d2] => { results := [.lit (.bool false)], args := [d1, d2] }
  | _ => none }
def RampTurnedWrongFalsely : Prop := rampTurnedRow.holds Try.pinned (OpenSpec.ofChange rampTurnedWrong)

/-- 'additivelaw45.RampSlower': WHATEVER THE INPUT: true; the input reads as it did. -/
def rampSlowerSpec : ChangeSpec := { name := "rampSlower", fn := fun _ => fun
  | [d1, d2, d3] => { results := [.lit (.bool true)], args := [d1, d2, d3] }
  | _ => none }
def rampSlowerRow : OpenClaim := { program := "ytjcnheakjgmidaa", sum := "c178469d5fa36eefc7d820adfc91af3fd51901ce40491a4c806d1bb063dd6725", func := "additive/additivelaw45.RampSlower", spec := "rampSlower", unfollowed := true, recurses := true, apart := false }
def RampSlowerSaid : Prop := rampSlowerRow.holds Try.pinned (OpenSpec.ofChange rampSlowerSpec)

/-- ITS FALSE NEIGHBOUR: 'it returns false'. Refute it at one input. -/
def rampSlowerWrong : ChangeSpec := { name := "rampSlower", fn := fun _ => fun
  | [d1, d2, d3] => { results := [.lit (.bool false)], args := [d1, d2, d3] }
  | _ => none }
def RampSlowerWrongFalsely : Prop := rampSlowerRow.holds Try.pinned (OpenSpec.ofChange rampSlowerWrong)

/- THE SECOND FORM. 'bulk': how many values and letters a reading holds, each counted each time it is reached (what is shared counts as often as it is met; a slice's spare places count too). A statement '..UptoSaid' is the law's where the arguments, and the package variables that the reading takes, are together of bulk at most 1048576: NARROWER than '..Said'. Prove '..Said' where nothing that the law and all that it calls make is longer than what came in: it says more and counts as full. Else prove '..UptoSaid'. A law counts once. -/
mutual
def uptoBulk {H : Type} : DataW H → Nat
  | .lit (.string bytes) => bytes.length + 1
  | .lit _ => 1
  | .nil => 1
  | .ptr d => uptoBulk d + 1
  | .slice elems spare => uptoBulkAll elems + uptoBulkAll spare + 1
  | .agg parts => uptoBulkAll parts + 1
  | .iface _ d => uptoBulk d + 1
  | .map entries => uptoBulkEntries entries + 1
  | .held _ => 1
def uptoBulkAll {H : Type} : List (DataW H) → Nat
  | [] => 0
  | d :: r => uptoBulk d + uptoBulkAll r
def uptoBulkEntries {H : Type} : List (Lit × DataW H) → Nat
  | [] => 0
  | x :: r => uptoBulkEntry x + uptoBulkEntries r
def uptoBulkEntry {H : Type} : Lit × DataW H → Nat
  | (.string bytes, d) => bytes.length + uptoBulk d + 1
  | (_, d) => uptoBulk d + 1
 end
def uptoSmall : (H : Type) → List (DataW H) → Bool := fun _ ds => decide (uptoBulkAll ds ≤ 1048576)
def OpenSpec.upto (s : _root_.Go.ChangeSpec) : _root_.Go.OpenSpec := { _root_.Go.OpenSpec.ofChange s with cond := some uptoSmall }

/-- 'additivelaw42.DdaCounts', WHERE WHAT IT READS IS OF BULK AT MOST 1048576: true; the input reads as it did. -/
def ddaCountsUptoRow : OpenClaim := { program := "ytjcnheakjgmidaa", sum := "c178469d5fa36eefc7d820adfc91af3fd51901ce40491a4c806d1bb063dd6725", func := "additive/additivelaw42.DdaCounts", spec := "ddaCounts", apart := false, narrowed := true }
def DdaCountsUptoSaid : Prop := ddaCountsUptoRow.holds Try.pinned (OpenSpec.upto ddaCountsSpec)

/-- 'additivelaw42.DdaAt', WHERE WHAT IT READS IS OF BULK AT MOST 1048576: true; the input reads as it did. -/
def ddaAtUptoRow : OpenClaim := { program := "ytjcnheakjgmidaa", sum := "c178469d5fa36eefc7d820adfc91af3fd51901ce40491a4c806d1bb063dd6725", func := "additive/additivelaw42.DdaAt", spec := "ddaAt", apart := false, narrowed := true }
def DdaAtUptoSaid : Prop := ddaAtUptoRow.holds Try.pinned (OpenSpec.upto ddaAtSpec)

/-- 'additivelaw42.DdaPulse', WHERE WHAT IT READS IS OF BULK AT MOST 1048576: true; the input reads as it did. -/
def ddaPulseUptoRow : OpenClaim := { program := "ytjcnheakjgmidaa", sum := "c178469d5fa36eefc7d820adfc91af3fd51901ce40491a4c806d1bb063dd6725", func := "additive/additivelaw42.DdaPulse", spec := "ddaPulse", apart := false, narrowed := true }
def DdaPulseUptoSaid : Prop := ddaPulseUptoRow.holds Try.pinned (OpenSpec.upto ddaPulseSpec)

/-- 'additivelaw42.DdaExact', WHERE WHAT IT READS IS OF BULK AT MOST 1048576: true; the input reads as it did. -/
def ddaExactUptoRow : OpenClaim := { program := "ytjcnheakjgmidaa", sum := "c178469d5fa36eefc7d820adfc91af3fd51901ce40491a4c806d1bb063dd6725", func := "additive/additivelaw42.DdaExact", spec := "ddaExact", apart := false, narrowed := true }
def DdaExactUptoSaid : Prop := ddaExactUptoRow.holds Try.pinned (OpenSpec.upto ddaExactSpec)

/-- 'additivelaw42.DdaNear', WHERE WHAT IT READS IS OF BULK AT MOST 1048576: true; the input reads as it did. -/
def ddaNearUptoRow : OpenClaim := { program := "ytjcnheakjgmidaa", sum := "c178469d5fa36eefc7d820adfc91af3fd51901ce40491a4c806d1bb063dd6725", func := "additive/additivelaw42.DdaNear", spec := "ddaNear", apart := false, narrowed := true }
def DdaNearUptoSaid : Prop := ddaNearUptoRow.holds Try.pinned (OpenSpec.upto ddaNearSpec)

/-- 'additivelaw42.DdaSigns', WHERE WHAT IT READS IS OF BULK AT MOST 1048576: true; the input reads as it did. -/
def ddaSignsUptoRow : OpenClaim := { program := "ytjcnheakjgmidaa", sum := "c178469d5fa36eefc7d820adfc91af3fd51901ce40491a4c806d1bb063dd6725", func := "additive/additivelaw42.DdaSigns", spec := "ddaSigns", apart := false, narrowed := true }
def DdaSignsUptoSaid : Prop := ddaSignsUptoRow.holds Try.pinned (OpenSpec.upto ddaSignsSpec)

/-- 'additivelaw45.RampSquares', WHERE WHAT IT READS IS OF BULK AT MOST 1048576: true; the input reads as it did. -/
def rampSquaresUptoRow : OpenClaim := { program := "ytjcnheakjgmidaa", sum := "c178469d5fa36eefc7d820adfc91af3fd51901ce40491a4c806d1bb063dd6725", func := "additive/additivelaw45.RampSquares", spec := "rampSquares", unfollowed := true, recurses := true, apart := false, narrowed := true }
def RampSquaresUptoSaid : Prop := rampSquaresUptoRow.holds Try.pinned (OpenSpec.upto rampSquaresSpec)

/-- 'additivelaw45.RampIntervals', WHERE WHAT IT READS IS OF BULK AT MOST 1048576: true; the input reads as it did. -/
def rampIntervalsUptoRow : OpenClaim := { program := "ytjcnheakjgmidaa", sum := "c178469d5fa36eefc7d820adfc91af3fd51901ce40491a4c806d1bb063dd6725", func := "additive/additivelaw45.RampIntervals", spec := "rampIntervals", unfollowed := true, recurses := true, apart := false, narrowed := true }
def RampIntervalsUptoSaid : Prop := rampIntervalsUptoRow.holds Try.pinned (OpenSpec.upto rampIntervalsSpec)

/-- 'additivelaw45.RampDurations', WHERE WHAT IT READS IS OF BULK AT MOST 1048576: true; the input reads as it did. -/
def rampDurationsUptoRow : OpenClaim := { program := "ytjcnheakjgmidaa", sum := "c178469d5fa36eefc7d820adfc91af3fd51901ce40491a4c806d1bb063dd6725", func := "additive/additivelaw45.RampDurations", spec := "rampDurations", unfollowed := true, recurses := true, apart := false, narrowed := true }
def RampDurationsUptoSaid : Prop := rampDurationsUptoRow.holds Try.pinned (OpenSpec.upto rampDurationsSpec)

/-- 'additivelaw45.RampBounded', WHERE WHAT IT READS IS OF BULK AT MOST 1048576: true; the input reads as it did. -/
def rampBoundedUptoRow : OpenClaim := { program := "ytjcnheakjgmidaa", sum := "c178469d5fa36eefc7d820adfc91af3fd51901ce40491a4c806d1bb063dd6725", func := "additive/additivelaw45.RampBounded", spec := "rampBounded", unfollowed := true, recurses := true, apart := false, narrowed := true }
def RampBoundedUptoSaid : Prop := rampBoundedUptoRow.holds Try.pinned (OpenSpec.upto rampBoundedSpec)

/-- 'additivelaw45.RampTurned', WHERE WHAT IT READS IS OF BULK AT MOST 1048576: true; the input reads as it did. -/
def rampTurnedUptoRow : OpenClaim := { program := "ytjcnheakjgmidaa", sum := "c178469d5fa36eefc7d820adfc91af3fd51901ce40491a4c806d1bb063dd6725", func := "additive/additivelaw45.RampTurned", spec := "rampTurned", unfollowed := true, recurses := true, apart := false, narrowed := true }
def RampTurnedUptoSaid : Prop := rampTurnedUptoRow.holds Try.pinned (OpenSpec.upto rampTurnedSpec)

/-- 'additivelaw45.RampSlower', WHERE WHAT IT READS IS OF BULK AT MOST 1048576: true; the input reads as it did. -/
def rampSlowerUptoRow : OpenClaim := { program := "ytjcnheakjgmidaa", sum := "c178469d5fa36eefc7d820adfc91af3fd51901ce40491a4c806d1bb063dd6725", func := "additive/additivelaw45.RampSlower", spec := "rampSlower", unfollowed := true, recurses := true, apart := false, narrowed := true }
def RampSlowerUptoSaid : Prop := rampSlowerUptoRow.holds Try.pinned (OpenSpec.upto rampSlowerSpec)

end Rows
end Go.Proofs.Ytjcnheakjgmidaa
