/-
  No cell of these rows narrows 'for every input' (looked for: loops, veiled, ifaces, maps, wideKeys, modest, calm, conditions, laid).
  DERIVED. THE GIVEN ROWS OF THIS SEAT. 12 by the template 'for every input the law returns true; each argument reads behind the call as it read before'; 0 by the template 'total and deterministic' (their statements: YtleohgnnbpicjaaTotals.lean).
  GIVEN WITH THE SEED: the statements are not yours to turn. If you find one false, say at which input.
  Laid BY PROGRAM, IN A SANDBOX (cutbox-rows.mjs): the forced cells as the released guide's own fill.sh prints them over the translation b28f82b462b0960b… (all of the seat's roots in one cut). By AI agents, Wed Nov 11 2026. No macro, syntax, notation, axiom, sorry.
-/
import Derived.Test.YtleohgnnbpicjaaChecked
import GoSem.Claim
import GoSem.ClaimJoined
import GoSem.ClaimMapViews
import Derived.JoinedTies
import Derived.KernelRfl
namespace Go.Proofs.Ytleohgnnbpicjaa
/- THE CELL 'sum', in the pinned program and in every row, IS THE sha256 OF THE DUMP (.gsa) THAT YtleohgnnbpicjaaProg.lean LOADS. Nothing in Lean hashes anything: it is a label: what it is worth is what the hold of that sum in a sandbox is worth. -/
noncomputable def Try.pinned : Pinned := { name := "ytleohgnnbpicjaa", sum := "b28f82b462b0960b7d30851d84511049bf61478db553b04e714914e5f3f9cdcf", checked := Try.checked }
namespace Rows
def none {H : Type} : Left H := { results := [], args := [] }

/-- 'additivelaw44.AheadValid': WHATEVER THE INPUT: true; the input reads as it did. -/
def aheadValidSpec : ChangeSpec := { name := "aheadValid", fn := fun _ => fun
  | [d] => { results := [.lit (.bool true)], args := [d] }
  | _ => none }
def aheadValidRow : OpenClaim := { program := "ytleohgnnbpicjaa", sum := "b28f82b462b0960b7d30851d84511049bf61478db553b04e714914e5f3f9cdcf", func := "additive/additivelaw44.AheadValid", spec := "aheadValid", apart := false }
def AheadValidSaid : Prop := aheadValidRow.holds Try.pinned (OpenSpec.ofChange aheadValidSpec)

/-- ITS FALSE NEIGHBOUR: 'it returns false'. Refute it at one input. -/
def aheadValidWrong : ChangeSpec := { name := "aheadValid", fn := fun _ => fun
  | [d] => { results := [.lit (.bool false)], args := [d] }
  | _ => none }
def AheadValidWrongFalsely : Prop := aheadValidRow.holds Try.pinned (OpenSpec.ofChange aheadValidWrong)

/-- 'additivelaw44.AheadFeasible': WHATEVER THE INPUT: true; the input reads as it did. -/
def aheadFeasibleSpec : ChangeSpec := { name := "aheadFeasible", fn := fun _ => fun
  | [d] => { results := [.lit (.bool true)], args := [d] }
  | _ => none }
def aheadFeasibleRow : OpenClaim := { program := "ytleohgnnbpicjaa", sum := "b28f82b462b0960b7d30851d84511049bf61478db553b04e714914e5f3f9cdcf", func := "additive/additivelaw44.AheadFeasible", spec := "aheadFeasible", apart := false }
def AheadFeasibleSaid : Prop := aheadFeasibleRow.holds Try.pinned (OpenSpec.ofChange aheadFeasibleSpec)

/-- ITS FALSE NEIGHBOUR: 'it returns false'. Refute it at one input. -/
def aheadFeasibleWrong : ChangeSpec := { name := "aheadFeasible", fn := fun _ => fun
  | [d] => { results := [.lit (.bool false)], args := [d] }
  | _ => none }
def AheadFeasibleWrongFalsely : Prop := aheadFeasibleRow.holds Try.pinned (OpenSpec.ofChange aheadFeasibleWrong)

/-- 'additivelaw44.AheadPlans': WHATEVER THE INPUT: true; the input reads as it did. -/
def aheadPlansSpec : ChangeSpec := { name := "aheadPlans", fn := fun _ => fun
  | [d] => { results := [.lit (.bool true)], args := [d] }
  | _ => none }
def aheadPlansRow : OpenClaim := { program := "ytleohgnnbpicjaa", sum := "b28f82b462b0960b7d30851d84511049bf61478db553b04e714914e5f3f9cdcf", func := "additive/additivelaw44.AheadPlans", spec := "aheadPlans", apart := false }
def AheadPlansSaid : Prop := aheadPlansRow.holds Try.pinned (OpenSpec.ofChange aheadPlansSpec)

/-- ITS FALSE NEIGHBOUR: 'it returns false'. Refute it at one input. -/
def aheadPlansWrong : ChangeSpec := { name := "aheadPlans", fn := fun _ => fun
  | [d] => { results := [.lit (.bool false)], args := [d] }
  | _ => none }
def AheadPlansWrongFalsely : Prop := aheadPlansRow.holds Try.pinned (OpenSpec.ofChange aheadPlansWrong)

/-- 'additivelaw44.AheadGreatest': WHATEVER THE INPUT: true; the input reads as it did. -/
def aheadGreatestSpec : ChangeSpec := { name := "aheadGreatest", fn := fun _ => fun
  | [d] => { results := [.lit (.bool true)], args := [d] }
  | _ => none }
def aheadGreatestRow : OpenClaim := { program := "ytleohgnnbpicjaa", sum := "b28f82b462b0960b7d30851d84511049bf61478db553b04e714914e5f3f9cdcf", func := "additive/additivelaw44.AheadGreatest", spec := "aheadGreatest", apart := false }
def AheadGreatestSaid : Prop := aheadGreatestRow.holds Try.pinned (OpenSpec.ofChange aheadGreatestSpec)

/-- ITS FALSE NEIGHBOUR: 'it returns false'. Refute it at one input. -/
def aheadGreatestWrong : ChangeSpec := { name := "aheadGreatest", fn := fun _ => fun
  | [d] => { results := [.lit (.bool false)], args := [d] }
  | _ => none }
def AheadGreatestWrongFalsely : Prop := aheadGreatestRow.holds Try.pinned (OpenSpec.ofChange aheadGreatestWrong)

/-- 'additivelaw44.AheadTight': WHATEVER THE INPUT: true; the input reads as it did. -/
def aheadTightSpec : ChangeSpec := { name := "aheadTight", fn := fun _ => fun
  | [d] => { results := [.lit (.bool true)], args := [d] }
  | _ => none }
def aheadTightRow : OpenClaim := { program := "ytleohgnnbpicjaa", sum := "b28f82b462b0960b7d30851d84511049bf61478db553b04e714914e5f3f9cdcf", func := "additive/additivelaw44.AheadTight", spec := "aheadTight", apart := false }
def AheadTightSaid : Prop := aheadTightRow.holds Try.pinned (OpenSpec.ofChange aheadTightSpec)

/-- ITS FALSE NEIGHBOUR: 'it returns false'. Refute it at one input. -/
def aheadTightWrong : ChangeSpec := { name := "aheadTight", fn := fun _ => fun
  | [d] => { results := [.lit (.bool false)], args := [d] }
  | _ => none }
def AheadTightWrongFalsely : Prop := aheadTightRow.holds Try.pinned (OpenSpec.ofChange aheadTightWrong)

/-- 'additivelaw44.AheadCaps': WHATEVER THE INPUT: true; the input reads as it did. -/
def aheadCapsSpec : ChangeSpec := { name := "aheadCaps", fn := fun _ => fun
  | [d1, d2, d3] => { results := [.lit (.bool true)], args := [d1, d2, d3] }
  | _ => none }
def aheadCapsRow : OpenClaim := { program := "ytleohgnnbpicjaa", sum := "b28f82b462b0960b7d30851d84511049bf61478db553b04e714914e5f3f9cdcf", func := "additive/additivelaw44.AheadCaps", spec := "aheadCaps", apart := false }
def AheadCapsSaid : Prop := aheadCapsRow.holds Try.pinned (OpenSpec.ofChange aheadCapsSpec)

/-- ITS FALSE NEIGHBOUR: 'it returns false'. Refute it at one input. -/
def aheadCapsWrong : ChangeSpec := { name := "aheadCaps", fn := fun _ => fun
  | [d1, d2, d3] => { results := [.lit (.bool false)], args := [d1, d2, d3] }
  | _ => none }
def AheadCapsWrongFalsely : Prop := aheadCapsRow.holds Try.pinned (OpenSpec.ofChange aheadCapsWrong)

/-- 'additivelaw46.PulseExact': WHATEVER THE INPUT: true; the input reads as it did. -/
def pulseExactSpec : ChangeSpec := { name := "pulseExact", fn := fun _ => fun
  | [d1, d2] => { results := [.lit (.bool true)], args := [d1, d2] }
  | _ => none }
def pulseExactRow : OpenClaim := { program := "ytleohgnnbpicjaa", sum := "b28f82b462b0960b7d30851d84511049bf61478db553b04e714914e5f3f9cdcf", func := "additive/additivelaw46.PulseExact", spec := "pulseExact", unfollowed := true, recurses := true, apart := false }
def PulseExactSaid : Prop := pulseExactRow.holds Try.pinned (OpenSpec.ofChange pulseExactSpec)

/-- ITS FALSE NEIGHBOUR: 'it returns false'. Refute it at one input. -/
def pulseExactWrong : ChangeSpec := { name := "pulseExact", fn := fun _ => fun
  | [d1, d2] => { results := [.lit (.bool false)], args := [d1, d2] }
  | _ => none }
def PulseExactWrongFalsely : Prop := pulseExactRow.holds Try.pinned (OpenSpec.ofChange pulseExactWrong)

/-- 'additivelaw46.PulseStarts': WHATEVER THE INPUT: true; the input reads as it did. -/
def pulseStartsSpec : ChangeSpec := { name := "pulseStarts", fn := fun _ => fun
  | [d1, d2] => { results := [.lit (.bool true)], args := [d1, d2] }
  | _ => none }
def pulseStartsRow : OpenClaim := { program := "ytleohgnnbpicjaa", sum := "b28f82b462b0960b7d30851d84511049bf61478db553b04e714914e5f3f9cdcf", func := "additive/additivelaw46.PulseStarts", spec := "pulseStarts", unfollowed := true, recurses := true, apart := false }
def PulseStartsSaid : Prop := pulseStartsRow.holds Try.pinned (OpenSpec.ofChange pulseStartsSpec)

/-- ITS FALSE NEIGHBOUR: 'it returns false'. Refute it at one input. -/
def pulseStartsWrong : ChangeSpec := { name := "pulseStarts", fn := fun _ => fun
  | [d1, d2] => { results := [.lit (.bool false)], args := [d1, d2] }
  | _ => none }
def PulseStartsWrongFalsely : Prop := pulseStartsRow.holds Try.pinned (OpenSpec.ofChange pulseStartsWrong)

/-- 'additivelaw46.PulseTicks': WHATEVER THE INPUT: true; the input reads as it did. -/
def pulseTicksSpec : ChangeSpec := { name := "pulseTicks", fn := fun _ => fun
  | [d1, d2] => { results := [.lit (.bool true)], args := [d1, d2] }
  | _ => none }
def pulseTicksRow : OpenClaim := { program := "ytleohgnnbpicjaa", sum := "b28f82b462b0960b7d30851d84511049bf61478db553b04e714914e5f3f9cdcf", func := "additive/additivelaw46.PulseTicks", spec := "pulseTicks", unfollowed := true, recurses := true, apart := false }
def PulseTicksSaid : Prop := pulseTicksRow.holds Try.pinned (OpenSpec.ofChange pulseTicksSpec)

/-- ITS FALSE NEIGHBOUR: 'it returns false'. Refute it at one input. -/
def pulseTicksWrong : ChangeSpec := { name := "pulseTicks", fn := fun _ => fun
  | [d1, d2] => { results := [.lit (.bool false)], args := [d1, d2] }
  | _ => none }
def PulseTicksWrongFalsely : Prop := pulseTicksRow.holds Try.pinned (OpenSpec.ofChange pulseTicksWrong)

/-- 'additivelaw46.PulseMade': WHATEVER THE INPUT: true; the input reads as it did. -/
def pulseMadeSpec : ChangeSpec := { name := "pulseMade", fn := fun _ => fun
  | [d] => { results := [.lit (.bool true)], args := [d] }
  | _ => none }
def pulseMadeRow : OpenClaim := { program := "ytleohgnnbpicjaa", sum := "b28f82b462b0960b7d30851d84511049bf61478db553b04e714914e5f3f9cdcf", func := "additive/additivelaw46.PulseMade", spec := "pulseMade", unfollowed := true, recurses := true, apart := false }
def PulseMadeSaid : Prop := pulseMadeRow.holds Try.pinned (OpenSpec.ofChange pulseMadeSpec)

/-- ITS FALSE NEIGHBOUR: 'it returns false'. Refute it at one input. -/
def pulseMadeWrong : ChangeSpec := { name := "pulseMade", fn := fun _ => fun
  | [d] => { results := [.lit (.bool false)], args := [d] }
  | _ => none }
def PulseMadeWrongFalsely : Prop := pulseMadeRow.holds Try.pinned (OpenSpec.ofChange pulseMadeWrong)

/-- 'additivelaw46.PulseApart': WHATEVER THE INPUT: true; the input reads as it did. -/
def pulseApartSpec : ChangeSpec := { name := "pulseApart", fn := fun _ => fun
  | [d1, d2] => { results := [.lit (.bool true)], args := [d1, d2] }
  | _ => none }
def pulseApartRow : OpenClaim := { program := "ytleohgnnbpicjaa", sum := "b28f82b462b0960b7d30851d84511049bf61478db553b04e714914e5f3f9cdcf", func := "additive/additivelaw46.PulseApart", spec := "pulseApart", unfollowed := true, recurses := true, apart := false }
def PulseApartSaid : Prop := pulseApartRow.holds Try.pinned (OpenSpec.ofChange pulseApartSpec)

/-- ITS FALSE NEIGHBOUR: 'it returns false'. Refute it at one input. -/
def pulseApartWrong : ChangeSpec := { name := "pulseApart", fn := fun _ => fun
  | [d1, d2] => { results := [.lit (.bool false)], args := [d1, d2] }
  | _ => none }
def PulseApartWrongFalsely : Prop := pulseApartRow.holds Try.pinned (OpenSpec.ofChange pulseApartWrong)

/-- 'additivelaw46.PulseSplits': WHATEVER THE INPUT: true; the input reads as it did. -/
def pulseSplitsSpec : ChangeSpec := { name := "pulseSplits", fn := fun _ => fun
  | [d1, d2, d3] => { results := [.lit (.bool true)], args := [d1, d2, d3] }
  | _ => none }
def pulseSplitsRow : OpenClaim := { program := "ytleohgnnbpicjaa", sum := "b28f82b462b0960b7d30851d84511049bf61478db553b04e714914e5f3f9cdcf", func := "additive/additivelaw46.PulseSplits", spec := "pulseSplits", unfollowed := true, recurses := true, apart := false }
def PulseSplitsSaid : Prop := pulseSplitsRow.holds Try.pinned (OpenSpec.ofChange pulseSplitsSpec)

/-- ITS FALSE NEIGHBOUR: 'it returns false'. Refute it at one input. -/
def pulseSplitsWrong : ChangeSpec := { name := "pulseSplits", fn := fun _ => fun
  | [d1, d2, d3] => { results := [.lit (.bool false)], args := [d1, d2, d3] }
  | _ => none }
def PulseSplitsWrongFalsely : Prop := pulseSplitsRow.holds Try.pinned (OpenSpec.ofChange pulseSplitsWrong)

/- THE SECOND FORM. 'bulk': how many values and letters a reading holds, each counted each time it is reached (what is shared counts as often as it is met; a slice's spare places count too). A statement '..UptoSaid' is the law's where the arguments, and the package variables that the reading takes, are together of bulk at most 1048576: NARROWER than '..Said'. Prove '..Said' where nothing that the law and all that it calls make is longer than what came in: it says more and counts as full. Else prove '..UptoSaid'. A law counts once. -/
mutual
def uptoBulk {H : Type} : DataW H → Nat
  | .lit (.string bytes) => bytes.length + 1
  | .lit _ => 1
  | .nil => 1
  | .ptr d => uptoBulk d + 1
  | .slice elems spare => uptoBulkAll elems + uptoBulkAll spare + 1
  | .agg parts => uptoBulkAll parts + 1
  | .iface _ d => uptoBulk d + 1
  | .map entries => uptoBulkEntries entries + 1
  | .held _ => 1
def uptoBulkAll {H : Type} : List (DataW H) → Nat
  | [] => 0
  | d :: r => uptoBulk d + uptoBulkAll r
def uptoBulkEntries {H : Type} : List (Lit × DataW H) → Nat
  | [] => 0
  | x :: r => uptoBulkEntry x + uptoBulkEntries r
def uptoBulkEntry {H : Type} : Lit × DataW H → Nat
  | (.string bytes, d) => bytes.length + uptoBulk d + 1
  | (_, d) => uptoBulk d + 1
 end
def uptoSmall : (H : Type) → List (DataW H) → Bool := fun _ ds => decide (uptoBulkAll ds ≤ 1048576)
def OpenSpec.upto (s : _root_.Go.ChangeSpec) : _root_.Go.OpenSpec := { _root_.Go.OpenSpec.ofChange s with cond := some uptoSmall }

/-- 'additivelaw44.AheadValid', WHERE WHAT IT READS IS OF BULK AT MOST 1048576: true; the input reads as it did. -/
def aheadValidUptoRow : OpenClaim := { program := "ytleohgnnbpicjaa", sum := "b28f82b462b0960b7d30851d84511049bf61478db553b04e714914e5f3f9cdcf", func := "additive/additivelaw44.AheadValid", spec := "aheadValid", apart := false, narrowed := true }
def AheadValidUptoSaid : Prop := aheadValidUptoRow.holds Try.pinned (OpenSpec.upto aheadValidSpec)

/-- 'additivelaw44.AheadFeasible', WHERE WHAT IT READS IS OF BULK AT MOST 1048576: true; the input reads as it did. -/
def aheadFeasibleUptoRow : OpenClaim := { program := "ytleohgnnbpicjaa", sum := "b28f82b462b0960b7d30851d84511049bf61478db553b04e714914e5f3f9cdcf", func := "additive/additivelaw44.AheadFeasible", spec := "aheadFeasible", apart := false, narrowed := true }
def AheadFeasibleUptoSaid : Prop := aheadFeasibleUptoRow.holds Try.pinned (OpenSpec.upto aheadFeasibleSpec)

/-- 'additivelaw44.AheadPlans', WHERE WHAT IT READS IS OF BULK AT MOST 1048576: true; the input reads as it did. -/
def aheadPlansUptoRow : OpenClaim := { program := "ytleohgnnbpicjaa", sum := "b28f82b462b0960b7d30851d84511049bf61478db553b04e714914e5f3f9cdcf", func := "additive/additivelaw44.AheadPlans", spec := "aheadPlans", apart := false, narrowed := true }
def AheadPlansUptoSaid : Prop := aheadPlansUptoRow.holds Try.pinned (OpenSpec.upto aheadPlansSpec)

/-- 'additivelaw44.AheadGreatest', WHERE WHAT IT READS IS OF BULK AT MOST 1048576: true; the input reads as it did. -/
def aheadGreatestUptoRow : OpenClaim := { program := "ytleohgnnbpicjaa", sum := "b28f82b462b0960b7d30851d84511049bf61478db553b04e714914e5f3f9cdcf", func := "additive/additivelaw44.AheadGreatest", spec := "aheadGreatest", apart := false, narrowed := true }
def AheadGreatestUptoSaid : Prop := aheadGreatestUptoRow.holds Try.pinned (OpenSpec.upto aheadGreatestSpec)

/-- 'additivelaw44.AheadTight', WHERE WHAT IT READS IS OF BULK AT MOST 1048576: true; the input reads as it did. -/
def aheadTightUptoRow : OpenClaim := { program := "ytleohgnnbpicjaa", sum := "b28f82b462b0960b7d30851d84511049bf61478db553b04e714914e5f3f9cdcf", func := "additive/additivelaw44.AheadTight", spec := "aheadTight", apart := false, narrowed := true }
def AheadTightUptoSaid : Prop := aheadTightUptoRow.holds Try.pinned (OpenSpec.upto aheadTightSpec)

/-- 'additivelaw44.AheadCaps', WHERE WHAT IT READS IS OF BULK AT MOST 1048576: true; the input reads as it did. -/
def aheadCapsUptoRow : OpenClaim := { program := "ytleohgnnbpicjaa", sum := "b28f82b462b0960b7d30851d84511049bf61478db553b04e714914e5f3f9cdcf", func := "additive/additivelaw44.AheadCaps", spec := "aheadCaps", apart := false, narrowed := true }
def AheadCapsUptoSaid : Prop := aheadCapsUptoRow.holds Try.pinned (OpenSpec.upto aheadCapsSpec)

/-- 'additivelaw46.PulseExact', WHERE WHAT IT READS IS OF BULK AT MOST 1048576: true; the input reads as it did. -/
def pulseExactUptoRow : OpenClaim := { program := "ytleohgnnbpicjaa", sum := "b28f82b462b0960b7d30851d84511049bf61478db553b04e714914e5f3f9cdcf", func := "additive/additivelaw46.PulseExact", spec := "pulseExact", unfollowed := true, recurses := true, apart := false, narrowed := true }
def PulseExactUptoSaid : Prop := pulseExactUptoRow.holds Try.pinned (OpenSpec.upto pulseExactSpec)

/-- 'additivelaw46.PulseStarts', WHERE WHAT IT READS IS OF BULK AT MOST 1048576: true; the input reads as it did. -/
def pulseStartsUptoRow : OpenClaim := { program := "ytleohgnnbpicjaa", sum := "b28f82b462b0960b7d30851d84511049bf61478db553b04e714914e5f3f9cdcf", func := "additive/additivelaw46.PulseStarts", spec := "pulseStarts", unfollowed := true, recurses := true, apart := false, narrowed := true }
def PulseStartsUptoSaid : Prop := pulseStartsUptoRow.holds Try.pinned (OpenSpec.upto pulseStartsSpec)

/-- 'additivelaw46.PulseTicks', WHERE WHAT IT READS IS OF BULK AT MOST 1048576: true; the input reads as it did. -/
def pulseTicksUptoRow : OpenClaim := { program := "ytleohgnnbpicjaa", sum := "b28f82b462b0960b7d30851d84511049bf61478db553b04e714914e5f3f9cdcf", func := "additive/additivelaw46.PulseTicks", spec := "pulseTicks", unfollowed := true, recurses := true, apart := false, narrowed := true }
def PulseTicksUptoSaid : Prop := pulseTicksUptoRow.holds Try.pinned (OpenSpec.upto pulseTicksSpec)

/-- 'additivelaw46.PulseMade', WHERE WHAT IT READS IS OF BULK AT MOST 1048576: true; the input reads as it did. -/
def pulseMadeUptoRow : OpenClaim := { program := "ytleohgnnbpicjaa", sum := "b28f82b462b0960b7d30851d84511049bf61478db553b04e714914e5f3f9cdcf", func := "additive/additivelaw46.PulseMade", spec := "pulseMade", unfollowed := true, recurses := true, apart := false, narrowed := true }
def PulseMadeUptoSaid : Prop := pulseMadeUptoRow.holds Try.pinned (OpenSpec.upto pulseMadeSpec)

/-- 'additivelaw46.PulseApart', WHERE WHAT IT READS IS OF BULK AT MOST 1048576: true; the input reads as it did. -/
def pulseApartUptoRow : OpenClaim := { program := "ytleohgnnbpicjaa", sum := "b28f82b462b0960b7d30851d84511049bf61478db553b04e714914e5f3f9cdcf", func := "additive/additivelaw46.PulseApart", spec := "pulseApart", unfollowed := true, recurses := true, apart := false, narrowed := true }
def PulseApartUptoSaid : Prop := pulseApartUptoRow.holds Try.pinned (OpenSpec.upto pulseApartSpec)

/-- 'additivelaw46.PulseSplits', WHERE WHAT IT READS IS OF BULK AT MOST 1048576: true; the input reads as it did. -/
def pulseSplitsUptoRow : OpenClaim := { program := "ytleohgnnbpicjaa", sum := "b28f82b462b0960b7d30851d84511049bf61478db553b04e714914e5f3f9cdcf", func := "additive/additivelaw46.PulseSplits", spec := "pulseSplits", unfollowed := true, recurses := true, apart := false, narrowed := true }
def PulseSplitsUptoSaid : Prop := pulseSplitsUptoRow.holds Try.pinned (OpenSpec.upto pulseSplitsSpec)

end Rows
end Go.Proofs.Ytleohgnnbpicjaa
