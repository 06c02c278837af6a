/- What the laws of chapter 01 share -/
import Derived.Test.YtimonckfibphcaaBase
import Derived.Test.YtimonckfibphcaaKit5
import Derived.Test.YtimonckfibphcaaNumAdd
import Derived.Test.YtimonckfibphcaaNumFmtR
import Derived.Test.YtimonckfibphcaaNumPrsR
import Derived.Test.YtimonckfibphcaaL01Awake
namespace Go.Proofs.Ytimonckfibphcaa
open Go.RowKit Go.WideShapes Go.ChangeShapes
set_option linter.unusedVariables false

theorem string_arg {H : Type} {enc : TypeId × Value → H} {P : Program} {w : World} {base : Nat} {t : TypeId} {v : Value} {d : DataW H} {p : List MemPlace}
    (ht : P.underlying t = some .string) (hv : Value.okWide P w .any base t v) (h : DataW.Trod enc P w 0 (fun _ => true) true t v d p) : ∃ s : ByteArray, v = .string s ∧ s.size ≤ 9223372036854775807 := by
  obtain ⟨s, rfl, rfl, rfl, h1⟩ := Go.ChangeMaps.open_string ht hv h
  exact ⟨s, rfl, by simpa [maxLen] using h1⟩
theorem law01_same (a e : Int) (w : World) : Calls Try.prog 14 #[.int .i64 a, .int .i64 e, .int .i64 a, .int .i64 e] w fun r w' => r = .returned (.bool true) ∧ w = w' := by
  go_enter Try.func14, Try.ntmps14
  go_wp2
  go_ret
  exact ⟨rfl, rfl⟩
end Go.Proofs.Ytimonckfibphcaa
