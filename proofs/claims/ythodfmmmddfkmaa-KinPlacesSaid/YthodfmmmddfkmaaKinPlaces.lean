/- What the walks of the laws of chapter 41 on positions share: a place's cells -/
import Derived.Test.YthodfmmmddfkmaaKinOpen
import Derived.Test.YthodfmmmddfkmaaDdaEq
namespace Go.Proofs.Ythodfmmmddfkmaa
open Go.RowKit
set_option linter.unusedVariables false

/-- The eight cells of a place behind its machine. -/
theorem place_tail {w : World} {b : Nat} {f : Nat → Int} {x : Bool} {t : Int} {g : Nat → Int} (L : Live w b (placeA f x t g)) :
    w.cell? ⟨b, 30, none⟩ = some (.int .i64 (g 0)) ∧ w.cell? ⟨b, 31, none⟩ = some (.int .i64 (g 1)) ∧ w.cell? ⟨b, 32, none⟩ = some (.int .i64 (g 2)) ∧ w.cell? ⟨b, 33, none⟩ = some (.int .i64 (g 3)) ∧ w.cell? ⟨b, 34, none⟩ = some (.int .i64 (g 4)) ∧ w.cell? ⟨b, 35, none⟩ = some (.int .i64 (g 5)) ∧ w.cell? ⟨b, 36, none⟩ = some (.int .i64 (g 6)) ∧ w.cell? ⟨b, 37, none⟩ = some (.int .i64 (g 7)) :=
  ⟨L.2.1 30, L.2.1 31, L.2.1 32, L.2.1 33, L.2.1 34, L.2.1 35, L.2.1 36, L.2.1 37⟩
theorem live_three {w : World} {b : Nat} {x y z : Value} (h : Live w b #[x, y, z]) : w.cell? ⟨b, 0, none⟩ = some x ∧ w.cell? ⟨b, 1, none⟩ = some y ∧ w.cell? ⟨b, 2, none⟩ = some z := ⟨h.2.1 0, h.2.1 1, h.2.1 2⟩
end Go.Proofs.Ythodfmmmddfkmaa
