/- More small lemmas: a live block of four cells, cell by cell -/
import Derived.Test.YtjcnheakjgmidaaKit2
namespace Go.Proofs.Ytjcnheakjgmidaa
open Go.RowKit

theorem live_four {w : World} {b : Nat} {x y z u : Value} (h : Live w b #[x, y, z, u]) : w.cell? ⟨b, 0, none⟩ = some x ∧ w.cell? ⟨b, 1, none⟩ = some y ∧ w.cell? ⟨b, 2, none⟩ = some z ∧ w.cell? ⟨b, 3, none⟩ = some u :=
  ⟨h.2.1 0, h.2.1 1, h.2.1 2, h.2.1 3⟩
end Go.Proofs.Ytjcnheakjgmidaa
