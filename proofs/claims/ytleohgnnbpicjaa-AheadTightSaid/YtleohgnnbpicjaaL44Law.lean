/- The laws of chapter 44: the queue as an argument; short -/
import Derived.Test.YtleohgnnbpicjaaBase
import Derived.Test.YtleohgnnbpicjaaKit7
namespace Go.Proofs.Ytleohgnnbpicjaa
open Go.RowKit Go.WideShapes Go.ChangeShapes Go.Deep Go.Joins
set_option linter.unusedVariables false

attribute [local go_sem] cell_past1 cell_past2 cell_past3 cell_past4 froz_past1 froz_past2 froz_past3

theorem queue_open {H : Type} {enc : TypeId × Value → H} {w : World} {b0 : Nat} {r : Reach} {base : Nat} {spare : Nat → Bool} {held : Bool} {v : Value} {d : DataW H} {p : List MemPlace}
    (hv : Value.okWide Try.prog w r b0 30 v) (h : DataW.Trod enc Try.prog w base spare held 30 v d p) :
    ∃ sl n cl sc m cc en g z, v = .agg #[.slice sl n cl, .slice sc m cc, .int .i64 en] ∧ n ≤ 9223372036854775807 ∧ m ≤ 9223372036854775807 ∧ BlkS w sl n g ∧ IntS w sc m z ∧ (∀ k o, I64 (g k o)) ∧ (∀ k, I64 (z k)) ∧ I64 en := by
  obtain ⟨v0, v1, v2, y0, y1, y2, fuel, rfl, _, _, h0, h1, h2⟩ := open_agg3 Try.underlying30 (by kernel_rfl) (by kernel_rfl) hv h
  obtain ⟨sl, n, cl, g, rfl, hn, _, _, hl, hg⟩ := blks_arg h0
  obtain ⟨sc, m, cc, z, rfl, hm, _, _, hc, hz⟩ := ints_arg' h1
  obtain ⟨en, rfl, he⟩ := cell_i64' Try.underlying3 h2
  exact ⟨sl, n, cl, sc, m, cc, en, g, z, rfl, hn, hm, hl, hc, hg, hz, he⟩

def shB (n m : Nat) : Bool := decide (n ≤ 40) && decide (m ≤ 40)
theorem law44_short (sl sc : Option Addr) (n m cl cc : Nat) (en : Int) (w : World) (hn : n ≤ 9223372036854775807) (hm : m ≤ 9223372036854775807) :
    Calls Try.prog 18 #[.agg #[.slice sl n cl, .slice sc m cc, .int .i64 en]] w fun e w' => e = .returned (.bool (shB n m)) ∧ Below w.heap.size w w' := by
  by_cases h : n ≤ 40
  · have b1 : decide ((n : Int) ≤ 40) = true := decide_eq_true (by omega)
    have HR : Hid (shB n m = decide ((m : Int) ≤ 40)) := Lib.hid (by unfold shB; rw [decide_eq_true h, Bool.true_and, Bool.eq_iff_iff]; simp; omega)
    clear h
    go_enter Try.func18, Try.ntmps18
    go_wp2
    go_ret
    exact ⟨ret_bool HR.out.symm, by (repeat' (first | with_reducible exact Below.refl _ _ | with_reducible refine Below.drew ?_ | with_reducible refine below_drewN ?_ _ | with_reducible refine Below.alloc ?_ ?_ _ | with_reducible refine Below.setCell ?_ ?_ _ | with_reducible refine Below.trans ?_ (Below.mono (by with_reducible assumption) ?_) | (simp; done) | (simp; omega) | omega))⟩
  · have b1 : decide ((n : Int) ≤ 40) = false := decide_eq_false (by omega)
    have HR : Hid (shB n m = false) := Lib.hid (by unfold shB; rw [decide_eq_false h]; rfl)
    clear h
    go_enter Try.func18, Try.ntmps18
    go_wp2
    go_ret
    exact ⟨ret_bool HR.out.symm, by (repeat' (first | with_reducible exact Below.refl _ _ | with_reducible refine Below.drew ?_ | with_reducible refine below_drewN ?_ _ | with_reducible refine Below.alloc ?_ ?_ _ | with_reducible refine Below.setCell ?_ ?_ _ | with_reducible refine Below.trans ?_ (Below.mono (by with_reducible assumption) ?_) | (simp; done) | (simp; omega) | omega))⟩
theorem live_q {w : World} {b : Nat} {x y z : Value} (h : Live w b #[x, y, z]) : w.cell? ⟨b, 0, none⟩ = some x ∧ w.cell? ⟨b, 1, none⟩ = some y ∧ w.cell? ⟨b, 2, none⟩ = some z := ⟨h.2.1 0, h.2.1 1, h.2.1 2⟩
end Go.Proofs.Ytleohgnnbpicjaa
