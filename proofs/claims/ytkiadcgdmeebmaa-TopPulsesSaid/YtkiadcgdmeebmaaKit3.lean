/- More small lemmas: a live block of four cells, cell by cell -/
import Derived.OwnWalk
import Derived.Laws.AppendOwn
import Derived.Test.YtkiadcgdmeebmaaKit2
namespace Go.Proofs.Ytkiadcgdmeebmaa
open Go.RowKit Go.WideShapes Go.ChangeShapes

theorem live_four {w : World} {b : Nat} {x y z u : Value} (h : Live w b #[x, y, z, u]) : w.cell? ⟨b, 0, none⟩ = some x ∧ w.cell? ⟨b, 1, none⟩ = some y ∧ w.cell? ⟨b, 2, none⟩ = some z ∧ w.cell? ⟨b, 3, none⟩ = some u :=
  ⟨h.2.1 0, h.2.1 1, h.2.1 2, h.2.1 3⟩

/-- A live block that an append's row is not stays as it is. -/
theorem live_grown {w w1 : World} {b : Nat} {c : Array Value} {row : Option Nat} (h : Live w b c) (hg : w.grownBy w1 row) (hr : some b ≠ row) : Live w1 b c :=
  ⟨Nat.lt_of_lt_of_le h.1 hg.size, fun o => (World.cell?_of_block (hg.block b h.1 hr)).trans (h.2.1 o), fun o => (World.frozen?_of_block (hg.block b h.1 hr)).trans (h.2.2 o)⟩

theorem ints_argc {H : Type} {enc : TypeId × Value → H} {P : Program} {w : World} {base : Nat} {t e : TypeId} {v : Value} {d : DataW H} {p : List MemPlace}
    (ht : P.underlying t = some (.slice e)) (he : P.underlying e = some (.int .i64)) (hc : P.cellsOf e = 1) (hv : Value.okWide P w .any base t v) (h : DataW.Trod enc P w 0 (fun _ => true) true t v d p) :
    ∃ a len cap, v = .slice a len cap ∧ len ≤ 9223372036854775807 ∧ len ≤ cap ∧ cap ≤ 9223372036854775807 ∧ IntsB w a len := by
  obtain ⟨a, len, cap, rfl, h1, h2⟩ := ints_arg ht he hc hv h
  refine ⟨a, len, cap, rfl, h1, ?_, ?_, h2⟩
  all_goals
    obtain ⟨fuel, hf⟩ := h
    rcases open_ints ht he hc hf with ⟨hcs, hx⟩ | ⟨a', len', cap', zs, hcs, _, hl, hm, _⟩
    · simp [Value.cells] at hcs
      omega
    · simp [Value.cells] at hcs
      unfold maxLen at hm
      omega
theorem live_first4 {w : World} {b : Nat} {c : Array Value} {x y z u : Value} (h : Live w b c) (e0 : c[0]? = some x) (e1 : c[1]? = some y) (e2 : c[2]? = some z) (e3 : c[3]? = some u) :
    w.cell? ⟨b, 0, none⟩ = some x ∧ w.cell? ⟨b, 1, none⟩ = some y ∧ w.cell? ⟨b, 2, none⟩ = some z ∧ w.cell? ⟨b, 3, none⟩ = some u :=
  ⟨(h.2.1 0).trans e0, (h.2.1 1).trans e1, (h.2.1 2).trans e2, (h.2.1 3).trans e3⟩
theorem run_max2' {P : Program} (ts : Array TypeId) (t : TypeId) (x y : Int) (w : World) : (Builtin.max_ ts t #[.int .i64 x, .int .i64 y]).run P w = .ok (.int .i64 (max x y)) w := by
  rw [run_max_int2]; congr 2; split <;> omega
theorem run_min2' {P : Program} (ts : Array TypeId) (t : TypeId) (x y : Int) (w : World) : (Builtin.min_ ts t #[.int .i64 x, .int .i64 y]).run P w = .ok (.int .i64 (min x y)) w := by
  rw [run_min_int2]; congr 2; split <;> omega
end Go.Proofs.Ytkiadcgdmeebmaa
