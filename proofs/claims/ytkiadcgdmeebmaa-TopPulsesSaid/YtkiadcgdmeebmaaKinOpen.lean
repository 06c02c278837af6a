/- Arguments that are a machine, or a struct that begins with one, opened by their cells -/
import Derived.Test.YtkiadcgdmeebmaaBase
import Derived.Test.YtkiadcgdmeebmaaKit6
import Derived.Test.YtkiadcgdmeebmaaKinMach
namespace Go.Proofs.Ytkiadcgdmeebmaa
open Go.RowKit Go.WideShapes Go.ChangeShapes
set_option linter.unusedVariables false

theorem mach_getf (f : Nat → Int) (x : Bool) (t : Int) : ∀ i, i < 28 → (mach f x t)[i]? = some (.int .i64 (f i))
  | 0, _ => rfl
  | 1, _ => rfl
  | 2, _ => rfl
  | 3, _ => rfl
  | 4, _ => rfl
  | 5, _ => rfl
  | 6, _ => rfl
  | 7, _ => rfl
  | 8, _ => rfl
  | 9, _ => rfl
  | 10, _ => rfl
  | 11, _ => rfl
  | 12, _ => rfl
  | 13, _ => rfl
  | 14, _ => rfl
  | 15, _ => rfl
  | 16, _ => rfl
  | 17, _ => rfl
  | 18, _ => rfl
  | 19, _ => rfl
  | 20, _ => rfl
  | 21, _ => rfl
  | 22, _ => rfl
  | 23, _ => rfl
  | 24, _ => rfl
  | 25, _ => rfl
  | 26, _ => rfl
  | 27, _ => rfl
  | n + 28, h => absurd h (by omega)
theorem mach_getn (f : Nat → Int) (x : Bool) (t : Int) (i : Nat) (h : 30 ≤ i) : (mach f x t)[i]? = none := Array.getElem?_eq_none (by rw [mach_size]; exact h)

section
variable {w : World} {r : Reach} {base : Nat}
theorem mach_cells {cs : Array Value} {ts : List TypeId} (hts : ∀ i, i < 30 → ts[i]? = some (if i = 28 then 4 else 3)) (hs : 30 ≤ cs.size)
    (hc : ∀ (i : Nat) (v : Value), cs[i]? = some v → ∃ u, ts[i]? = some u ∧ Cell.okWide Try.prog w r base u v) :
    ∃ (f : Nat → Int) (x : Bool) (t : Int), (∀ i, -9223372036854775808 ≤ f i ∧ f i ≤ 9223372036854775807) ∧ (-9223372036854775808 ≤ t ∧ t ≤ 9223372036854775807) ∧ ∀ i, i < 30 → cs[i]? = (mach f x t)[i]? := by
  have one : ∀ i, i < 30 → i ≠ 28 → ∃ a : Int, cs[i]? = some (.int .i64 a) ∧ -9223372036854775808 ≤ a ∧ a ≤ 9223372036854775807 := fun i hi h28 => by
    have hx : cs[i]? = some (cs[i]'(by omega)) := Array.getElem?_eq_getElem (by omega)
    obtain ⟨u, hu, hk⟩ := hc i _ hx
    rw [hts i hi, if_neg h28] at hu
    cases hu
    obtain ⟨a, ha, hb⟩ := cell_i64 Try.underlying3 hk
    exact ⟨a, by rw [hx, ha], hb⟩
  have hall : ∀ i, ∃ a : Int, (i < 28 → cs[i]? = some (.int .i64 a)) ∧ -9223372036854775808 ≤ a ∧ a ≤ 9223372036854775807 := fun i => by
    by_cases hi : i < 28
    · obtain ⟨a, h1, h2⟩ := one i (by omega) (by omega)
      exact ⟨a, fun _ => h1, h2⟩
    · exact ⟨0, fun h => absurd h hi, by omega, by omega⟩
  obtain ⟨F, hF⟩ := Classical.axiomOfChoice hall
  obtain ⟨t, ht, htb⟩ := one 29 (by omega) (by omega)
  have hx : cs[28]? = some (cs[28]'(by omega)) := Array.getElem?_eq_getElem (by omega)
  obtain ⟨u, hu, hk⟩ := hc 28 _ hx
  rw [hts 28 (by omega), if_pos rfl] at hu
  cases hu
  obtain ⟨x, hx2⟩ := cell_bool Try.underlying4 hk
  rw [hx2] at hx
  refine ⟨F, x, t, fun i => (hF i).2, htb, fun i hi => ?_⟩
  by_cases h1 : i < 28
  · exact ((hF i).1 h1).trans (mach_getf F x t i h1).symm
  · rcases (by omega : i = 28 ∨ i = 29) with rfl | rfl
    · rw [hx]; rfl
    · rw [ht]; rfl
theorem mach_open {v : Value} (h : Value.okWide Try.prog w r base 26 v) :
    ∃ (f : Nat → Int) (x : Bool) (t : Int), (∀ i, -9223372036854775808 ≤ f i ∧ f i ≤ 9223372036854775807) ∧ (-9223372036854775808 ≤ t ∧ t ≤ 9223372036854775807) ∧ v = .agg (mach f x t) := by
  obtain ⟨cs, rfl, hn, hc⟩ := flat_open (t := 26) (ts := List.replicate 28 3 ++ [4, 3]) (n := 30) (by kernel_rfl) (by kernel_rfl) (by kernel_rfl) rfl h
  obtain ⟨f, x, t, bf, bt, he⟩ := mach_cells (ts := List.replicate 28 3 ++ [4, 3]) (fun i hi => by
    rcases (by omega : i < 28 ∨ i = 28 ∨ i = 29) with h1 | rfl | rfl
    · rw [List.getElem?_append_left (by simpa using h1), List.getElem?_replicate, if_pos h1, if_neg (by omega)]
    · rfl
    · rfl) (by omega) hc
  refine ⟨f, x, t, bf, bt, ?_⟩
  congr 1
  apply Array.ext_getElem?
  intro i
  by_cases hi : i < 30
  · exact he i hi
  · rw [Array.getElem?_eq_none (by omega), mach_getn _ _ _ _ (by omega)]
end
end Go.Proofs.Ytkiadcgdmeebmaa
