/- Arguments that are a machine, or a struct that begins with one, opened by their cells -/
import Derived.Test.YthodfmmmddfkmaaBase
import Derived.Test.YthodfmmmddfkmaaKit6
import Derived.Test.YthodfmmmddfkmaaKinMach
namespace Go.Proofs.Ythodfmmmddfkmaa
open Go.RowKit Go.WideShapes Go.ChangeShapes
set_option linter.unusedVariables false

theorem mach_getf (f : Nat → Int) (x : Bool) (t : Int) : ∀ i, i < 28 → (mach f x t)[i]? = some (.int .i64 (f i))
  | 0, _ => rfl
  | 1, _ => rfl
  | 2, _ => rfl
  | 3, _ => rfl
  | 4, _ => rfl
  | 5, _ => rfl
  | 6, _ => rfl
  | 7, _ => rfl
  | 8, _ => rfl
  | 9, _ => rfl
  | 10, _ => rfl
  | 11, _ => rfl
  | 12, _ => rfl
  | 13, _ => rfl
  | 14, _ => rfl
  | 15, _ => rfl
  | 16, _ => rfl
  | 17, _ => rfl
  | 18, _ => rfl
  | 19, _ => rfl
  | 20, _ => rfl
  | 21, _ => rfl
  | 22, _ => rfl
  | 23, _ => rfl
  | 24, _ => rfl
  | 25, _ => rfl
  | 26, _ => rfl
  | 27, _ => rfl
  | n + 28, h => absurd h (by omega)
theorem mach_getn (f : Nat → Int) (x : Bool) (t : Int) (i : Nat) (h : 30 ≤ i) : (mach f x t)[i]? = none := Array.getElem?_eq_none (by rw [mach_size]; exact h)

section
variable {w : World} {r : Reach} {base : Nat}
theorem mach_cells {cs : Array Value} {ts : List TypeId} (hts : ∀ i, i < 30 → ts[i]? = some (if i = 28 then 4 else 3)) (hs : 30 ≤ cs.size)
    (hc : ∀ (i : Nat) (v : Value), cs[i]? = some v → ∃ u, ts[i]? = some u ∧ Cell.okWide Try.prog w r base u v) :
    ∃ (f : Nat → Int) (x : Bool) (t : Int), (∀ i, -9223372036854775808 ≤ f i ∧ f i ≤ 9223372036854775807) ∧ (-9223372036854775808 ≤ t ∧ t ≤ 9223372036854775807) ∧ ∀ i, i < 30 → cs[i]? = (mach f x t)[i]? := by
  have one : ∀ i, i < 30 → i ≠ 28 → ∃ a : Int, cs[i]? = some (.int .i64 a) ∧ -9223372036854775808 ≤ a ∧ a ≤ 9223372036854775807 := fun i hi h28 => by
    have hx : cs[i]? = some (cs[i]'(by omega)) := Array.getElem?_eq_getElem (by omega)
    obtain ⟨u, hu, hk⟩ := hc i _ hx
    rw [hts i hi, if_neg h28] at hu
    cases hu
    obtain ⟨a, ha, hb⟩ := cell_i64 Try.underlying3 hk
    exact ⟨a, by rw [hx, ha], hb⟩
  have hall : ∀ i, ∃ a : Int, (i < 28 → cs[i]? = some (.int .i64 a)) ∧ -9223372036854775808 ≤ a ∧ a ≤ 9223372036854775807 := fun i => by
    by_cases hi : i < 28
    · obtain ⟨a, h1, h2⟩ := one i (by omega) (by omega)
      exact ⟨a, fun _ => h1, h2⟩
    · exact ⟨0, fun h => absurd h hi, by omega, by omega⟩
  obtain ⟨F, hF⟩ := Classical.axiomOfChoice hall
  obtain ⟨t, ht, htb⟩ := one 29 (by omega) (by omega)
  have hx : cs[28]? = some (cs[28]'(by omega)) := Array.getElem?_eq_getElem (by omega)
  obtain ⟨u, hu, hk⟩ := hc 28 _ hx
  rw [hts 28 (by omega), if_pos rfl] at hu
  cases hu
  obtain ⟨x, hx2⟩ := cell_bool Try.underlying4 hk
  rw [hx2] at hx
  refine ⟨F, x, t, fun i => (hF i).2, htb, fun i hi => ?_⟩
  by_cases h1 : i < 28
  · exact ((hF i).1 h1).trans (mach_getf F x t i h1).symm
  · rcases (by omega : i = 28 ∨ i = 29) with rfl | rfl
    · rw [hx]; rfl
    · rw [ht]; rfl
theorem mach_open {v : Value} (h : Value.okWide Try.prog w r base 26 v) :
    ∃ (f : Nat → Int) (x : Bool) (t : Int), (∀ i, -9223372036854775808 ≤ f i ∧ f i ≤ 9223372036854775807) ∧ (-9223372036854775808 ≤ t ∧ t ≤ 9223372036854775807) ∧ v = .agg (mach f x t) := by
  obtain ⟨cs, rfl, hn, hc⟩ := flat_open (t := 26) (ts := List.replicate 28 3 ++ [4, 3]) (n := 30) (by kernel_rfl) (by kernel_rfl) (by kernel_rfl) rfl h
  obtain ⟨f, x, t, bf, bt, he⟩ := mach_cells (ts := List.replicate 28 3 ++ [4, 3]) (fun i hi => by
    rcases (by omega : i < 28 ∨ i = 28 ∨ i = 29) with h1 | rfl | rfl
    · rw [List.getElem?_append_left (by simpa using h1), List.getElem?_replicate, if_pos h1, if_neg (by omega)]
    · rfl
    · rfl) (by omega) hc
  refine ⟨f, x, t, bf, bt, ?_⟩
  congr 1
  apply Array.ext_getElem?
  intro i
  by_cases hi : i < 30
  · exact he i hi
  · rw [Array.getElem?_eq_none (by omega), mach_getn _ _ _ _ (by omega)]
def placeA (f : Nat → Int) (x : Bool) (t : Int) (g : Nat → Int) : Array Value := #[.int .i64 (f 0), .int .i64 (f 1), .int .i64 (f 2), .int .i64 (f 3), .int .i64 (f 4), .int .i64 (f 5), .int .i64 (f 6), .int .i64 (f 7), .int .i64 (f 8), .int .i64 (f 9), .int .i64 (f 10), .int .i64 (f 11), .int .i64 (f 12), .int .i64 (f 13), .int .i64 (f 14), .int .i64 (f 15), .int .i64 (f 16), .int .i64 (f 17), .int .i64 (f 18), .int .i64 (f 19), .int .i64 (f 20), .int .i64 (f 21), .int .i64 (f 22), .int .i64 (f 23), .int .i64 (f 24), .int .i64 (f 25), .int .i64 (f 26), .int .i64 (f 27), .bool x, .int .i64 t, .int .i64 (g 0), .int .i64 (g 1), .int .i64 (g 2), .int .i64 (g 3), .int .i64 (g 4), .int .i64 (g 5), .int .i64 (g 6), .int .i64 (g 7)]
theorem place_app (f : Nat → Int) (x : Bool) (t : Int) (g : Nat → Int) : placeA f x t g = ((mach f x t).toList ++ ([.int .i64 (g 0), .int .i64 (g 1), .int .i64 (g 2), .int .i64 (g 3), .int .i64 (g 4), .int .i64 (g 5), .int .i64 (g 6), .int .i64 (g 7)] : List Value)).toArray := rfl
theorem place_low (f : Nat → Int) (x : Bool) (t : Int) (g : Nat → Int) (i : Nat) (h : i < 30) : (placeA f x t g)[i]? = (mach f x t)[i]? := by
  rw [place_app, List.getElem?_toArray, List.getElem?_append_left (by rw [Array.length_toList, mach_size]; exact h), Array.getElem?_toList]
theorem place_high (f : Nat → Int) (x : Bool) (t : Int) (g : Nat → Int) : ∀ i, i < 8 → (placeA f x t g)[30 + i]? = some (.int .i64 (g i))
  | 0, _ => rfl
  | 1, _ => rfl
  | 2, _ => rfl
  | 3, _ => rfl
  | 4, _ => rfl
  | 5, _ => rfl
  | 6, _ => rfl
  | 7, _ => rfl
  | n + 8, h => absurd h (by omega)
theorem place_range (f : Nat → Int) (x : Bool) (t : Int) (g : Nat → Int) {w : World} {b : Nat} (L : Live w b (placeA f x t g)) : w.rangeAt b 0 (mach f x t).toList := fun j v hv => by
  have hj : j < 30 := by have := (List.getElem?_eq_some_iff.1 hv).1; rw [Array.length_toList, mach_size] at this; exact this
  rw [L.2.1 (0 + j), Nat.zero_add, place_low _ _ _ _ j hj, ← hv, Array.getElem?_toList]
theorem place_open {v : Value} (h : Value.okWide Try.prog w r base 38 v) :
    ∃ (f : Nat → Int) (x : Bool) (t : Int) (g : Nat → Int), (∀ i, -9223372036854775808 ≤ f i ∧ f i ≤ 9223372036854775807) ∧ (-9223372036854775808 ≤ t ∧ t ≤ 9223372036854775807) ∧ (∀ i, -9223372036854775808 ≤ g i ∧ g i ≤ 9223372036854775807) ∧ v = .agg (placeA f x t g) := by
  obtain ⟨cs, rfl, hn, hc⟩ := flat_open (t := 38) (ts := List.replicate 28 3 ++ [4, 3] ++ List.replicate 8 3) (n := 38) (by kernel_rfl) (by kernel_rfl) (by kernel_rfl) rfl h
  have hlow : ∀ i, i < 30 → (List.replicate 28 3 ++ [4, 3] ++ List.replicate 8 3)[i]? = some (if i = 28 then 4 else 3) := fun i hi => by
    rw [List.getElem?_append_left (by simpa using hi)]
    rcases (by omega : i < 28 ∨ i = 28 ∨ i = 29) with h1 | rfl | rfl
    · rw [List.getElem?_append_left (by simpa using h1), List.getElem?_replicate, if_pos h1, if_neg (by omega)]
    · rfl
    · rfl
  obtain ⟨f, x, t, bf, bt, he⟩ := mach_cells hlow (by omega) hc
  have hall : ∀ i, ∃ a : Int, (i < 8 → cs[30 + i]? = some (.int .i64 a)) ∧ -9223372036854775808 ≤ a ∧ a ≤ 9223372036854775807 := fun i => by
    by_cases hi : i < 8
    · have hx : cs[30 + i]? = some (cs[30 + i]'(by omega)) := Array.getElem?_eq_getElem (by omega)
      obtain ⟨u, hu, hk⟩ := hc (30 + i) _ hx
      rw [List.getElem?_append_right (by simp), List.getElem?_replicate, if_pos (by simp; omega)] at hu
      cases hu
      obtain ⟨a, ha, hb⟩ := cell_i64 Try.underlying3 hk
      exact ⟨a, fun _ => by rw [hx, ha], hb⟩
    · exact ⟨0, fun h => absurd h hi, by omega, by omega⟩
  obtain ⟨G, hG⟩ := Classical.axiomOfChoice hall
  refine ⟨f, x, t, G, bf, bt, fun i => (hG i).2, ?_⟩
  congr 1
  apply Array.ext_getElem?
  intro i
  by_cases hi : i < 30
  · rw [he i hi, place_low _ _ _ _ i hi]
  · by_cases h2 : i < 38
    · obtain ⟨j, rfl⟩ : ∃ j, i = 30 + j := ⟨i - 30, by omega⟩
      exact ((hG j).1 (by omega)).trans (place_high f x t G j (by omega)).symm
    · rw [Array.getElem?_eq_none (by omega), Array.getElem?_eq_none (show 38 ≤ i by omega)]
end
end Go.Proofs.Ythodfmmmddfkmaa
