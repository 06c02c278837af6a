/- A machine as a value: its cells, loads of it, and what Valid returns at it -/
import Derived.Deep.MidRow
import Derived.Deep.QuietTactic
import Derived.BigQuiet
import Derived.Test.YtkiadcgdmeebmaaKinValid
import Derived.Test.YtkiadcgdmeebmaaKinValidR
import Derived.Test.YtkiadcgdmeebmaaNumRound
namespace Go.Proofs.Ytkiadcgdmeebmaa
open Go.RowKit
set_option linter.unusedVariables false

def mach (f : Nat → Int) (x : Bool) (t : Int) : Array Value := #[.int .i64 (f 0), .int .i64 (f 1), .int .i64 (f 2), .int .i64 (f 3), .int .i64 (f 4), .int .i64 (f 5), .int .i64 (f 6), .int .i64 (f 7), .int .i64 (f 8), .int .i64 (f 9), .int .i64 (f 10), .int .i64 (f 11), .int .i64 (f 12), .int .i64 (f 13), .int .i64 (f 14), .int .i64 (f 15), .int .i64 (f 16), .int .i64 (f 17), .int .i64 (f 18), .int .i64 (f 19), .int .i64 (f 20), .int .i64 (f 21), .int .i64 (f 22), .int .i64 (f 23), .int .i64 (f 24), .int .i64 (f 25), .int .i64 (f 26), .int .i64 (f 27), .bool x, .int .i64 t]
theorem mach_0 (f : Nat → Int) (x : Bool) (t : Int) : (mach f x t)[0]? = some (.int .i64 (f 0)) := rfl
theorem mach_1 (f : Nat → Int) (x : Bool) (t : Int) : (mach f x t)[1]? = some (.int .i64 (f 1)) := rfl
theorem mach_2 (f : Nat → Int) (x : Bool) (t : Int) : (mach f x t)[2]? = some (.int .i64 (f 2)) := rfl
theorem mach_3 (f : Nat → Int) (x : Bool) (t : Int) : (mach f x t)[3]? = some (.int .i64 (f 3)) := rfl
theorem mach_4 (f : Nat → Int) (x : Bool) (t : Int) : (mach f x t)[4]? = some (.int .i64 (f 4)) := rfl
theorem mach_5 (f : Nat → Int) (x : Bool) (t : Int) : (mach f x t)[5]? = some (.int .i64 (f 5)) := rfl
theorem mach_6 (f : Nat → Int) (x : Bool) (t : Int) : (mach f x t)[6]? = some (.int .i64 (f 6)) := rfl
theorem mach_7 (f : Nat → Int) (x : Bool) (t : Int) : (mach f x t)[7]? = some (.int .i64 (f 7)) := rfl
theorem mach_8 (f : Nat → Int) (x : Bool) (t : Int) : (mach f x t)[8]? = some (.int .i64 (f 8)) := rfl
theorem mach_9 (f : Nat → Int) (x : Bool) (t : Int) : (mach f x t)[9]? = some (.int .i64 (f 9)) := rfl
theorem mach_10 (f : Nat → Int) (x : Bool) (t : Int) : (mach f x t)[10]? = some (.int .i64 (f 10)) := rfl
theorem mach_11 (f : Nat → Int) (x : Bool) (t : Int) : (mach f x t)[11]? = some (.int .i64 (f 11)) := rfl
theorem mach_12 (f : Nat → Int) (x : Bool) (t : Int) : (mach f x t)[12]? = some (.int .i64 (f 12)) := rfl
theorem mach_13 (f : Nat → Int) (x : Bool) (t : Int) : (mach f x t)[13]? = some (.int .i64 (f 13)) := rfl
theorem mach_14 (f : Nat → Int) (x : Bool) (t : Int) : (mach f x t)[14]? = some (.int .i64 (f 14)) := rfl
theorem mach_15 (f : Nat → Int) (x : Bool) (t : Int) : (mach f x t)[15]? = some (.int .i64 (f 15)) := rfl
theorem mach_16 (f : Nat → Int) (x : Bool) (t : Int) : (mach f x t)[16]? = some (.int .i64 (f 16)) := rfl
theorem mach_17 (f : Nat → Int) (x : Bool) (t : Int) : (mach f x t)[17]? = some (.int .i64 (f 17)) := rfl
theorem mach_18 (f : Nat → Int) (x : Bool) (t : Int) : (mach f x t)[18]? = some (.int .i64 (f 18)) := rfl
theorem mach_19 (f : Nat → Int) (x : Bool) (t : Int) : (mach f x t)[19]? = some (.int .i64 (f 19)) := rfl
theorem mach_20 (f : Nat → Int) (x : Bool) (t : Int) : (mach f x t)[20]? = some (.int .i64 (f 20)) := rfl
theorem mach_21 (f : Nat → Int) (x : Bool) (t : Int) : (mach f x t)[21]? = some (.int .i64 (f 21)) := rfl
theorem mach_22 (f : Nat → Int) (x : Bool) (t : Int) : (mach f x t)[22]? = some (.int .i64 (f 22)) := rfl
theorem mach_23 (f : Nat → Int) (x : Bool) (t : Int) : (mach f x t)[23]? = some (.int .i64 (f 23)) := rfl
theorem mach_24 (f : Nat → Int) (x : Bool) (t : Int) : (mach f x t)[24]? = some (.int .i64 (f 24)) := rfl
theorem mach_25 (f : Nat → Int) (x : Bool) (t : Int) : (mach f x t)[25]? = some (.int .i64 (f 25)) := rfl
theorem mach_26 (f : Nat → Int) (x : Bool) (t : Int) : (mach f x t)[26]? = some (.int .i64 (f 26)) := rfl
theorem mach_27 (f : Nat → Int) (x : Bool) (t : Int) : (mach f x t)[27]? = some (.int .i64 (f 27)) := rfl
theorem mach_28 (f : Nat → Int) (x : Bool) (t : Int) : (mach f x t)[28]? = some (.bool x) := rfl
theorem mach_29 (f : Nat → Int) (x : Bool) (t : Int) : (mach f x t)[29]? = some (.int .i64 t) := rfl
theorem mach_size (f : Nat → Int) (x : Bool) (t : Int) : (mach f x t).size = 30 := rfl
theorem mach_rangeM (f : Nat → Int) (x : Bool) (t : Int) {w : World} {b : Nat} (L : Live w b (mach f x t)) : w.rangeAt b 0 (mach f x t).toList := fun j v hv => by
  rw [L.2.1 (0 + j), Nat.zero_add, ← hv, Array.getElem?_toList]
theorem mach_one (f : Nat → Int) (x : Bool) (t : Int) : (mach f x t).all (·.oneCell') = true := by simp [mach, Value.oneCell']
theorem mach_back (f : Nat → Int) (x : Bool) (t : Int) : (mach f x t).toList.toArray = mach f x t := rfl
theorem kin_valid_m (f : Nat → Int) (x : Bool) (t : Int) (w : World) :
    Calls Try.prog 45 #[.agg (mach f x t)] w fun e w' => e = .returned (.bool (kinValid f t)) ∧ Below w.heap.size w w' := kin_valid f x t w
/-- What is known of the axes of a valid machine. -/
theorem kin_axes (f : Nat → Int) (t : Int) (h : kinValid f t = true) (k : Nat) (hk : k < 4) : axAt f k = true := by
  unfold kinValid at h
  simp only [Bool.and_eq_true] at h
  rcases (by omega : k = 0 ∨ k = 1 ∨ k = 2 ∨ k = 3) with rfl | rfl | rfl | rfl
  · exact h.1
  · exact h.2.1
  · exact h.2.2.1
  · exact h.2.2.2.1

/-- A whole machine loaded: under this name the walk does not open the load cell by cell. -/
def loadM (v : Value) := Instr.loadAt 26 v
theorem loadM_in (v : Value) : Instr.loadAt 26 v = loadM v := rfl
theorem loadM_run {w : World} {b : Nat} {f : Nat → Int} {x : Bool} {t : Int} (h : w.rangeAt b 0 (mach f x t).toList) : (loadM (.pointer (some ⟨b, 0, none⟩))).run Try.prog w = .ok (.agg (mach f x t)) w :=
  run_loadAt_mid w b 0 26 (mach f x t).toList _ h Try.underlying26 rfl (by kernel_rfl)

def stOk (f : Nat → Int) (t k p : Int) : Bool := kinValid f t && decide (0 ≤ k ∧ k < 4 ∧ -1073741824 ≤ p ∧ p ≤ 1073741824)
def stV (f : Nat → Int) (t k p : Int) : Int := if stOk f t k p then rnd (p * f (7 * k.toNat)) (f (7 * k.toNat + 1)) else 0
def stE (f : Nat → Int) (t k p : Int) : Int := if stOk f t k p then 0 else 1
def unOk (f : Nat → Int) (t k p : Int) : Bool := kinValid f t && decide (0 ≤ k ∧ k < 4 ∧ -70368744177664 ≤ p ∧ p ≤ 70368744177664)
def unV (f : Nat → Int) (t k p : Int) : Int := if unOk f t k p then rnd (p * f (7 * k.toNat + 1)) (f (7 * k.toNat)) else 0
def unE (f : Nat → Int) (t k p : Int) : Int := if unOk f t k p then 0 else 1

theorem mul_bd (p n P N : Int) (h0 : -P ≤ p) (h1 : p ≤ P) (n0 : 0 ≤ n) (n1 : n ≤ N) (hP : 0 ≤ P) : -(P * N) ≤ p * n ∧ p * n ≤ P * N := by
  have a := Int.mul_le_mul_of_nonneg_right h1 n0
  have b := Int.mul_le_mul_of_nonneg_right h0 n0
  have c := Int.mul_le_mul_of_nonneg_left n1 hP
  rw [Int.neg_mul] at b
  omega
theorem mach_ax0 (f : Nat → Int) (x : Bool) (t : Int) {w : World} {b : Nat} (L : Live w b (mach f x t)) : w.cell? ⟨b, 0, none⟩ = some (.int .i64 (f 0)) ∧ w.cell? ⟨b, 1, none⟩ = some (.int .i64 (f 1)) ∧ w.cell? ⟨b, 2, none⟩ = some (.int .i64 (f 2)) ∧ w.cell? ⟨b, 3, none⟩ = some (.int .i64 (f 3)) ∧ w.cell? ⟨b, 4, none⟩ = some (.int .i64 (f 4)) ∧ w.cell? ⟨b, 5, none⟩ = some (.int .i64 (f 5)) ∧ w.cell? ⟨b, 6, none⟩ = some (.int .i64 (f 6)) :=
  ⟨L.2.1 0, L.2.1 1, L.2.1 2, L.2.1 3, L.2.1 4, L.2.1 5, L.2.1 6⟩
theorem mach_ax1 (f : Nat → Int) (x : Bool) (t : Int) {w : World} {b : Nat} (L : Live w b (mach f x t)) : w.cell? ⟨b, 7, none⟩ = some (.int .i64 (f 7)) ∧ w.cell? ⟨b, 8, none⟩ = some (.int .i64 (f 8)) ∧ w.cell? ⟨b, 9, none⟩ = some (.int .i64 (f 9)) ∧ w.cell? ⟨b, 10, none⟩ = some (.int .i64 (f 10)) ∧ w.cell? ⟨b, 11, none⟩ = some (.int .i64 (f 11)) ∧ w.cell? ⟨b, 12, none⟩ = some (.int .i64 (f 12)) ∧ w.cell? ⟨b, 13, none⟩ = some (.int .i64 (f 13)) :=
  ⟨L.2.1 7, L.2.1 8, L.2.1 9, L.2.1 10, L.2.1 11, L.2.1 12, L.2.1 13⟩
theorem mach_ax2 (f : Nat → Int) (x : Bool) (t : Int) {w : World} {b : Nat} (L : Live w b (mach f x t)) : w.cell? ⟨b, 14, none⟩ = some (.int .i64 (f 14)) ∧ w.cell? ⟨b, 15, none⟩ = some (.int .i64 (f 15)) ∧ w.cell? ⟨b, 16, none⟩ = some (.int .i64 (f 16)) ∧ w.cell? ⟨b, 17, none⟩ = some (.int .i64 (f 17)) ∧ w.cell? ⟨b, 18, none⟩ = some (.int .i64 (f 18)) ∧ w.cell? ⟨b, 19, none⟩ = some (.int .i64 (f 19)) ∧ w.cell? ⟨b, 20, none⟩ = some (.int .i64 (f 20)) :=
  ⟨L.2.1 14, L.2.1 15, L.2.1 16, L.2.1 17, L.2.1 18, L.2.1 19, L.2.1 20⟩
theorem mach_ax3 (f : Nat → Int) (x : Bool) (t : Int) {w : World} {b : Nat} (L : Live w b (mach f x t)) : w.cell? ⟨b, 21, none⟩ = some (.int .i64 (f 21)) ∧ w.cell? ⟨b, 22, none⟩ = some (.int .i64 (f 22)) ∧ w.cell? ⟨b, 23, none⟩ = some (.int .i64 (f 23)) ∧ w.cell? ⟨b, 24, none⟩ = some (.int .i64 (f 24)) ∧ w.cell? ⟨b, 25, none⟩ = some (.int .i64 (f 25)) ∧ w.cell? ⟨b, 26, none⟩ = some (.int .i64 (f 26)) ∧ w.cell? ⟨b, 27, none⟩ = some (.int .i64 (f 27)) :=
  ⟨L.2.1 21, L.2.1 22, L.2.1 23, L.2.1 24, L.2.1 25, L.2.1 26, L.2.1 27⟩
end Go.Proofs.Ytkiadcgdmeebmaa
