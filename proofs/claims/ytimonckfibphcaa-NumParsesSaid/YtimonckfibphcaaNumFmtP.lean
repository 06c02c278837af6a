/- Decimal digits, as plain arithmetic: the text of a number -/
import Derived.WalkKit
import Derived.Lib.Hide
namespace Go.Proofs.Ytimonckfibphcaa
set_option linter.unusedVariables false

/-- A digit's byte. -/
def dgB (d : Nat) : UInt8 := UInt8.ofNat (48 + d)
theorem dgB_nat (d : Nat) (h : d < 10) : (dgB d).toNat = 48 + d := by unfold dgB; simp; omega
/-- The digits of a number, the last one first. -/
def leD (u : Nat) : List UInt8 := if h : u < 10 then [dgB u] else dgB (u % 10) :: leD (u / 10)
termination_by u
decreasing_by omega
theorem leD_rec (u : Nat) : leD u = dgB (u % 10) :: (if u / 10 = 0 then [] else leD (u / 10)) := by
  rw [leD]
  split
  · rename_i h
    rw [if_pos (by omega), Nat.mod_eq_of_lt h]
  · rename_i h
    rw [if_neg (by omega)]
theorem leD_len : ∀ (k u : Nat), u < 10 ^ (k + 1) → (leD u).length ≤ k + 1
  | 0, u, h => by rw [leD_rec, if_pos (by omega)]; simp
  | k + 1, u, h => by
    rw [leD_rec]
    split
    · simp
    · have := leD_len k (u / 10) (by rw [Nat.pow_succ] at h; omega)
      simp only [List.length_cons]
      omega
theorem leD_len20 (u : Nat) (h : u < 18446744073709551616) : (leD u).length ≤ 20 := leD_len 19 u (Nat.lt_of_lt_of_le h (by decide))
/-- The text of a number. -/
def fmtL (n : Int) : List UInt8 := (if n < 0 then [45] else []) ++ (leD n.natAbs).reverse
def fmtS (n : Int) : ByteArray := ⟨(fmtL n).toArray⟩
/-- A list with its first and last i elements exchanged. -/
def rvL (M : List UInt8) : Nat → List UInt8
  | 0 => M
  | i + 1 => ((rvL M i).set i (M.getD (M.length - 1 - i) 0)).set (M.length - 1 - i) (M.getD i 0)
theorem rvL_len (M : List UInt8) : ∀ i, (rvL M i).length = M.length
  | 0 => rfl
  | i + 1 => by simp [rvL, rvL_len M i]
theorem rvL_get (M : List UInt8) : ∀ (i : Nat), 2 * i ≤ M.length → ∀ j, j < M.length → (rvL M i)[j]? = if j < i ∨ M.length - i ≤ j then M[M.length - 1 - j]? else M[j]?
  | 0, _, j, hj => by
    rw [if_neg (by omega)]; rfl
  | i + 1, h, j, hj => by
    have ih := rvL_get M i (by omega) j hj
    unfold rvL
    rw [List.getElem?_set, List.getElem?_set]
    by_cases h1 : M.length - 1 - i = j
    · rw [if_pos h1, if_pos (by simp [rvL_len]; omega), if_pos (by omega), List.getD_eq_getElem?_getD, show M.length - 1 - j = i from by omega, List.getElem?_eq_getElem (by omega)]
      rfl
    · rw [if_neg h1]
      by_cases h2 : i = j
      · rw [if_pos h2, if_pos (by simp [rvL_len]; omega), if_pos (by omega), List.getD_eq_getElem?_getD, h2, List.getElem?_eq_getElem (by omega)]
        rfl
      · rw [if_neg h2, ih]
        by_cases h3 : j < i ∨ M.length - i ≤ j
        · rw [if_pos h3, if_pos (by omega)]
        · rw [if_neg h3, if_neg (by omega)]
theorem rvL_done (M : List UInt8) (i : Nat) (h : 2 * i ≤ M.length) (he : M.length ≤ 2 * i + 1) : rvL M i = M.reverse := by
  apply List.ext_getElem?
  intro j
  by_cases hj : j < M.length
  · rw [rvL_get M i h j hj, List.getElem?_reverse hj]
    split
    · rfl
    · rw [show M.length - 1 - j = j from by omega]
  · rw [List.getElem?_eq_none (by rw [rvL_len]; omega), List.getElem?_eq_none (by simp; omega)]
theorem rvL_mid (M : List UInt8) (i j : Nat) (h : 2 * i ≤ M.length) (hj : j < M.length) (h1 : i ≤ j) (h2 : j < M.length - i) : (rvL M i)[j]? = some (M.getD j 0) := by
  rw [rvL_get M i h j hj, if_neg (by omega), List.getD_eq_getElem?_getD, List.getElem?_eq_getElem hj]; rfl
end Go.Proofs.Ytimonckfibphcaa
