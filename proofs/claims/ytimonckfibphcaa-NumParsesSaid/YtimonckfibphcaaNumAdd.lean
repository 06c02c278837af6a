/- What Add, Sub and Mul return, in the program and in the reference: the exact number, or an error -/
import Derived.Test.YtimonckfibphcaaNumMulDiv
import Derived.Test.YtimonckfibphcaaNumMulDivR
namespace Go.Proofs.Ytimonckfibphcaa
open Go.RowKit
set_option linter.unusedVariables false

def inB64 (x : Int) : Bool := decide (-9223372036854775808 ≤ x ∧ x ≤ 9223372036854775807)
/-- The exact number, if it fits. -/
def exV (x : Int) : Int := if inB64 x then x else 0
def exE (x : Int) : Int := if inB64 x then 0 else 3
theorem ex_in (x : Int) (h : -9223372036854775808 ≤ x ∧ x ≤ 9223372036854775807) : exV x = x ∧ exE x = 0 := by
  have h1 : inB64 x = true := decide_eq_true h
  unfold exV exE; rw [h1]; exact ⟨rfl, rfl⟩
theorem ex_out (x : Int) (h : ¬ (-9223372036854775808 ≤ x ∧ x ≤ 9223372036854775807)) : exV x = 0 ∧ exE x = 3 := by
  have h1 : inB64 x = false := decide_eq_false h
  unfold exV exE; rw [h1]; exact ⟨rfl, rfl⟩
theorem md_one (a b : Int) : mdV a b 1 = exV (a * b) ∧ mdE a b 1 = exE (a * b) := by
  have h : mdF a b 1 = a * b := by unfold mdF; exact Int.fdiv_one _
  by_cases hb : -9223372036854775808 ≤ a * b ∧ a * b ≤ 9223372036854775807
  · have h1 := md_fine a b 1 (by decide) (by rw [h]; exact hb)
    have h2 := ex_in _ hb
    rw [h1.1, h1.2, h2.1, h2.2, h]; exact ⟨rfl, rfl⟩
  · have h1 := md_over a b 1 (by decide) (by rw [h]; omega)
    have h2 := ex_out _ hb
    rw [h1.1, h1.2, h2.1, h2.2]; exact ⟨rfl, rfl⟩

set_option maxRecDepth 100000 in
set_option maxHeartbeats 2000000 in
theorem num_add (a b : Int) (w : World) (ha : -9223372036854775808 ≤ a ∧ a ≤ 9223372036854775807) (hb : -9223372036854775808 ≤ b ∧ b ≤ 9223372036854775807) :
    Calls Try.prog 27 #[.int .i64 a, .int .i64 b] w fun e w' => e = .returned (.tuple #[.int .i64 (exV (a + b)), .int .i64 (exE (a + b))]) ∧ w = w' := by
  by_cases h : -9223372036854775808 ≤ a + b ∧ a + b ≤ 9223372036854775807
  · have HO := Lib.hid (ex_in _ h)
    obtain ⟨h1, h2⟩ := h
    rcases (by omega : a < 0 ∨ 0 ≤ a) with s1 | s1 <;> rcases (by omega : b < 0 ∨ b = 0 ∨ 0 < b) with s2 | s2 | s2 <;> rcases (by omega : a + b < 0 ∨ 0 ≤ a + b) with s3 | s3
    all_goals try (exfalso; omega)
    all_goals
      (try have fa := decide_eq_true s1); (try have fa' := decide_eq_false (Int.not_lt.2 s1))
      (try have fb : decide (b < 0) = true := decide_eq_true (by omega)); (try have fb0 : decide (b < 0) = false := decide_eq_false (by omega)); (try have fb1 : decide (0 < b) = true := decide_eq_true (by omega)); (try have fb2 : decide (0 < b) = false := decide_eq_false (by omega))
      (try have fd : decide (a + b < a) = true := decide_eq_true (by omega)); (try have fd0 : decide (a + b < a) = false := decide_eq_false (by omega)); (try have fd1 : decide (a < a + b) = true := decide_eq_true (by omega)); (try have fd2 : decide (a < a + b) = false := decide_eq_false (by omega))
      clear s2
      (try have fc := decide_eq_true s3); (try have fc' := decide_eq_false (Int.not_lt.2 s3))
      go_enter Try.func27, Try.ntmps27
      go_wp2
      go_ret2
      refine ⟨ret_int2 ?_ HO.out.2.symm, rfl⟩
      first | (rw [HO.out.1]; done) | (rw [HO.out.1]; omega)
  · have HO := Lib.hid (ex_out _ h)
    rcases (by omega : (0 ≤ a ∧ 9223372036854775807 < a + b) ∨ (a < 0 ∧ a + b < -9223372036854775808)) with ⟨s1, h1⟩ | ⟨s1, h1⟩
    · obtain ⟨S, hS, hS2⟩ : ∃ S, RowKit.wrap64 (a + b) = S ∧ S = a + b - 18446744073709551616 := ⟨_, rfl, by unfold RowKit.wrap64; omega⟩
      have t1 : S < 0 := by omega
      have t2 : S < a := by omega
      have t3 : 0 < b := by omega
      have t4 : 0 ≤ b := by omega
      (try have fa := decide_eq_true s1); (try have fa' := decide_eq_false (Int.not_lt.2 s1)); (try have fc := decide_eq_true t1); (try have fc' := decide_eq_false (Int.not_lt.2 t1)); (try have fb := decide_eq_true t3); (try have fb' := decide_eq_false (Int.not_lt.2 (Int.le_of_lt t3)))
      clear h h1 hS2
      go_enter Try.func27, Try.ntmps27
      go_wp2
      go_ret2
      exact ⟨ret_int2 HO.out.1.symm HO.out.2.symm, rfl⟩
    · obtain ⟨S, hS, hS2⟩ : ∃ S, RowKit.wrap64 (a + b) = S ∧ S = a + b + 18446744073709551616 := ⟨_, rfl, by unfold RowKit.wrap64; omega⟩
      have t1 : 0 ≤ S := by omega
      have t2 : a < S := by omega
      have t3 : b < 0 := by omega
      (try have fa := decide_eq_true s1); (try have fa' := decide_eq_false (Int.not_lt.2 s1)); (try have fc := decide_eq_true t1); (try have fc' := decide_eq_false (Int.not_lt.2 t1)); (try have fb := decide_eq_true t3); (try have fb' := decide_eq_false (Int.not_lt.2 (Int.le_of_lt t3)))
      clear h h1 hS2
      go_enter Try.func27, Try.ntmps27
      go_wp2
      go_ret2
      exact ⟨ret_int2 HO.out.1.symm HO.out.2.symm, rfl⟩

set_option maxRecDepth 100000 in
set_option maxHeartbeats 2000000 in
theorem num_sub (a b : Int) (w : World) (ha : -9223372036854775808 ≤ a ∧ a ≤ 9223372036854775807) (hb : -9223372036854775808 ≤ b ∧ b ≤ 9223372036854775807) :
    Calls Try.prog 29 #[.int .i64 a, .int .i64 b] w fun e w' => e = .returned (.tuple #[.int .i64 (exV (a - b)), .int .i64 (exE (a - b))]) ∧ w = w' := by
  by_cases h : -9223372036854775808 ≤ a - b ∧ a - b ≤ 9223372036854775807
  · have HO := Lib.hid (ex_in _ h)
    obtain ⟨h1, h2⟩ := h
    rcases (by omega : a < 0 ∨ 0 ≤ a) with s1 | s1 <;> rcases (by omega : b < 0 ∨ b = 0 ∨ 0 < b) with s2 | s2 | s2 <;> rcases (by omega : a - b < 0 ∨ 0 ≤ a - b) with s3 | s3
    all_goals try (exfalso; omega)
    all_goals
      (try have fa := decide_eq_true s1); (try have fa' := decide_eq_false (Int.not_lt.2 s1))
      (try have fb : decide (b < 0) = true := decide_eq_true (by omega)); (try have fb0 : decide (b < 0) = false := decide_eq_false (by omega)); (try have fb1 : decide (0 < b) = true := decide_eq_true (by omega)); (try have fb2 : decide (0 < b) = false := decide_eq_false (by omega))
      (try have fd : decide (a - b < a) = true := decide_eq_true (by omega)); (try have fd0 : decide (a - b < a) = false := decide_eq_false (by omega)); (try have fd1 : decide (a < a - b) = true := decide_eq_true (by omega)); (try have fd2 : decide (a < a - b) = false := decide_eq_false (by omega))
      clear s2
      (try have fc := decide_eq_true s3); (try have fc' := decide_eq_false (Int.not_lt.2 s3))
      go_enter Try.func29, Try.ntmps29
      go_wp2
      go_ret2
      refine ⟨ret_int2 ?_ HO.out.2.symm, rfl⟩
      first | (rw [HO.out.1]; done) | (rw [HO.out.1]; omega)
  · have HO := Lib.hid (ex_out _ h)
    rcases (by omega : (0 ≤ a ∧ 9223372036854775807 < a - b) ∨ (a < 0 ∧ a - b < -9223372036854775808)) with ⟨s1, h1⟩ | ⟨s1, h1⟩
    · obtain ⟨S, hS, hS2⟩ : ∃ S, RowKit.wrap64 (a - b) = S ∧ S = a - b - 18446744073709551616 := ⟨_, rfl, by unfold RowKit.wrap64; omega⟩
      have t1 : S < 0 := by omega
      have t2 : S < a := by omega
      have t3 : b < 0 := by omega
      have t4 : b ≤ 0 := by omega
      (try have fa := decide_eq_true s1); (try have fa' := decide_eq_false (Int.not_lt.2 s1)); (try have fc := decide_eq_true t1); (try have fc' := decide_eq_false (Int.not_lt.2 t1)); (try have fb := decide_eq_true t3); (try have fb' := decide_eq_false (Int.not_lt.2 (Int.le_of_lt t3)))
      clear h h1 hS2
      go_enter Try.func29, Try.ntmps29
      go_wp2
      go_ret2
      exact ⟨ret_int2 HO.out.1.symm HO.out.2.symm, rfl⟩
    · obtain ⟨S, hS, hS2⟩ : ∃ S, RowKit.wrap64 (a - b) = S ∧ S = a - b + 18446744073709551616 := ⟨_, rfl, by unfold RowKit.wrap64; omega⟩
      have t1 : 0 ≤ S := by omega
      have t2 : a < S := by omega
      have t3 : 0 < b := by omega
      (try have fa := decide_eq_true s1); (try have fa' := decide_eq_false (Int.not_lt.2 s1)); (try have fc := decide_eq_true t1); (try have fc' := decide_eq_false (Int.not_lt.2 t1)); (try have fb := decide_eq_true t3); (try have fb' := decide_eq_false (Int.not_lt.2 (Int.le_of_lt t3)))
      clear h h1 hS2
      go_enter Try.func29, Try.ntmps29
      go_wp2
      go_ret2
      exact ⟨ret_int2 HO.out.1.symm HO.out.2.symm, rfl⟩

theorem num_mul (a b : Int) (w : World) (ha : -9223372036854775808 ≤ a ∧ a ≤ 9223372036854775807) (hb : -9223372036854775808 ≤ b ∧ b ≤ 9223372036854775807) :
    Calls Try.prog 31 #[.int .i64 a, .int .i64 b] w fun e w' => e = .returned (.tuple #[.int .i64 (exV (a * b)), .int .i64 (exE (a * b))]) ∧ Below w.heap.size w w' := by
  have H1 := Lib.hid (md_one a b)
  have HA := Lib.hid ha
  have HB := Lib.hid hb
  clear ha hb
  go_enter Try.func31, Try.ntmps31
  go_wp2_with (go_at_call 16; refine (num_muldiv _ _ _ _ HA.out HB.out (by decide)).mono ?_; rw [H1.out.1, H1.out.2]; rintro e w1 ⟨rfl, hb1⟩)
  go_ret2
  exact ⟨rfl, hb1⟩

set_option maxRecDepth 100000 in
set_option maxHeartbeats 2000000 in
theorem ref01_add (a b : Int) (w : World) (ha : -9223372036854775808 ≤ a ∧ a ≤ 9223372036854775807) (hb : -9223372036854775808 ≤ b ∧ b ≤ 9223372036854775807) :
    Calls Try.prog 28 #[.int .i64 a, .int .i64 b] w fun e w' => e = .returned (.tuple #[.int .i64 (exV (a + b)), .int .i64 (exE (a + b))]) ∧ w = w' := by
  by_cases h : -9223372036854775808 ≤ a + b ∧ a + b ≤ 9223372036854775807
  · have HO := Lib.hid (ex_in _ h)
    obtain ⟨h1, h2⟩ := h
    rcases (by omega : a < 0 ∨ 0 ≤ a) with s1 | s1 <;> rcases (by omega : b < 0 ∨ b = 0 ∨ 0 < b) with s2 | s2 | s2 <;> rcases (by omega : a + b < 0 ∨ 0 ≤ a + b) with s3 | s3
    all_goals try (exfalso; omega)
    all_goals
      (try have fa := decide_eq_true s1); (try have fa' := decide_eq_false (Int.not_lt.2 s1))
      (try have fb : decide (b < 0) = true := decide_eq_true (by omega)); (try have fb0 : decide (b < 0) = false := decide_eq_false (by omega)); (try have fb1 : decide (0 < b) = true := decide_eq_true (by omega)); (try have fb2 : decide (0 < b) = false := decide_eq_false (by omega))
      (try have fd : decide (a + b < a) = true := decide_eq_true (by omega)); (try have fd0 : decide (a + b < a) = false := decide_eq_false (by omega)); (try have fd1 : decide (a < a + b) = true := decide_eq_true (by omega)); (try have fd2 : decide (a < a + b) = false := decide_eq_false (by omega))
      clear s2
      (try have fc := decide_eq_true s3); (try have fc' := decide_eq_false (Int.not_lt.2 s3))
      go_enter Try.func28, Try.ntmps28
      go_wp2
      go_ret2
      refine ⟨ret_int2 ?_ HO.out.2.symm, rfl⟩
      first | (rw [HO.out.1]; done) | (rw [HO.out.1]; omega)
  · have HO := Lib.hid (ex_out _ h)
    rcases (by omega : (0 ≤ a ∧ 9223372036854775807 < a + b) ∨ (a < 0 ∧ a + b < -9223372036854775808)) with ⟨s1, h1⟩ | ⟨s1, h1⟩
    · obtain ⟨S, hS, hS2⟩ : ∃ S, RowKit.wrap64 (a + b) = S ∧ S = a + b - 18446744073709551616 := ⟨_, rfl, by unfold RowKit.wrap64; omega⟩
      have t1 : S < 0 := by omega
      have t2 : S < a := by omega
      have t3 : 0 < b := by omega
      have t4 : 0 ≤ b := by omega
      (try have fa := decide_eq_true s1); (try have fa' := decide_eq_false (Int.not_lt.2 s1)); (try have fc := decide_eq_true t1); (try have fc' := decide_eq_false (Int.not_lt.2 t1)); (try have fb := decide_eq_true t3); (try have fb' := decide_eq_false (Int.not_lt.2 (Int.le_of_lt t3)))
      clear h h1 hS2
      go_enter Try.func28, Try.ntmps28
      go_wp2
      go_ret2
      exact ⟨ret_int2 HO.out.1.symm HO.out.2.symm, rfl⟩
    · obtain ⟨S, hS, hS2⟩ : ∃ S, RowKit.wrap64 (a + b) = S ∧ S = a + b + 18446744073709551616 := ⟨_, rfl, by unfold RowKit.wrap64; omega⟩
      have t1 : 0 ≤ S := by omega
      have t2 : a < S := by omega
      have t3 : b < 0 := by omega
      (try have fa := decide_eq_true s1); (try have fa' := decide_eq_false (Int.not_lt.2 s1)); (try have fc := decide_eq_true t1); (try have fc' := decide_eq_false (Int.not_lt.2 t1)); (try have fb := decide_eq_true t3); (try have fb' := decide_eq_false (Int.not_lt.2 (Int.le_of_lt t3)))
      clear h h1 hS2
      go_enter Try.func28, Try.ntmps28
      go_wp2
      go_ret2
      exact ⟨ret_int2 HO.out.1.symm HO.out.2.symm, rfl⟩

set_option maxRecDepth 100000 in
set_option maxHeartbeats 2000000 in
theorem ref01_sub (a b : Int) (w : World) (ha : -9223372036854775808 ≤ a ∧ a ≤ 9223372036854775807) (hb : -9223372036854775808 ≤ b ∧ b ≤ 9223372036854775807) :
    Calls Try.prog 30 #[.int .i64 a, .int .i64 b] w fun e w' => e = .returned (.tuple #[.int .i64 (exV (a - b)), .int .i64 (exE (a - b))]) ∧ w = w' := by
  by_cases h : -9223372036854775808 ≤ a - b ∧ a - b ≤ 9223372036854775807
  · have HO := Lib.hid (ex_in _ h)
    obtain ⟨h1, h2⟩ := h
    rcases (by omega : a < 0 ∨ 0 ≤ a) with s1 | s1 <;> rcases (by omega : b < 0 ∨ b = 0 ∨ 0 < b) with s2 | s2 | s2 <;> rcases (by omega : a - b < 0 ∨ 0 ≤ a - b) with s3 | s3
    all_goals try (exfalso; omega)
    all_goals
      (try have fa := decide_eq_true s1); (try have fa' := decide_eq_false (Int.not_lt.2 s1))
      (try have fb : decide (b < 0) = true := decide_eq_true (by omega)); (try have fb0 : decide (b < 0) = false := decide_eq_false (by omega)); (try have fb1 : decide (0 < b) = true := decide_eq_true (by omega)); (try have fb2 : decide (0 < b) = false := decide_eq_false (by omega))
      (try have fd : decide (a - b < a) = true := decide_eq_true (by omega)); (try have fd0 : decide (a - b < a) = false := decide_eq_false (by omega)); (try have fd1 : decide (a < a - b) = true := decide_eq_true (by omega)); (try have fd2 : decide (a < a - b) = false := decide_eq_false (by omega))
      clear s2
      (try have fc := decide_eq_true s3); (try have fc' := decide_eq_false (Int.not_lt.2 s3))
      go_enter Try.func30, Try.ntmps30
      go_wp2
      go_ret2
      refine ⟨ret_int2 ?_ HO.out.2.symm, rfl⟩
      first | (rw [HO.out.1]; done) | (rw [HO.out.1]; omega)
  · have HO := Lib.hid (ex_out _ h)
    rcases (by omega : (0 ≤ a ∧ 9223372036854775807 < a - b) ∨ (a < 0 ∧ a - b < -9223372036854775808)) with ⟨s1, h1⟩ | ⟨s1, h1⟩
    · obtain ⟨S, hS, hS2⟩ : ∃ S, RowKit.wrap64 (a - b) = S ∧ S = a - b - 18446744073709551616 := ⟨_, rfl, by unfold RowKit.wrap64; omega⟩
      have t1 : S < 0 := by omega
      have t2 : S < a := by omega
      have t3 : b < 0 := by omega
      have t4 : b ≤ 0 := by omega
      (try have fa := decide_eq_true s1); (try have fa' := decide_eq_false (Int.not_lt.2 s1)); (try have fc := decide_eq_true t1); (try have fc' := decide_eq_false (Int.not_lt.2 t1)); (try have fb := decide_eq_true t3); (try have fb' := decide_eq_false (Int.not_lt.2 (Int.le_of_lt t3)))
      clear h h1 hS2
      go_enter Try.func30, Try.ntmps30
      go_wp2
      go_ret2
      exact ⟨ret_int2 HO.out.1.symm HO.out.2.symm, rfl⟩
    · obtain ⟨S, hS, hS2⟩ : ∃ S, RowKit.wrap64 (a - b) = S ∧ S = a - b + 18446744073709551616 := ⟨_, rfl, by unfold RowKit.wrap64; omega⟩
      have t1 : 0 ≤ S := by omega
      have t2 : a < S := by omega
      have t3 : 0 < b := by omega
      (try have fa := decide_eq_true s1); (try have fa' := decide_eq_false (Int.not_lt.2 s1)); (try have fc := decide_eq_true t1); (try have fc' := decide_eq_false (Int.not_lt.2 t1)); (try have fb := decide_eq_true t3); (try have fb' := decide_eq_false (Int.not_lt.2 (Int.le_of_lt t3)))
      clear h h1 hS2
      go_enter Try.func30, Try.ntmps30
      go_wp2
      go_ret2
      exact ⟨ret_int2 HO.out.1.symm HO.out.2.symm, rfl⟩

theorem ref01_mul (a b : Int) (w : World) (ha : -9223372036854775808 ≤ a ∧ a ≤ 9223372036854775807) (hb : -9223372036854775808 ≤ b ∧ b ≤ 9223372036854775807) :
    Calls Try.prog 32 #[.int .i64 a, .int .i64 b] w fun e w' => e = .returned (.tuple #[.int .i64 (exV (a * b)), .int .i64 (exE (a * b))]) ∧ Below w.heap.size w w' := by
  have H1 := Lib.hid (md_one a b)
  have HA := Lib.hid ha
  have HB := Lib.hid hb
  clear ha hb
  go_enter Try.func32, Try.ntmps32
  go_wp2_with (go_at_call 17; refine (ref01_muldiv _ _ _ _ HA.out HB.out (by decide)).mono ?_; rw [H1.out.1, H1.out.2]; rintro e w1 ⟨rfl, hb1⟩)
  go_ret2
  exact ⟨rfl, hb1⟩
end Go.Proofs.Ytimonckfibphcaa
