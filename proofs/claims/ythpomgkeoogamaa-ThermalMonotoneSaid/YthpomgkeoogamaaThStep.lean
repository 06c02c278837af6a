/- What Valid, Step and Top of thermal return, in the program and in the reference, for all heaters and numbers -/
import Derived.Test.YthpomgkeoogamaaProg
import Derived.WalkKit
import Derived.WalkLawsBesides
import Derived.Lib.Hide
import Derived.Test.YthpomgkeoogamaaKit
import Derived.Test.YthpomgkeoogamaaNumClamp
import Derived.Test.YthpomgkeoogamaaNumFloor
namespace Go.Proofs.Ythpomgkeoogamaa
open Go.RowKit

def thValid (p l m a : Int) : Bool := decide (0 ≤ p ∧ p ≤ 1048576 ∧ 1 ≤ l ∧ l ≤ 65536 ∧ l ≤ m ∧ m ≤ 1048576 ∧ -400000 ≤ a ∧ a ≤ 400000)
def thT (t : Int) : Int := max (-1073741824) (min t 1073741824)
def thD (d : Int) : Int := max 0 (min d 255)
def thNext (p l m a t d : Int) : Int := thT t + (thD d * p - l * (thT t - a)) / m
def thStep (p l m a t d : Int) : Int := if thValid p l m a then thNext p l m a t d else 0
def thTop (p l m a : Int) : Int := if thValid p l m a then a - (-255 * p) / l else 0

theorem th_mul (k B C e : Int) (h0 : 0 ≤ k) (h1 : k ≤ B) (h2 : -C ≤ e) (h3 : e ≤ C) (hC : 0 ≤ C) : -(B * C) ≤ k * e ∧ k * e ≤ B * C := by
  have a1 : k * e ≤ k * C := Int.mul_le_mul_of_nonneg_left h3 h0
  have a2 : k * C ≤ B * C := Int.mul_le_mul_of_nonneg_right h1 hC
  have a3 : k * (-C) ≤ k * e := Int.mul_le_mul_of_nonneg_left h2 h0
  rw [Int.mul_neg] at a3
  omega
/-- A floor is not greater in size than the number divided, and one more. -/
theorem th_quo (n m B : Int) (hm : 1 ≤ m) (h0 : -B ≤ n) (h1 : n ≤ B) (hB : 0 ≤ B) : -B ≤ n / m ∧ n / m ≤ B := by
  constructor
  · rw [Int.le_ediv_iff_mul_le (by omega)]
    have : (-B) * m ≤ (-B) * 1 := Int.mul_le_mul_of_nonpos_left (by omega) hm
    omega
  · have h2 : n / m ≤ B / m := Int.ediv_le_ediv (by omega) h1
    have h3 : B / m ≤ B := Int.ediv_le_self _ hB
    omega

set_option maxRecDepth 100000 in
set_option maxHeartbeats 4000000 in
theorem thermal_valid (p l m a : Int) (w : World) :
    Calls Try.prog 19 #[.agg #[.int .i64 p, .int .i64 l, .int .i64 m, .int .i64 a]] w fun e w' => e = .returned (.bool (thValid p l m a)) ∧ w.alloc (.cells #[.int .i64 p, .int .i64 l, .int .i64 m, .int .i64 a] 33) = w' := by
  go_enter Try.func19, Try.ntmps19
  go_wp2
  all_goals go_ret
  all_goals refine ⟨ret_bool ?_, rfl⟩
  all_goals (unfold thValid; rw [Bool.eq_iff_iff]; simp; omega)
set_option maxRecDepth 100000 in
set_option maxHeartbeats 4000000 in
theorem ref48_valid (p l m a : Int) (w : World) :
    Calls Try.prog 20 #[.agg #[.int .i64 p, .int .i64 l, .int .i64 m, .int .i64 a]] w fun e w' => e = .returned (.bool (thValid p l m a)) ∧ w.alloc (.cells #[.int .i64 p, .int .i64 l, .int .i64 m, .int .i64 a] 33) = w' := by
  go_enter Try.func20, Try.ntmps20
  go_wp2
  all_goals go_ret
  all_goals refine ⟨ret_bool ?_, rfl⟩
  all_goals (unfold thValid; rw [Bool.eq_iff_iff]; simp; omega)
set_option maxRecDepth 100000 in
set_option maxHeartbeats 4000000 in
theorem thermal_step (p l m a t d : Int) (w : World) :
    Calls Try.prog 24 #[.agg #[.int .i64 p, .int .i64 l, .int .i64 m, .int .i64 a], .int .i64 t, .int .i64 d] w fun e w' => e = .returned (.int .i64 (thStep p l m a t d)) ∧
      (w.alloc (.cells #[.int .i64 p, .int .i64 l, .int .i64 m, .int .i64 a] 33)).alloc (.cells #[.int .i64 p, .int .i64 l, .int .i64 m, .int .i64 a] 33) = w' := by
  cases hv : thValid p l m a
  · have HV := Lib.hid hv
    clear hv
    go_enter Try.func24, Try.ntmps24
    go_wp2_with (go_at_call 19; refine (thermal_valid _ _ _ _ _).mono ?_; rw [HV.out]; rintro e w1 ⟨rfl, rfl⟩)
    go_ret
    exact ⟨ret_int (by unfold thStep; simp [HV.out]), rfl⟩
  · have hb : 0 ≤ p ∧ p ≤ 1048576 ∧ 1 ≤ l ∧ l ≤ 65536 ∧ l ≤ m ∧ m ≤ 1048576 ∧ -400000 ≤ a ∧ a ≤ 400000 := by simpa [thValid] using hv
    obtain ⟨p0, p1, l0, l1, m0, m1, a0, a1⟩ := hb
    have HV := Lib.hid hv
    clear hv
    obtain ⟨T, hT⟩ : ∃ T, T = thT t := ⟨_, rfl⟩
    obtain ⟨D, hD⟩ : ∃ D, D = thD d := ⟨_, rfl⟩
    have t0 : -1073741824 ≤ T := by rw [hT]; unfold thT; omega
    have t1 : T ≤ 1073741824 := by rw [hT]; unfold thT; omega
    have d0 : 0 ≤ D := by rw [hD]; unfold thD; omega
    have d1 : D ≤ 255 := by rw [hD]; unfold thD; omega
    have x1 := th_mul l 65536 1074141824 (T - a) (by omega) l1 (by omega) (by omega) (by omega)
    have x2 := th_mul D 255 1048576 p d0 d1 (by omega) p1 (by omega)
    simp at x1 x2
    have x3 := th_quo (D * p - l * (T - a)) m 70400000000000 (by omega) (by omega) (by omega) (by omega)
    have HT : Hid (max (-1073741824) (min t 1073741824) = T) := by rw [hT]; exact rfl
    have HD : Hid (max 0 (min d 255) = D) := by rw [hD]; exact rfl
    have HF : Hid (T + (D * p - l * (T - a)) / m = thStep p l m a t d) := by
      show _ = _
      unfold thStep thNext; rw [if_pos HV.out, hT, hD]
    clear hT hD
    go_enter Try.func24, Try.ntmps24
    go_wp2_with (go_at_call 19; refine (thermal_valid _ _ _ _ _).mono ?_; rw [HV.out]; rintro e w1 ⟨rfl, rfl⟩)
    refine (num_clamp _ _ _ _).mono ?_
    rintro e w2 ⟨he, rfl⟩
    rw [HT.out] at he
    subst he
    go_wp2_with fail
    refine (num_clamp _ _ _ _).mono ?_
    rintro e w2 ⟨he, rfl⟩
    rw [HD.out] at he
    subst he
    go_wp2_with fail
    refine (num_floor_pos _ _ _ ?_ ?_).mono ?_
    · omega
    · omega
    rintro e w2 ⟨rfl, rfl⟩
    go_wp2_with fail
    go_ret
    exact ⟨ret_int HF.out, rfl⟩

set_option maxRecDepth 100000 in
set_option maxHeartbeats 4000000 in
theorem thermal_top (p l m a : Int) (w : World) :
    Calls Try.prog 21 #[.agg #[.int .i64 p, .int .i64 l, .int .i64 m, .int .i64 a]] w fun e w' => e = .returned (.int .i64 (thTop p l m a)) ∧
      (w.alloc (.cells #[.int .i64 p, .int .i64 l, .int .i64 m, .int .i64 a] 33)).alloc (.cells #[.int .i64 p, .int .i64 l, .int .i64 m, .int .i64 a] 33) = w' := by
  cases hv : thValid p l m a
  · have HV := Lib.hid hv
    clear hv
    go_enter Try.func21, Try.ntmps21
    go_wp2_with (go_at_call 19; refine (thermal_valid _ _ _ _ _).mono ?_; rw [HV.out]; rintro e w1 ⟨rfl, rfl⟩)
    go_ret
    exact ⟨ret_int (by unfold thTop; simp [HV.out]), rfl⟩
  · have hb : 0 ≤ p ∧ p ≤ 1048576 ∧ 1 ≤ l ∧ l ≤ 65536 ∧ l ≤ m ∧ m ≤ 1048576 ∧ -400000 ≤ a ∧ a ≤ 400000 := by simpa [thValid] using hv
    obtain ⟨p0, p1, l0, l1, m0, m1, a0, a1⟩ := hb
    have HV := Lib.hid hv
    clear hv
    have x3 := th_quo (-255 * p) l 267386880 (by omega) (by omega) (by omega) (by omega)
    have HF : Hid (a - (-255 * p) / l = thTop p l m a) := by
      show _ = _
      unfold thTop; rw [if_pos HV.out]
    go_enter Try.func21, Try.ntmps21
    go_wp2_with (go_at_call 19; refine (thermal_valid _ _ _ _ _).mono ?_; rw [HV.out]; rintro e w1 ⟨rfl, rfl⟩)
    refine (num_floor_pos _ _ _ ?_ ?_).mono ?_
    · omega
    · omega
    rintro e w2 ⟨rfl, rfl⟩
    go_wp2_with fail
    go_ret
    exact ⟨ret_int HF.out, rfl⟩
set_option maxRecDepth 100000 in
set_option maxHeartbeats 4000000 in
theorem ref48_step (p l m a t d : Int) (w : World) :
    Calls Try.prog 25 #[.agg #[.int .i64 p, .int .i64 l, .int .i64 m, .int .i64 a], .int .i64 t, .int .i64 d] w fun e w' => e = .returned (.int .i64 (thStep p l m a t d)) ∧
      (w.alloc (.cells #[.int .i64 p, .int .i64 l, .int .i64 m, .int .i64 a] 33)).alloc (.cells #[.int .i64 p, .int .i64 l, .int .i64 m, .int .i64 a] 33) = w' := by
  cases hv : thValid p l m a
  · have HV := Lib.hid hv
    clear hv
    go_enter Try.func25, Try.ntmps25
    go_wp2_with (go_at_call 20; refine (ref48_valid _ _ _ _ _).mono ?_; rw [HV.out]; rintro e w1 ⟨rfl, rfl⟩)
    go_ret
    exact ⟨ret_int (by unfold thStep; simp [HV.out]), rfl⟩
  · have hb : 0 ≤ p ∧ p ≤ 1048576 ∧ 1 ≤ l ∧ l ≤ 65536 ∧ l ≤ m ∧ m ≤ 1048576 ∧ -400000 ≤ a ∧ a ≤ 400000 := by simpa [thValid] using hv
    obtain ⟨p0, p1, l0, l1, m0, m1, a0, a1⟩ := hb
    have HV := Lib.hid hv
    clear hv
    obtain ⟨T, hT⟩ : ∃ T, T = thT t := ⟨_, rfl⟩
    obtain ⟨D, hD⟩ : ∃ D, D = thD d := ⟨_, rfl⟩
    have t0 : -1073741824 ≤ T := by rw [hT]; unfold thT; omega
    have t1 : T ≤ 1073741824 := by rw [hT]; unfold thT; omega
    have d0 : 0 ≤ D := by rw [hD]; unfold thD; omega
    have d1 : D ≤ 255 := by rw [hD]; unfold thD; omega
    have x1 := th_mul l 65536 1074141824 (T - a) (by omega) l1 (by omega) (by omega) (by omega)
    have x2 := th_mul D 255 1048576 p d0 d1 (by omega) p1 (by omega)
    simp at x1 x2
    have x3 := th_quo (D * p - l * (T - a)) m 70400000000000 (by omega) (by omega) (by omega) (by omega)
    have HT : Hid (max (-1073741824) (min t 1073741824) = T) := by rw [hT]; exact rfl
    have HD : Hid (max 0 (min d 255) = D) := by rw [hD]; exact rfl
    have HF : Hid (T + (D * p - l * (T - a)) / m = thStep p l m a t d) := by
      show _ = _
      unfold thStep thNext; rw [if_pos HV.out, hT, hD]
    clear hT hD
    go_enter Try.func25, Try.ntmps25
    go_wp2_with (go_at_call 20; refine (ref48_valid _ _ _ _ _).mono ?_; rw [HV.out]; rintro e w1 ⟨rfl, rfl⟩)
    refine (ref01_clamp _ _ _ _).mono ?_
    rintro e w2 ⟨he, rfl⟩
    rw [HT.out] at he
    subst he
    go_wp2_with fail
    refine (ref01_clamp _ _ _ _).mono ?_
    rintro e w2 ⟨he, rfl⟩
    rw [HD.out] at he
    subst he
    go_wp2_with fail
    refine (ref01_floor_pos _ _ _ ?_ ?_).mono ?_
    · omega
    · omega
    rintro e w2 ⟨rfl, rfl⟩
    go_wp2_with fail
    go_ret
    exact ⟨ret_int HF.out, rfl⟩

set_option maxRecDepth 100000 in
set_option maxHeartbeats 4000000 in
theorem ref48_top (p l m a : Int) (w : World) :
    Calls Try.prog 22 #[.agg #[.int .i64 p, .int .i64 l, .int .i64 m, .int .i64 a]] w fun e w' => e = .returned (.int .i64 (thTop p l m a)) ∧
      (w.alloc (.cells #[.int .i64 p, .int .i64 l, .int .i64 m, .int .i64 a] 33)).alloc (.cells #[.int .i64 p, .int .i64 l, .int .i64 m, .int .i64 a] 33) = w' := by
  cases hv : thValid p l m a
  · have HV := Lib.hid hv
    clear hv
    go_enter Try.func22, Try.ntmps22
    go_wp2_with (go_at_call 20; refine (ref48_valid _ _ _ _ _).mono ?_; rw [HV.out]; rintro e w1 ⟨rfl, rfl⟩)
    go_ret
    exact ⟨ret_int (by unfold thTop; simp [HV.out]), rfl⟩
  · have hb : 0 ≤ p ∧ p ≤ 1048576 ∧ 1 ≤ l ∧ l ≤ 65536 ∧ l ≤ m ∧ m ≤ 1048576 ∧ -400000 ≤ a ∧ a ≤ 400000 := by simpa [thValid] using hv
    obtain ⟨p0, p1, l0, l1, m0, m1, a0, a1⟩ := hb
    have HV := Lib.hid hv
    clear hv
    have x3 := th_quo (-255 * p) l 267386880 (by omega) (by omega) (by omega) (by omega)
    have HF : Hid (a - (-255 * p) / l = thTop p l m a) := by
      show _ = _
      unfold thTop; rw [if_pos HV.out]
    go_enter Try.func22, Try.ntmps22
    go_wp2_with (go_at_call 20; refine (ref48_valid _ _ _ _ _).mono ?_; rw [HV.out]; rintro e w1 ⟨rfl, rfl⟩)
    refine (ref01_floor_pos _ _ _ ?_ ?_).mono ?_
    · omega
    · omega
    rintro e w2 ⟨rfl, rfl⟩
    go_wp2_with fail
    go_ret
    exact ⟨ret_int HF.out, rfl⟩
end Go.Proofs.Ythpomgkeoogamaa
