/- What Dominant of dda returns, in the program and in the reference, for all counts -/
import Derived.Test.YtkiadcgdmeebmaaProg
import Derived.WalkKit
import Derived.WalkLawsBesides
import Derived.Handy
import Derived.Lib.Hide
import Derived.Test.YtkiadcgdmeebmaaKit
import Derived.Test.YtkiadcgdmeebmaaDdaValid
namespace Go.Proofs.Ytkiadcgdmeebmaa
open Go.RowKit

theorem run_max2 {P : Program} (ts : Array TypeId) (t : TypeId) (x y : Int) (w : World) : (Builtin.max_ ts t #[.int .i64 x, .int .i64 y]).run P w = .ok (.int .i64 (max x y)) w := by
  rw [run_max_int2]; congr 2; split <;> omega
theorem run_min2 {P : Program} (ts : Array TypeId) (t : TypeId) (x y : Int) (w : World) : (Builtin.min_ ts t #[.int .i64 x, .int .i64 y]).run P w = .ok (.int .i64 (min x y)) w := by
  rw [run_min_int2]; congr 2; split <;> omega

def ab (n : Int) : Int := max n (-n)
theorem ab_in {n B : Int} (h0 : -B ≤ n) (h1 : n ≤ B) : 0 ≤ ab n ∧ ab n ≤ B := by unfold ab; omega
def dom4 (a b c d : Int) : Int := max (max (max (max 0 (ab a)) (ab b)) (ab c)) (ab d)
def ddaDom (a b c d : Int) : Int := if ddaValid a b c d then dom4 a b c d else 0

theorem ddaDom_in (a b c d : Int) : 0 ≤ ddaDom a b c d ∧ ddaDom a b c d ≤ 16777216 := by
  unfold ddaDom
  split
  · rename_i h
    simp [ddaValid] at h
    unfold dom4 ab; omega
  · omega
theorem ddaDom_pos (a b c d : Int) (h : ddaValid a b c d = true) : 1 ≤ ddaDom a b c d := by
  unfold ddaDom; rw [if_pos h]
  simp [ddaValid] at h
  unfold dom4 ab; omega

theorem dda_size (n : Int) (w : World) (h : -9223372036854775807 ≤ n ∧ n ≤ 9223372036854775807) :
    Calls Try.prog 43 #[.int .i64 n] w fun e w' => e = .returned (.int .i64 (ab n)) ∧ w = w' := by
  go_enter Try.func43, Try.ntmps43
  go_wp2
  all_goals go_ret
  all_goals exact ⟨ret_int (by unfold ab; omega), rfl⟩
theorem ref42_size (n : Int) (w : World) (h : -9223372036854775807 ≤ n ∧ n ≤ 9223372036854775807) :
    Calls Try.prog 23 #[.int .i64 n] w fun e w' => e = .returned (.int .i64 (ab n)) ∧ w = w' := by
  go_enter Try.func23, Try.ntmps23
  go_wp2
  all_goals go_ret
  all_goals exact ⟨ret_int (by unfold ab; omega), rfl⟩
set_option maxRecDepth 100000 in
set_option maxHeartbeats 4000000 in
theorem dda_dom (a b c d : Int) (w : World) :
    Calls Try.prog 29 #[.agg #[.int .i64 a, .int .i64 b, .int .i64 c, .int .i64 d]] w fun e w' =>
      e = .returned (.int .i64 (ddaDom a b c d)) ∧ (w.alloc (.cells #[.int .i64 a, .int .i64 b, .int .i64 c, .int .i64 d] 32)).alloc (.cells #[.int .i64 a, .int .i64 b, .int .i64 c, .int .i64 d] 32) = w' := by
  cases hv : ddaValid a b c d
  · have H := Lib.hid hv
    clear hv
    go_enter Try.func29, Try.ntmps29
    go_wp2_with (go_at_call 42; refine (dda_valid _ _ _ _ _).mono ?_; rw [H.out]; rintro e w1 ⟨rfl, rfl⟩)
    all_goals go_ret
    all_goals exact ⟨ret_int (by unfold ddaDom; simp [H.out]), rfl⟩
  · have hb : (-16777216 ≤ a ∧ a ≤ 16777216) ∧ (-16777216 ≤ b ∧ b ≤ 16777216) ∧ (-16777216 ≤ c ∧ c ≤ 16777216) ∧ (-16777216 ≤ d ∧ d ≤ 16777216) := by
      have := hv; simp [ddaValid] at this; omega
    obtain ⟨⟨a0, a1⟩, ⟨b0, b1⟩, ⟨c0, c1⟩, d0, d1⟩ := hb
    have H := Lib.hid hv
    clear hv
    obtain ⟨i0, i1, i2, i3⟩ := arr_idx a b c d
    have hmx := @run_max2 Try.prog
    go_enter Try.func29, Try.ntmps29
    go_wp2_with (go_at_call 42; refine (dda_valid _ _ _ _ _).mono ?_; rw [H.out]; rintro e w1 ⟨rfl, rfl⟩)
    refine wp_loop_rounds 5 ?_
    iterate 5
      rw [rounds_succ]
      go_wp2_with (go_at_call 43; refine (dda_size _ _ ?_).mono ?_; (· omega); rintro e w1 ⟨rfl, rfl⟩)
    go_ret
    refine ⟨ret_int ?_, rfl⟩
    unfold ddaDom dom4; rw [if_pos H.out]; omega
set_option maxRecDepth 100000 in
set_option maxHeartbeats 4000000 in
theorem ref42_dom (a b c d : Int) (w : World) :
    Calls Try.prog 9 #[.agg #[.int .i64 a, .int .i64 b, .int .i64 c, .int .i64 d]] w fun e w' =>
      e = .returned (.int .i64 (ddaDom a b c d)) ∧ (w.alloc (.cells #[.int .i64 a, .int .i64 b, .int .i64 c, .int .i64 d] 32)).alloc (.cells #[.int .i64 a, .int .i64 b, .int .i64 c, .int .i64 d] 32) = w' := by
  cases hv : ddaValid a b c d
  · have H := Lib.hid hv
    clear hv
    go_enter Try.func9, Try.ntmps9
    go_wp2_with (go_at_call 22; refine (ref42_valid _ _ _ _ _).mono ?_; rw [H.out]; rintro e w1 ⟨rfl, rfl⟩)
    all_goals go_ret
    all_goals exact ⟨ret_int (by unfold ddaDom; simp [H.out]), rfl⟩
  · have hb : (-16777216 ≤ a ∧ a ≤ 16777216) ∧ (-16777216 ≤ b ∧ b ≤ 16777216) ∧ (-16777216 ≤ c ∧ c ≤ 16777216) ∧ (-16777216 ≤ d ∧ d ≤ 16777216) := by
      have := hv; simp [ddaValid] at this; omega
    obtain ⟨⟨a0, a1⟩, ⟨b0, b1⟩, ⟨c0, c1⟩, d0, d1⟩ := hb
    have H := Lib.hid hv
    clear hv
    have hmx := @run_max2 Try.prog
    go_enter Try.func9, Try.ntmps9
    go_wp2_with (go_at_call 22; refine (ref42_valid _ _ _ _ _).mono ?_; rw [H.out]; rintro e w1 ⟨rfl, rfl⟩)
    refine wp_loop_rounds 5 ?_
    iterate 5
      rw [rounds_succ]
      go_wp2_with (go_at_call 23; refine (ref42_size _ _ ?_).mono ?_; (· omega); rintro e w1 ⟨rfl, rfl⟩)
    go_ret
    refine ⟨ret_int ?_, rfl⟩
    unfold ddaDom dom4; rw [if_pos H.out]; omega
end Go.Proofs.Ytkiadcgdmeebmaa
