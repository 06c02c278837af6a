/- limits.bounded and the reference's least: the lesser one of a number and of a quotient -/
import Derived.Test.YtkiadcgdmeebmaaKit5
import Derived.Test.YtkiadcgdmeebmaaNumMulDiv
import Derived.Test.YtkiadcgdmeebmaaNumMulDivR
import Derived.Test.YtkiadcgdmeebmaaDdaDom
namespace Go.Proofs.Ytkiadcgdmeebmaa
open Go.RowKit
set_option linter.unusedVariables false

attribute [local go_sem] cell_past1 cell_past2 cell_past3 cell_past4 froz_past1 froz_past2 froz_past3

def lesser (m a b c : Int) : Int := min m (a * b / c)
theorem md_pos (a b c : Int) (ha : 0 ≤ a) (hb : 0 ≤ b) (hc : 0 < c) : (mdE a b c = 0 ∧ mdV a b c = a * b / c ∧ 0 ≤ a * b / c ∧ a * b / c ≤ 9223372036854775807) ∨ (mdE a b c = 3 ∧ 9223372036854775807 < a * b / c) := by
  have e : mdF a b c = a * b / c := by unfold mdF; exact Int.fdiv_eq_ediv_of_nonneg _ (by omega)
  have h0 : 0 ≤ a * b / c := Int.ediv_nonneg (Int.mul_nonneg ha hb) (by omega)
  by_cases h : a * b / c ≤ 9223372036854775807
  · obtain ⟨h1, h2⟩ := md_fine a b c (by omega) (by omega)
    exact Or.inl ⟨h2, h1.trans e, h0, h⟩
  · obtain ⟨h1, h2⟩ := md_over a b c (by omega) (by omega)
    exact Or.inr ⟨h2, by omega⟩
theorem lesser_in (m a b c : Int) (hm : 0 ≤ m) (ha : 0 ≤ a) (hb : 0 ≤ b) (hc : 0 < c) : 0 ≤ lesser m a b c ∧ lesser m a b c ≤ m := by
  have h0 : 0 ≤ a * b / c := Int.ediv_nonneg (Int.mul_nonneg ha hb) (by omega)
  unfold lesser
  omega

set_option maxRecDepth 100000 in
set_option maxHeartbeats 4000000 in
theorem lim_bounded (a b c m : Int) (w : World) (ha : 0 ≤ a ∧ a ≤ 9223372036854775807) (hb : 0 ≤ b ∧ b ≤ 9223372036854775807) (hc : 0 < c ∧ c ≤ 9223372036854775807) (hm : 0 ≤ m ∧ m ≤ 9223372036854775807) :
    Calls Try.prog 35 #[.int .i64 a, .int .i64 b, .int .i64 c, .int .i64 m] w fun e w' => e = .returned (.int .i64 (lesser m a b c)) ∧ Below w.heap.size w w' := by
  have K1 := Lib.hid (fun w => num_muldiv a b c w (by omega) (by omega) (by omega))
  have hq := md_pos a b c ha.1 hb.1 hc.1
  have HL : Hid (lesser m a b c = min m (a * b / c)) := Lib.hid rfl
  generalize mdE a b c = E at *
  generalize mdV a b c = V at *
  generalize lesser m a b c = R at *
  have hmn := @run_min2 Try.prog
  generalize a * b / c = q at *
  have HM := Lib.hid hm
  clear ha hb hc hm
  rcases hq with ⟨rfl, rfl, h0, h1⟩ | ⟨rfl, h1⟩
  · have H1 := Lib.hid h1
    clear h1
    go_enter Try.func35, Try.ntmps35
    go_wp2_with (go_at_call 48; refine (K1.out _).mono ?_; rintro e w1 ⟨rfl, hb1⟩; have z1 := hb1.size; (try simp at z1))
    go_ret
    refine ⟨ret_int ?_, ?_⟩
    · have := HL.out; omega
    · (repeat' (first | with_reducible exact Below.refl _ _ | with_reducible refine Below.drew ?_ | with_reducible refine below_drewN ?_ _ | with_reducible refine Below.alloc ?_ ?_ _ | with_reducible refine Below.setCell ?_ ?_ _ | with_reducible refine Below.trans ?_ (Below.mono (by with_reducible assumption) ?_) | (simp; done) | (simp; omega) | omega))
  · have H1 := Lib.hid h1
    clear h1
    go_enter Try.func35, Try.ntmps35
    go_wp2_with (go_at_call 48; refine (K1.out _).mono ?_; rintro e w1 ⟨rfl, hb1⟩; have z1 := hb1.size; (try simp at z1))
    go_ret
    refine ⟨ret_int ?_, ?_⟩
    · have := HL.out; have := HM.out; have := H1.out; omega
    · (repeat' (first | with_reducible exact Below.refl _ _ | with_reducible refine Below.drew ?_ | with_reducible refine below_drewN ?_ _ | with_reducible refine Below.alloc ?_ ?_ _ | with_reducible refine Below.setCell ?_ ?_ _ | with_reducible refine Below.trans ?_ (Below.mono (by with_reducible assumption) ?_) | (simp; done) | (simp; omega) | omega))

theorem lim_size (n : Int) (w : World) (h : -9223372036854775807 ≤ n ∧ n ≤ 9223372036854775807) :
    Calls Try.prog 36 #[.int .i64 n] w fun e w' => e = .returned (.int .i64 (ab n)) ∧ w = w' := by
  have hmx := @run_max2 Try.prog
  go_enter Try.func36, Try.ntmps36
  go_wp2
  all_goals go_ret
  all_goals exact ⟨ret_int (by unfold ab; omega), rfl⟩
end Go.Proofs.Ytkiadcgdmeebmaa
