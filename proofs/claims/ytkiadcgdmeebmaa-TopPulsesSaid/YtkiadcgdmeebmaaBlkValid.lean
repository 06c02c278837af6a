/- What sound and Valid of ahead return, in the program and in the reference, for all blocks -/
import Derived.Test.YtkiadcgdmeebmaaProg
import Derived.WalkKit
import Derived.WalkLawsBesides
import Derived.Lib.Hide
import Derived.Test.YtkiadcgdmeebmaaKit3
import Derived.Test.YtkiadcgdmeebmaaDdaDom
namespace Go.Proofs.Ytkiadcgdmeebmaa
open Go.RowKit
set_option linter.unusedVariables false

attribute [local go_sem] cell_past1 cell_past2 cell_past3 cell_past4 froz_past1 froz_past2 froz_past3

def blkSound (a b c d ac cr : Int) : Bool := ddaValid a b c d && decide (1 ≤ ac ∧ ac ≤ 16777216 ∧ 1 ≤ cr ∧ cr ≤ 1099511627776)
def blkValid (a b c d ac en cr ex : Int) : Bool := blkSound a b c d ac cr && decide (0 ≤ en ∧ en ≤ cr ∧ 0 ≤ ex ∧ ex ≤ cr)

set_option maxRecDepth 100000 in
set_option maxHeartbeats 4000000 in
theorem ahead_sound (a b c d ac en cr ex : Int) (w : World) :
    Calls Try.prog 37 #[.agg #[.int .i64 a, .int .i64 b, .int .i64 c, .int .i64 d, .int .i64 ac, .int .i64 en, .int .i64 cr, .int .i64 ex]] w fun e w' => e = .returned (.bool (blkSound a b c d ac cr)) ∧ Below w.heap.size w w' := by
  generalize hz : ddaValid a b c d = z
  have HZ := Lib.hid hz
  clear hz
  cases z
  · go_enter Try.func37, Try.ntmps37
    go_wp2_with (go_at_call 42; refine (dda_valid _ _ _ _ _).mono ?_; rw [HZ.out]; rintro e w1 ⟨rfl, rfl⟩)
    go_ret
    exact ⟨ret_bool (by unfold blkSound; simp [HZ.out]), by (repeat' (first | with_reducible exact Below.refl _ _ | with_reducible refine Below.drew ?_ | with_reducible refine below_drewN ?_ _ | with_reducible refine Below.alloc ?_ ?_ _ | with_reducible refine Below.setCell ?_ ?_ _ | with_reducible refine Below.trans ?_ (Below.mono (by with_reducible assumption) ?_) | (simp; done) | (simp; omega) | omega))⟩
  · go_enter Try.func37, Try.ntmps37
    go_wp2_with (go_at_call 42; refine (dda_valid _ _ _ _ _).mono ?_; rw [HZ.out]; rintro e w1 ⟨rfl, rfl⟩)
    all_goals go_ret
    all_goals refine ⟨ret_bool ?_, ?_⟩
    all_goals first | (unfold blkSound; rw [HZ.out, Bool.eq_iff_iff]; simp; omega) | (repeat' (first | with_reducible exact Below.refl _ _ | with_reducible refine Below.drew ?_ | with_reducible refine below_drewN ?_ _ | with_reducible refine Below.alloc ?_ ?_ _ | with_reducible refine Below.setCell ?_ ?_ _ | with_reducible refine Below.trans ?_ (Below.mono (by with_reducible assumption) ?_) | (simp; done) | (simp; omega) | omega))

set_option maxRecDepth 100000 in
set_option maxHeartbeats 4000000 in
theorem ahead_valid (a b c d ac en cr ex : Int) (w : World) :
    Calls Try.prog 24 #[.agg #[.int .i64 a, .int .i64 b, .int .i64 c, .int .i64 d, .int .i64 ac, .int .i64 en, .int .i64 cr, .int .i64 ex]] w fun e w' => e = .returned (.bool (blkValid a b c d ac en cr ex)) ∧ Below w.heap.size w w' := by
  generalize hz : blkSound a b c d ac cr = z
  have HZ := Lib.hid hz
  clear hz
  cases z
  · go_enter Try.func24, Try.ntmps24
    go_wp2_with (go_at_call 37; refine (ahead_sound _ _ _ _ _ _ _ _ _).mono ?_; rw [HZ.out]; rintro e w1 ⟨rfl, hb1⟩; have z1 := hb1.size; (try simp at z1); have L1a := live_below hb1 (b := w.heap.size) (by (repeat (first | with_reducible assumption | ((with_reducible apply live_new) <;> (first | with_reducible rfl | (focus (simp; done)))) | with_reducible apply live_alloc | with_reducible apply live_drew | with_reducible apply live_drewN | ((with_reducible apply live_set_other); (case hb => first | omega | (simp; done))) | with_reducible apply live_set_same | (focus (simp; done))))); obtain ⟨p1a, e1a, f1a⟩ := id L1a)
    all_goals go_ret
    all_goals exact ⟨ret_bool (by unfold blkValid; simp [HZ.out]), by (repeat' (first | with_reducible exact Below.refl _ _ | with_reducible refine Below.drew ?_ | with_reducible refine below_drewN ?_ _ | with_reducible refine Below.alloc ?_ ?_ _ | with_reducible refine Below.setCell ?_ ?_ _ | with_reducible refine Below.trans ?_ (Below.mono (by with_reducible assumption) ?_) | (simp; done) | (simp; omega) | omega))⟩
  · go_enter Try.func24, Try.ntmps24
    go_wp2_with (go_at_call 37; refine (ahead_sound _ _ _ _ _ _ _ _ _).mono ?_; rw [HZ.out]; rintro e w1 ⟨rfl, hb1⟩; have z1 := hb1.size; (try simp at z1); have L1a := live_below hb1 (b := w.heap.size) (by (repeat (first | with_reducible assumption | ((with_reducible apply live_new) <;> (first | with_reducible rfl | (focus (simp; done)))) | with_reducible apply live_alloc | with_reducible apply live_drew | with_reducible apply live_drewN | ((with_reducible apply live_set_other); (case hb => first | omega | (simp; done))) | with_reducible apply live_set_same | (focus (simp; done))))); obtain ⟨p1a, e1a, f1a⟩ := id L1a)
    all_goals go_ret
    all_goals refine ⟨ret_bool ?_, ?_⟩
    all_goals first | (unfold blkValid; rw [HZ.out, Bool.eq_iff_iff]; simp; omega) | (repeat' (first | with_reducible exact Below.refl _ _ | with_reducible refine Below.drew ?_ | with_reducible refine below_drewN ?_ _ | with_reducible refine Below.alloc ?_ ?_ _ | with_reducible refine Below.setCell ?_ ?_ _ | with_reducible refine Below.trans ?_ (Below.mono (by with_reducible assumption) ?_) | (simp; done) | (simp; omega) | omega))
end Go.Proofs.Ytkiadcgdmeebmaa
