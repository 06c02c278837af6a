/- The example of chapter 42: true -/
import Derived.Test.YtjcnheakjgmidaaProg
import Derived.WalkKit
import Derived.WalkLawsBesides
import Derived.Lib.Hide
import Derived.Test.YtjcnheakjgmidaaKit2
import Derived.Test.YtjcnheakjgmidaaDdaPulse
namespace Go.Proofs.Ytjcnheakjgmidaa
open Go.RowKit

attribute [local go_sem] cell_past1 cell_past2 cell_past3 cell_past4 froz_past1 froz_past2 froz_past3

theorem dom_ex : ddaDom 4 (-2) 0 1 = 4 := by decide
set_option maxRecDepth 100000 in
set_option maxHeartbeats 4000000 in
theorem law42_awake (w : World) : Calls Try.prog 19 #[] w fun e w' => e = .returned (.bool true) ∧ Below w.heap.size w w' := by
  have q1 : ∀ w, (binOp .eql 22 (.agg #[.int .i64 3, .int .i64 (-2), .int .i64 0, .int .i64 1]) (.agg #[.int .i64 3, .int .i64 (-2), .int .i64 0, .int .i64 1])).run Try.prog w = .ok (.bool true) w := fun w => arr_eql _ _ _ _ _ _ _ _ w
  have q2 : ∀ w, (binOp .eql 22 (.agg #[.int .i64 1, .int .i64 0, .int .i64 0, .int .i64 1]) (.agg #[.int .i64 1, .int .i64 0, .int .i64 0, .int .i64 1])).run Try.prog w = .ok (.bool true) w := fun w => arr_eql _ _ _ _ _ _ _ _ w
  go_enter Try.func19, Try.ntmps19
  go_wp2_with (first | (go_at_call 17; refine (dda_dom 4 (-2) 0 1 _).mono ?_; rw [dom_ex]; rintro e w1 ⟨rfl, rfl⟩) | (go_at_call 20; refine (dda_at 4 (-2) 0 1 3 _).mono ?_; rw [dom_ex, show atM 4 3 4 = 3 from by decide, show atM 4 3 (-2) = -2 from by decide, show atM 4 3 0 = 0 from by decide, show atM 4 3 1 = 1 from by decide]; rintro e w1 ⟨rfl, hb1⟩; have z1 := hb1.size; (try simp at z1); have L1a := live_below hb1 (b := w.heap.size) (by (repeat (first | with_reducible assumption | ((with_reducible apply live_new) <;> (first | with_reducible rfl | (focus (simp; done)))) | with_reducible apply live_alloc | with_reducible apply live_drew | with_reducible apply live_drewN | ((with_reducible apply live_set_other); (case hb => first | omega | (simp; done))) | with_reducible apply live_set_same | (focus (simp; done))))); obtain ⟨p1a, e1a, f1a⟩ := id L1a) | (go_at_call 22; refine (dda_pulse 4 (-2) 0 1 2 _).mono ?_; rw [dom_ex, show puM 4 2 4 = 1 from by decide, show puM 4 2 (-2) = 0 from by decide, show puM 4 2 0 = 0 from by decide, show puM 4 2 1 = 1 from by decide]; rintro e w2 ⟨rfl, hb2⟩; have z2 := hb2.size; (try simp at z2); have L2a := live_below hb2 (b := w.heap.size) (by (repeat (first | with_reducible assumption | ((with_reducible apply live_new) <;> (first | with_reducible rfl | (focus (simp; done)))) | with_reducible apply live_alloc | with_reducible apply live_drew | with_reducible apply live_drewN | ((with_reducible apply live_set_other); (case hb => first | omega | (simp; done))) | with_reducible apply live_set_same | (focus (simp; done))))); obtain ⟨p2a, e2a, f2a⟩ := id L2a))
  all_goals go_ret
  all_goals refine ⟨rfl, ?_⟩
  all_goals (repeat' (first | with_reducible exact Below.refl _ _ | with_reducible refine Below.drew ?_ | with_reducible refine below_drewN ?_ _ | with_reducible refine Below.alloc ?_ ?_ _ | with_reducible refine Below.setCell ?_ ?_ _ | with_reducible refine Below.trans ?_ (Below.mono (by with_reducible assumption) ?_) | (simp; done) | (simp; omega) | omega))
end Go.Proofs.Ytjcnheakjgmidaa
