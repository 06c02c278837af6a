/- What the example of the chapter returns (true), and that Step of the program and of the reference return the same, for all controllers and readings -/
import Derived.Test.YthpomgkeoogamaaProg
import Derived.WalkKit
import Derived.WalkLawsBesides
import Derived.Lib.Hide
import Derived.Deep.RegionWith
import Derived.Test.YthpomgkeoogamaaKit
import Derived.Test.YthpomgkeoogamaaCtlStep
namespace Go.Proofs.Ythpomgkeoogamaa
open Go.RowKit

attribute [local go_sem] cell_past1 cell_past2 cell_past3 cell_past4 froz_past1 froz_past2 froz_past3

set_option maxRecDepth 100000 in
set_option maxHeartbeats 4000000 in
theorem law49_awake (w : World) : Calls Try.prog 17 #[] w fun e w' => e = .returned (.bool true) ∧ Below w.heap.size w w' := by
  go_enter Try.func17, Try.ntmps17
  go_wp2_with (first | (go_at_call 15; refine (control_step 100 2 1 4 0 50 90 _).mono ?_; rw [show ctlSum2 100 2 1 4 0 50 90 = 10 from by decide, show ctlDuty2 100 2 1 4 0 50 90 = 7 from by decide]; rintro e w1 ⟨rfl, hb1⟩; have z1 := hb1.size; (try simp at z1)) | (go_at_call 18; refine (control_valid _ _ _ _ _ _ _).mono ?_; rw [show ctlValid 100 2 1 4 10 50 = true from by decide]; rintro e w1 ⟨rfl, rfl⟩))
  all_goals go_ret
  all_goals refine ⟨rfl, ?_⟩
  all_goals (repeat' (first | with_reducible exact Below.refl _ _ | with_reducible refine Below.drew ?_ | with_reducible refine below_drewN ?_ _ | with_reducible refine Below.alloc ?_ ?_ _ | with_reducible refine Below.setCell ?_ ?_ _ | with_reducible refine Below.trans ?_ (Below.mono (by with_reducible assumption) ?_) | (simp; done) | (simp; omega) | omega))
end Go.Proofs.Ythpomgkeoogamaa
