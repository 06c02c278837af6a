/- The example of chapter 45: true -/
import Derived.Test.YtjcnheakjgmidaaProg
import Derived.WalkKit
import Derived.WalkLawsBesides
import Derived.Lib.Hide
import Derived.Deep.RegionWith
import Derived.Deep.RegionHeld3
import Derived.Handy
import Derived.Test.YtjcnheakjgmidaaKit4
import Derived.Test.YtjcnheakjgmidaaRmpDur
namespace Go.Proofs.Ytjcnheakjgmidaa
open Go.RowKit

attribute [local go_sem] cell_past1 cell_past2 cell_past3 cell_past4 froz_past1 froz_past2 froz_past3

theorem ex45_n : ddaDom 4 0 0 0 = 4 := by decide
theorem ex45_v : blkValid 4 0 0 0 50 0 150 0 = true := by decide
theorem ex45_N : blkN 4 0 0 0 50 0 150 0 = 4 := by unfold blkN; rw [ex45_v, ex45_n]; rfl
theorem ex45_i100 : ivl 100 1000 = 100 := by unfold ivl; rw [show Int.toNat 100 = 100 from rfl, ← isq_unique (N := 100) (r := 10) (by decide) (by decide) (by decide)]; decide
theorem ex45_i150 : ivl 150 1000 = 84 := by unfold ivl; rw [show Int.toNat 150 = 150 from rfl, ← isq_unique (N := 150) (r := 12) (by decide) (by decide) (by decide)]; decide
theorem ex45_dur : durN (blkValid 4 0 0 0 50 0 150 0) (ddaDom 4 0 0 0) 50 0 150 0 1000 = 368 := by
  rw [ex45_n, ex45_v]
  unfold durN
  rw [if_pos (by decide), show (4 : Int).toNat = 4 from rfl]
  simp only [durS]
  rw [show sqI 4 50 0 150 0 (((0 : Nat) : Int) + 1) = 100 from by decide, show sqI 4 50 0 150 0 (((1 : Nat) : Int) + 1) = 150 from by decide, show sqI 4 50 0 150 0 (((2 : Nat) : Int) + 1) = 150 from by decide, show sqI 4 50 0 150 0 (((3 : Nat) : Int) + 1) = 100 from by decide, ex45_i100, ex45_i150]
  decide
theorem ex45_durE : durE (blkValid 4 0 0 0 50 0 150 0) (ddaDom 4 0 0 0) 1000 = 0 := by
  rw [ex45_n, ex45_v]; decide
theorem ex45_s1 : sqV (blkN 4 0 0 0 50 0 150 0) 50 0 150 0 1 = 100 := by rw [ex45_N]; decide
theorem ex45_s2 : sqV (blkN 4 0 0 0 50 0 150 0) 50 0 150 0 2 = 150 := by rw [ex45_N]; decide
theorem ex45_iv : ivV (sqV (blkN 4 0 0 0 50 0 150 0) 50 0 150 0 2) 1000 = 84 := by rw [ex45_s2]; unfold ivV; rw [if_neg (by decide), ex45_i150]

set_option maxRecDepth 100000 in
set_option maxHeartbeats 4000000 in
theorem law45_awake (w : World) : Calls Try.prog 27 #[] w fun e w' => e = .returned (.bool true) ∧ Below w.heap.size w w' := by
  go_enter Try.func27, Try.ntmps27
  go_wp2_with (first | (go_at_call 31; refine (ramp_duration _ _ _ _ _ _ _ _ _ _).mono ?_; rw [ex45_dur, ex45_durE]; rintro e w1 ⟨rfl, hb1⟩; have z1 := hb1.size; (try simp at z1); have L1a := live_below hb1 (b := w.heap.size) (by (repeat (first | with_reducible assumption | ((with_reducible apply live_new) <;> (first | with_reducible rfl | (focus (simp; done)))) | with_reducible apply live_alloc | with_reducible apply live_drew | with_reducible apply live_drewN | ((with_reducible apply live_set_other); (case hb => first | omega | (simp; done))) | with_reducible apply live_set_same | (focus (simp; done))))); obtain ⟨p1a, e1a, f1a⟩ := id L1a) | (go_at_call 28; refine (ramp_interval _ _ _ _ _ _ _ _ _ _ _).mono ?_; rw [ex45_iv]; rintro e w4 ⟨rfl, hb4⟩; have z4 := hb4.size; (try simp at z4); have L4a := live_below hb4 (b := w.heap.size) (by (repeat (first | with_reducible assumption | ((with_reducible apply live_new) <;> (first | with_reducible rfl | (focus (simp; done)))) | with_reducible apply live_alloc | with_reducible apply live_drew | with_reducible apply live_drewN | ((with_reducible apply live_set_other); (case hb => first | omega | (simp; done))) | with_reducible apply live_set_same | (focus (simp; done))))); obtain ⟨p4a, e4a, f4a⟩ := id L4a) | (go_at_call 25; refine (ramp_square _ _ _ _ _ _ _ _ _ _).mono ?_; (first | rw [ex45_s1] | rw [ex45_s2]); rintro e w2 ⟨rfl, hb2⟩; have z2 := hb2.size; (try simp at z2); have L2a := live_below hb2 (b := w.heap.size) (by (repeat (first | with_reducible assumption | ((with_reducible apply live_new) <;> (first | with_reducible rfl | (focus (simp; done)))) | with_reducible apply live_alloc | with_reducible apply live_drew | with_reducible apply live_drewN | ((with_reducible apply live_set_other); (case hb => first | omega | (simp; done))) | with_reducible apply live_set_same | (focus (simp; done))))); obtain ⟨p2a, e2a, f2a⟩ := id L2a))
  all_goals go_ret
  all_goals refine ⟨rfl, ?_⟩
  all_goals (repeat' (first | with_reducible exact Below.refl _ _ | with_reducible refine Below.drew ?_ | with_reducible refine below_drewN ?_ _ | with_reducible refine Below.alloc ?_ ?_ _ | with_reducible refine Below.setCell ?_ ?_ _ | with_reducible refine Below.trans ?_ (Below.mono (by with_reducible assumption) ?_) | (simp; done) | (simp; omega) | omega))
end Go.Proofs.Ytjcnheakjgmidaa
