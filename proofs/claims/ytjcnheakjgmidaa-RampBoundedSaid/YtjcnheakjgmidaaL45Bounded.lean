/- RampBounded: the squares of the steps of a block of at most 300 steps lie from 1 to Cruise, and differ by at most 2 * Accel from step to step and from Entry and Exit, where the block can change its speed so far -/
import Derived.Deep.RegionWith
import Derived.Deep.RegionHeld3
import Derived.Handy
import Derived.Test.YtjcnheakjgmidaaBase
import Derived.Test.YtjcnheakjgmidaaKit4
import Derived.Test.YtjcnheakjgmidaaL45Awake
import Derived.Test.YtjcnheakjgmidaaRmpSteps
import Derived.Test.YtjcnheakjgmidaaRmpPlain
namespace Go.Proofs.Ytjcnheakjgmidaa.rampBounded
open Go.ChangeShapes Go.WideShapes Go.ChangeAt Go.RowKit
set_option linter.unusedVariables false

attribute [local go_sem] cell_past1 cell_past2 cell_past3 cell_past4 froz_past1 froz_past2 froz_past3

def Rel (n ac en cr ex : Int) (B : Nat) (c : Array Value) (w : World) (s5 s6 : Value) (wr : World) : Prop :=
  ∃ i : Int, s6 = .int .i64 i ∧ 1 ≤ i ∧ i ≤ n + 1 ∧ s5 = .int .i64 (lastI n ac en cr ex i) ∧ Live wr B c ∧ Below B w wr

set_option maxRecDepth 100000 in
set_option maxHeartbeats 4000000 in
theorem few (a b c d ac en cr ex : Int) (w : World) (h : blkN a b c d ac en cr ex < 1 ∨ 300 < blkN a b c d ac en cr ex) :
    Calls Try.prog 12 #[.agg #[.int .i64 a, .int .i64 b, .int .i64 c, .int .i64 d, .int .i64 ac, .int .i64 en, .int .i64 cr, .int .i64 ex]] w fun e w' => e = .returned (.bool true) ∧ Below w.heap.size w w' := by
  generalize hn : blkN a b c d ac en cr ex = n at *
  have HN := Lib.hid hn
  clear hn
  rcases (by omega : n < 1 ∨ (1 ≤ n ∧ 300 < n)) with h | ⟨h1, h⟩
  all_goals
    go_enter Try.func12, Try.ntmps12
    go_wp2_with (first | (go_at_call 30; refine (law45_steps _ _ _ _ _ _ _ _ _).mono ?_; rw [HN.out]; rintro e w1 ⟨rfl, hb1⟩; have z1 := hb1.size; (try simp at z1); have L1a := live_below hb1 (b := w.heap.size) (by (repeat (first | with_reducible assumption | ((with_reducible apply live_new) <;> (first | with_reducible rfl | (focus (simp; done)))) | with_reducible apply live_alloc | with_reducible apply live_drew | with_reducible apply live_drewN | ((with_reducible apply live_set_other); (case hb => first | omega | (simp; done))) | with_reducible apply live_set_same | (focus (simp; done))))); obtain ⟨p1a, e1a, f1a⟩ := id L1a) | (go_at_call 27; refine (law45_awake _).mono ?_; rintro e w9 ⟨rfl, hb9⟩; have z9 := hb9.size; (try simp at z9); have L9a := live_below hb9 (b := w.heap.size) (by (repeat (first | with_reducible assumption | ((with_reducible apply live_new) <;> (first | with_reducible rfl | (focus (simp; done)))) | with_reducible apply live_alloc | with_reducible apply live_drew | with_reducible apply live_drewN | ((with_reducible apply live_set_other); (case hb => first | omega | (simp; done))) | with_reducible apply live_set_same | (focus (simp; done))))); obtain ⟨p9a, e9a, f9a⟩ := id L9a))
  all_goals go_ret
  all_goals refine ⟨rfl, ?_⟩
  all_goals (repeat' (first | with_reducible exact Below.refl _ _ | with_reducible refine Below.drew ?_ | with_reducible refine below_drewN ?_ _ | with_reducible refine Below.alloc ?_ ?_ _ | with_reducible refine Below.setCell ?_ ?_ _ | with_reducible refine Below.trans ?_ (Below.mono (by with_reducible assumption) ?_) | (simp; done) | (simp; omega) | omega))

set_option maxRecDepth 100000 in
set_option maxHeartbeats 8000000 in
theorem near (a b c d ac en cr ex n : Int) (w : World) (hB : blkN a b c d ac en cr ex = n) (n0 : 1 ≤ n) (n1 : n ≤ 300) (a0 : 1 ≤ ac) (a1 : ac ≤ 16777216) (c0 : 1 ≤ cr) (c1 : cr ≤ 1099511627776) (e0' : 0 ≤ en) (e1' : en ≤ cr) (x0 : 0 ≤ ex) (x1 : ex ≤ cr)
    (hf1 : ex - en ≤ 2 * ac * n) (hf2 : en - ex ≤ 2 * ac * n) :
    Calls Try.prog 12 #[.agg #[.int .i64 a, .int .i64 b, .int .i64 c, .int .i64 d, .int .i64 ac, .int .i64 en, .int .i64 cr, .int .i64 ex]] w fun e w' => e = .returned (.bool true) ∧ Below w.heap.size w w' := by
  have m1 := sq_mul ac n (by omega) a1 (by omega) (by omega)
  have H0 : Hid (sqV (blkN a b c d ac en cr ex) ac en cr ex 0 = 0) := by show _ = _; unfold sqV; rw [if_pos (by omega)]
  have H1 : Hid (sqV (blkN a b c d ac en cr ex) ac en cr ex (n + 1) = 0) := by show _ = _; rw [hB]; unfold sqV; rw [if_pos (by omega)]
  have hl := sqI_last n ac en cr ex a0 x1 hf1
  have hlr := sqI_in n ac en cr ex n a0 a1 c0 c1 e0' x0 (by omega) n0 (by omega)
  generalize hL : sqI n ac en cr ex n = L at *
  have HL : Hid (lastI n ac en cr ex (n + 1) = L) := by show _ = _; rw [lastI_next n ac en cr ex n n0, hL]
  have H1' : Hid (lastI n ac en cr ex 1 = en) := by show _ = _; unfold lastI; rw [if_pos rfl]
  have HB := Lib.hid hB
  clear hB hL
  go_enter Try.func12, Try.ntmps12
  go_wp2_with (go_at_call 30; refine (law45_steps _ _ _ _ _ _ _ _ _).mono ?_; rw [HB.out]; rintro e w1 ⟨rfl, hb1⟩; have z1 := hb1.size; (try simp at z1); have L1a := live_below hb1 (b := w.heap.size) (by (repeat (first | with_reducible assumption | ((with_reducible apply live_new) <;> (first | with_reducible rfl | (focus (simp; done)))) | with_reducible apply live_alloc | with_reducible apply live_drew | with_reducible apply live_drewN | ((with_reducible apply live_set_other); (case hb => first | omega | (simp; done))) | with_reducible apply live_set_same | (focus (simp; done))))); obtain ⟨p1a, e1a, f1a⟩ := id L1a)
  go_loopw [5, 6] (Rel n ac en cr ex w.heap.size #[.int .i64 a, .int .i64 b, .int .i64 c, .int .i64 d, .int .i64 ac, .int .i64 en, .int .i64 cr, .int .i64 ex] w) (fun _ i _ => (n + 1 - intOf i).toNat)
  case atStart => exact ⟨1, rfl, by omega, by omega, by rw [H1'.out], by (repeat (first | with_reducible assumption | ((with_reducible apply live_new) <;> (first | with_reducible rfl | (focus (simp; done)))) | with_reducible apply live_alloc | with_reducible apply live_drew | with_reducible apply live_drewN | ((with_reducible apply live_set_other); (case hb => first | omega | (simp; done))) | with_reducible apply live_set_same | (focus (simp; done)))), by (repeat' (first | with_reducible exact Below.refl _ _ | with_reducible refine Below.drew ?_ | with_reducible refine below_drewN ?_ _ | with_reducible refine Below.alloc ?_ ?_ _ | with_reducible refine Below.setCell ?_ ?_ _ | with_reducible refine Below.trans ?_ (Below.mono (by with_reducible assumption) ?_) | (simp; done) | (simp; omega) | omega))⟩
  case round =>
    obtain ⟨i, rfl, i0, i1, rfl, L0, hb0⟩ := hrel
    obtain ⟨p0, e0, f0⟩ := id L0
    by_cases hlt : i ≤ n
    · have hq := sqI_in n ac en cr ex i a0 a1 c0 c1 e0' x0 (by omega) i0 hlt
      have hg := lastI_gap n ac en cr ex i a0 e1' (Or.inl hf2)
      have HQ : Hid (sqV (blkN a b c d ac en cr ex) ac en cr ex i = sqI n ac en cr ex i) := by show _ = _; rw [HB.out]; unfold sqV; rw [if_neg (by omega)]
      have HX : Hid (lastI n ac en cr ex (i + 1) = sqI n ac en cr ex i) := Lib.hid (lastI_next n ac en cr ex i i0)
      generalize sqI n ac en cr ex i = Q at *
      generalize lastI n ac en cr ex i = U at *
      obtain ⟨q0, q1⟩ := hq
      obtain ⟨g0, g1⟩ := hg
      have u0 : -33554432 ≤ U := by omega
      have u1 : U ≤ 1099545182208 := by omega
      go_wp2_with (go_at_call 25; refine (ramp_square _ _ _ _ _ _ _ _ _ _).mono ?_; rw [HQ.out]; rintro e w2 ⟨rfl, hb2⟩; have z2 := hb2.size; (try simp at z2); have L2a := live_below hb2 (b := w.heap.size) (by (repeat (first | with_reducible assumption | ((with_reducible apply live_new) <;> (first | with_reducible rfl | (focus (simp; done)))) | with_reducible apply live_alloc | with_reducible apply live_drew | with_reducible apply live_drewN | ((with_reducible apply live_set_other); (case hb => first | omega | (simp; done))) | with_reducible apply live_set_same | (focus (simp; done))))); obtain ⟨p2a, e2a, f2a⟩ := id L2a)
      go_roundw
      case rel => exact ⟨i + 1, rfl, by omega, by omega, by rw [HX.out], by (repeat (first | with_reducible assumption | ((with_reducible apply live_new) <;> (first | with_reducible rfl | (focus (simp; done)))) | with_reducible apply live_alloc | with_reducible apply live_drew | with_reducible apply live_drewN | ((with_reducible apply live_set_other); (case hb => first | omega | (simp; done))) | with_reducible apply live_set_same | (focus (simp; done)))), by refine Below.trans hb0 ?_; (repeat' (first | with_reducible exact Below.refl _ _ | with_reducible refine Below.drew ?_ | with_reducible refine below_drewN ?_ _ | with_reducible refine Below.alloc ?_ ?_ _ | with_reducible refine Below.setCell ?_ ?_ _ | with_reducible refine Below.trans ?_ (Below.mono (by with_reducible assumption) ?_) | (simp; done) | (simp; omega) | omega))⟩
      case measure => simp [intOf]; omega
    · obtain rfl : i = n + 1 := by omega
      rw [HL.out]
      go_wp2_with (first | (go_at_call 25; refine (ramp_square _ _ _ _ _ _ _ _ _ _).mono ?_; (first | rw [H0.out] | rw [H1.out]); rintro e w3 ⟨rfl, hb3⟩; have z3 := hb3.size; (try simp at z3); have L3a := live_below hb3 (b := w.heap.size) (by (repeat (first | with_reducible assumption | ((with_reducible apply live_new) <;> (first | with_reducible rfl | (focus (simp; done)))) | with_reducible apply live_alloc | with_reducible apply live_drew | with_reducible apply live_drewN | ((with_reducible apply live_set_other); (case hb => first | omega | (simp; done))) | with_reducible apply live_set_same | (focus (simp; done))))); obtain ⟨p3a, e3a, f3a⟩ := id L3a) | (go_at_call 27; refine (law45_awake _).mono ?_; rintro e w9 ⟨rfl, hb9⟩; have z9 := hb9.size; (try simp at z9); have L9a := live_below hb9 (b := w.heap.size) (by (repeat (first | with_reducible assumption | ((with_reducible apply live_new) <;> (first | with_reducible rfl | (focus (simp; done)))) | with_reducible apply live_alloc | with_reducible apply live_drew | with_reducible apply live_drewN | ((with_reducible apply live_set_other); (case hb => first | omega | (simp; done))) | with_reducible apply live_set_same | (focus (simp; done))))); obtain ⟨p9a, e9a, f9a⟩ := id L9a))
      all_goals go_ret
      all_goals refine ⟨rfl, ?_⟩
      all_goals refine Below.trans hb0 ?_
      all_goals (repeat' (first | with_reducible exact Below.refl _ _ | with_reducible refine Below.drew ?_ | with_reducible refine below_drewN ?_ _ | with_reducible refine Below.alloc ?_ ?_ _ | with_reducible refine Below.setCell ?_ ?_ _ | with_reducible refine Below.trans ?_ (Below.mono (by with_reducible assumption) ?_) | (simp; done) | (simp; omega) | omega))

set_option maxRecDepth 100000 in
set_option maxHeartbeats 8000000 in
theorem far (a b c d ac en cr ex n : Int) (w : World) (hB : blkN a b c d ac en cr ex = n) (n0 : 1 ≤ n) (n1 : n ≤ 300) (a0 : 1 ≤ ac) (a1 : ac ≤ 16777216) (c0 : 1 ≤ cr) (c1 : cr ≤ 1099511627776) (e0' : 0 ≤ en) (e1' : en ≤ cr) (x0 : 0 ≤ ex) (x1 : ex ≤ cr)
    (hf : 2 * ac * n < ex - en ∨ 2 * ac * n < en - ex) :
    Calls Try.prog 12 #[.agg #[.int .i64 a, .int .i64 b, .int .i64 c, .int .i64 d, .int .i64 ac, .int .i64 en, .int .i64 cr, .int .i64 ex]] w fun e w' => e = .returned (.bool true) ∧ Below w.heap.size w w' := by
  have m1 := sq_mul ac n (by omega) a1 (by omega) (by omega)
  have H0 : Hid (sqV (blkN a b c d ac en cr ex) ac en cr ex 0 = 0) := by show _ = _; unfold sqV; rw [if_pos (by omega)]
  have H1 : Hid (sqV (blkN a b c d ac en cr ex) ac en cr ex (n + 1) = 0) := by show _ = _; rw [hB]; unfold sqV; rw [if_pos (by omega)]
  have H1' : Hid (lastI n ac en cr ex 1 = en) := by show _ = _; unfold lastI; rw [if_pos rfl]
  have HB := Lib.hid hB
  clear hB
  rcases (by omega : 2 * ac * n < ex - en ∨ (ex - en ≤ 2 * ac * n ∧ 2 * ac * n < en - ex)) with hf | ⟨hf0, hf⟩
  all_goals
    go_enter Try.func12, Try.ntmps12
    go_wp2_with (go_at_call 30; refine (law45_steps _ _ _ _ _ _ _ _ _).mono ?_; rw [HB.out]; rintro e w1 ⟨rfl, hb1⟩; have z1 := hb1.size; (try simp at z1); have L1a := live_below hb1 (b := w.heap.size) (by (repeat (first | with_reducible assumption | ((with_reducible apply live_new) <;> (first | with_reducible rfl | (focus (simp; done)))) | with_reducible apply live_alloc | with_reducible apply live_drew | with_reducible apply live_drewN | ((with_reducible apply live_set_other); (case hb => first | omega | (simp; done))) | with_reducible apply live_set_same | (focus (simp; done))))); obtain ⟨p1a, e1a, f1a⟩ := id L1a)
    go_loopw [5, 6] (Rel n ac en cr ex w.heap.size #[.int .i64 a, .int .i64 b, .int .i64 c, .int .i64 d, .int .i64 ac, .int .i64 en, .int .i64 cr, .int .i64 ex] w) (fun _ i _ => (n + 1 - intOf i).toNat)
    case atStart => exact ⟨1, rfl, by omega, by omega, by rw [H1'.out], by (repeat (first | with_reducible assumption | ((with_reducible apply live_new) <;> (first | with_reducible rfl | (focus (simp; done)))) | with_reducible apply live_alloc | with_reducible apply live_drew | with_reducible apply live_drewN | ((with_reducible apply live_set_other); (case hb => first | omega | (simp; done))) | with_reducible apply live_set_same | (focus (simp; done)))), by (repeat' (first | with_reducible exact Below.refl _ _ | with_reducible refine Below.drew ?_ | with_reducible refine below_drewN ?_ _ | with_reducible refine Below.alloc ?_ ?_ _ | with_reducible refine Below.setCell ?_ ?_ _ | with_reducible refine Below.trans ?_ (Below.mono (by with_reducible assumption) ?_) | (simp; done) | (simp; omega) | omega))⟩
    case round =>
      obtain ⟨i, rfl, i0, i1, rfl, L0, hb0⟩ := hrel
      obtain ⟨p0, e0, f0⟩ := id L0
      by_cases hlt : i ≤ n
      · have hq := sqI_in n ac en cr ex i a0 a1 c0 c1 e0' x0 (by omega) i0 hlt
        have HQ : Hid (sqV (blkN a b c d ac en cr ex) ac en cr ex i = sqI n ac en cr ex i) := by show _ = _; rw [HB.out]; unfold sqV; rw [if_neg (by omega)]
        have HX : Hid (lastI n ac en cr ex (i + 1) = sqI n ac en cr ex i) := Lib.hid (lastI_next n ac en cr ex i i0)
        by_cases h1 : i = 1
        · subst h1
          generalize sqI n ac en cr ex 1 = Q at *
          obtain ⟨q0, q1⟩ := hq
          rw [H1'.out]
          go_wp2_with (go_at_call 25; refine (ramp_square _ _ _ _ _ _ _ _ _ _).mono ?_; rw [HQ.out]; rintro e w2 ⟨rfl, hb2⟩; have z2 := hb2.size; (try simp at z2); have L2a := live_below hb2 (b := w.heap.size) (by (repeat (first | with_reducible assumption | ((with_reducible apply live_new) <;> (first | with_reducible rfl | (focus (simp; done)))) | with_reducible apply live_alloc | with_reducible apply live_drew | with_reducible apply live_drewN | ((with_reducible apply live_set_other); (case hb => first | omega | (simp; done))) | with_reducible apply live_set_same | (focus (simp; done))))); obtain ⟨p2a, e2a, f2a⟩ := id L2a)
          go_roundw
          case rel => exact ⟨2, rfl, by omega, by omega, by rw [← HX.out]; rfl, by (repeat (first | with_reducible assumption | ((with_reducible apply live_new) <;> (first | with_reducible rfl | (focus (simp; done)))) | with_reducible apply live_alloc | with_reducible apply live_drew | with_reducible apply live_drewN | ((with_reducible apply live_set_other); (case hb => first | omega | (simp; done))) | with_reducible apply live_set_same | (focus (simp; done)))), by refine Below.trans hb0 ?_; (repeat' (first | with_reducible exact Below.refl _ _ | with_reducible refine Below.drew ?_ | with_reducible refine below_drewN ?_ _ | with_reducible refine Below.alloc ?_ ?_ _ | with_reducible refine Below.setCell ?_ ?_ _ | with_reducible refine Below.trans ?_ (Below.mono (by with_reducible assumption) ?_) | (simp; done) | (simp; omega) | omega))⟩
          case measure => simp [intOf]; omega
        · have hg := lastI_gap n ac en cr ex i a0 e1' (Or.inr h1)
          have hi1 : (i == 1) = false := beq_eq_false_iff_ne.2 h1
          generalize sqI n ac en cr ex i = Q at *
          generalize lastI n ac en cr ex i = U at *
          obtain ⟨q0, q1⟩ := hq
          obtain ⟨g0, g1⟩ := hg
          have u0 : -33554432 ≤ U := by omega
          have u1 : U ≤ 1099545182208 := by omega
          clear h1
          go_wp2_with (go_at_call 25; refine (ramp_square _ _ _ _ _ _ _ _ _ _).mono ?_; rw [HQ.out]; rintro e w2 ⟨rfl, hb2⟩; have z2 := hb2.size; (try simp at z2); have L2a := live_below hb2 (b := w.heap.size) (by (repeat (first | with_reducible assumption | ((with_reducible apply live_new) <;> (first | with_reducible rfl | (focus (simp; done)))) | with_reducible apply live_alloc | with_reducible apply live_drew | with_reducible apply live_drewN | ((with_reducible apply live_set_other); (case hb => first | omega | (simp; done))) | with_reducible apply live_set_same | (focus (simp; done))))); obtain ⟨p2a, e2a, f2a⟩ := id L2a)
          go_roundw
          case rel => exact ⟨i + 1, rfl, by omega, by omega, by rw [HX.out], by (repeat (first | with_reducible assumption | ((with_reducible apply live_new) <;> (first | with_reducible rfl | (focus (simp; done)))) | with_reducible apply live_alloc | with_reducible apply live_drew | with_reducible apply live_drewN | ((with_reducible apply live_set_other); (case hb => first | omega | (simp; done))) | with_reducible apply live_set_same | (focus (simp; done)))), by refine Below.trans hb0 ?_; (repeat' (first | with_reducible exact Below.refl _ _ | with_reducible refine Below.drew ?_ | with_reducible refine below_drewN ?_ _ | with_reducible refine Below.alloc ?_ ?_ _ | with_reducible refine Below.setCell ?_ ?_ _ | with_reducible refine Below.trans ?_ (Below.mono (by with_reducible assumption) ?_) | (simp; done) | (simp; omega) | omega))⟩
          case measure => simp [intOf]; omega
      · obtain rfl : i = n + 1 := by omega
        generalize lastI n ac en cr ex (n + 1) = L
        go_wp2_with (first | (go_at_call 25; refine (ramp_square _ _ _ _ _ _ _ _ _ _).mono ?_; (first | rw [H0.out] | rw [H1.out]); rintro e w3 ⟨rfl, hb3⟩; have z3 := hb3.size; (try simp at z3); have L3a := live_below hb3 (b := w.heap.size) (by (repeat (first | with_reducible assumption | ((with_reducible apply live_new) <;> (first | with_reducible rfl | (focus (simp; done)))) | with_reducible apply live_alloc | with_reducible apply live_drew | with_reducible apply live_drewN | ((with_reducible apply live_set_other); (case hb => first | omega | (simp; done))) | with_reducible apply live_set_same | (focus (simp; done))))); obtain ⟨p3a, e3a, f3a⟩ := id L3a) | (go_at_call 27; refine (law45_awake _).mono ?_; rintro e w9 ⟨rfl, hb9⟩; have z9 := hb9.size; (try simp at z9); have L9a := live_below hb9 (b := w.heap.size) (by (repeat (first | with_reducible assumption | ((with_reducible apply live_new) <;> (first | with_reducible rfl | (focus (simp; done)))) | with_reducible apply live_alloc | with_reducible apply live_drew | with_reducible apply live_drewN | ((with_reducible apply live_set_other); (case hb => first | omega | (simp; done))) | with_reducible apply live_set_same | (focus (simp; done))))); obtain ⟨p9a, e9a, f9a⟩ := id L9a))
        all_goals go_ret
        all_goals refine ⟨rfl, ?_⟩
        all_goals refine Below.trans hb0 ?_
        all_goals (repeat' (first | with_reducible exact Below.refl _ _ | with_reducible refine Below.drew ?_ | with_reducible refine below_drewN ?_ _ | with_reducible refine Below.alloc ?_ ?_ _ | with_reducible refine Below.setCell ?_ ?_ _ | with_reducible refine Below.trans ?_ (Below.mono (by with_reducible assumption) ?_) | (simp; done) | (simp; omega) | omega))

theorem walk (a b c d ac en cr ex : Int) (w : World) :
    Calls Try.prog 12 #[.agg #[.int .i64 a, .int .i64 b, .int .i64 c, .int .i64 d, .int .i64 ac, .int .i64 en, .int .i64 cr, .int .i64 ex]] w fun e w' => e = .returned (.bool true) ∧ Below w.heap.size w w' := by
  by_cases h : blkN a b c d ac en cr ex < 1 ∨ 300 < blkN a b c d ac en cr ex
  · exact few a b c d ac en cr ex w h
  · have hv : blkValid a b c d ac en cr ex = true := by
      cases hv : blkValid a b c d ac en cr ex
      · have : blkN a b c d ac en cr ex = 0 := by unfold blkN; simp [hv]
        omega
      · rfl
    have hb := hv
    simp [blkValid, blkSound] at hb
    obtain ⟨⟨hdv, a0, a1, c0, c1⟩, e0', e1', x0, x1⟩ := hb
    by_cases hf : 2 * ac * blkN a b c d ac en cr ex < ex - en ∨ 2 * ac * blkN a b c d ac en cr ex < en - ex
    · exact far a b c d ac en cr ex _ w rfl (by omega) (by omega) a0 a1 c0 c1 e0' e1' x0 x1 hf
    · exact near a b c d ac en cr ex _ w rfl (by omega) (by omega) a0 a1 c0 c1 e0' e1' x0 x1 (by omega) (by omega)

set_option maxRecDepth 100000 in
theorem lifted (os : Os) (started : os.Started) (H : Type) (enc : TypeId × Value → H) :
    ReturnsInHanded {} Try.checked os 12 .any (Rows.rampBoundedSpec.pre6 enc Try.prog Try.f12 Rows.rampBoundedRow.domain false) (Rows.rampBoundedSpec.post enc Try.prog Try.f12 false true false false) := by
  refine returnsInHanded_of_change (C := Try.checked) own started (by kernel_rfl) Try.func12
    (ChangeSpec.witness6 (enc := enc) (C := Try.checked) false ⟨#[], #[.agg #[.int .i64 0, .int .i64 0, .int .i64 0, .int .i64 0, .int .i64 0, .int .i64 0, .int .i64 0, .int .i64 0]], []⟩ 8 (by kernel_rfl) (by kernel_rfl) (by kernel_rfl) (by kernel_rfl)) ?_
  intro W base args ds gs before hval0 hW _ _
  have hval : ∀ (j : Nat) t v, Try.f12.params[j]? = some t → args[j]? = some v → Value.okWide Try.prog W .any base t v := hval0
  have hW' := hW
  obtain ⟨p, q, hA0, hV, rfl, _, _⟩ := hW
  have hA : DataW.TrodAll enc Try.prog W 0 (fun _ => true) true Try.f12.params.toList args.toList ds p := hA0
  rw [Try.params12] at hA hval
  obtain ⟨v0, d0, rfl, rfl, h0⟩ := trodAll_one hA
  clear hA hA0 hval0
  obtain ⟨f0, bf0, rfl⟩ := flat_ints (n := 8) (u := 3) (by kernel_rfl) (by kernel_rfl) (by kernel_rfl) Try.underlying3 (hval 0 30 v0 rfl rfl)
  exact (walk (f0 0) (f0 1) (f0 2) (f0 3) (f0 4) (f0 5) (f0 6) (f0 7) W).mono fun e W' ⟨he, hb⟩ => ⟨_, he, law_post laidOut (by kernel_rfl) rfl (fun _ => rfl) rfl Try.underlying4 hW' hb⟩

theorem holds : Rows.RampBoundedSaid :=
  OpenClaim.holds_of_wide 12 Try.f12 rfl rfl rfl rfl rfl rfl rfl ⟨rfl, rfl, rfl, rfl, rfl⟩ rfl rfl rfl rfl rfl (by kernel_rfl) Try.func12 (by kernel_rfl)
    (of_decide_eq_true (by kernel_rfl)) (by unfold Func.isWrapper; rw [if_neg (of_decide_eq_false (by kernel_rfl))]; exact ⟨rfl, rfl⟩)
    (fun os started H enc _ => lifted os started H enc)

#print axioms holds
end Go.Proofs.Ytjcnheakjgmidaa.rampBounded
