/- moved of the laws of the top returns true -/
import Derived.Outline
import Derived.Handy
import Derived.Lib.Hide
import Derived.Deep.RegionWith
import Derived.Deep.RegionHeld3
import Derived.Deep.DeepCutAuto
import Derived.RegionTactic
import Derived.BigRegion
import Derived.BigQuiet
import Derived.Test.YtkiadcgdmeebmaaTopPlan
import Derived.Test.YtkiadcgdmeebmaaPulStart
import Derived.Test.YtkiadcgdmeebmaaRmpSquare
namespace Go.Proofs.Ytkiadcgdmeebmaa
open Go.RowKit
set_option linter.unusedVariables false

attribute [local go_sem] cell_past1 cell_past2 cell_past3 cell_past4 froz_past1 froz_past2 froz_past3
attribute [local go_sem ↓] loadB_in

def exP (k o : Nat) : Int := if k = 0 then (if o = 0 then 2 else 0) else if k = 1 then (if o = 0 then 4 else if o = 1 then 1 else 0) else 0
theorem ex_valid : kinValid axF 100 = true := by decide
theorem ex_slow : Slow axF := fun k hk => by
  rcases (by omega : k = 0 ∨ k = 1 ∨ k = 2 ∨ k = 3) with rfl | rfl | rfl | rfl <;> decide
theorem ex_near : Near exP 2 := ⟨by omega, fun k hk o ho => by
  rcases (by omega : k = 0 ∨ k = 1) with rfl | rfl <;> rcases (by omega : o = 0 ∨ o = 1 ∨ o = 2) with rfl | rfl | rfl <;> decide⟩
theorem ex_N : wN axF false 100 exP 2 = 2 := by decide
theorem ex_at : wAt axF false 100 exP 2 0 = 4 ∧ wAt axF false 100 exP 2 1 = 1 ∧ wAt axF false 100 exP 2 2 = 0 ∧ wAt axF false 100 exP 2 3 = 1 := by decide
def exH : Nat → Nat → Int := plnG (wG axF false 100 0 exP 2) (wZ axF false 100 0 exP 2) 0 2 2
theorem ex_E : plnE (wG axF false 100 0 exP 2) (wZ axF false 100 0 exP 2) 0 2 2 = 0 := by decide
def exB : Array Value := #[.int .i64 2, .int .i64 0, .int .i64 0, .int .i64 0, .int .i64 50, .int .i64 0, .int .i64 1000000, .int .i64 200]
theorem ex_b0 : blkA exH 0 = exB := by kernel_rfl
theorem ex_b1 : exH 1 5 = 200 ∧ exH 1 7 = 0 ∧ exH 0 7 = 200 := by decide
theorem ex_val : blkValid 2 0 0 0 50 0 1000000 200 = true := by decide
theorem ex_blkN : blkN 2 0 0 0 50 0 1000000 200 = 2 := by decide
theorem ex_sq : sqV 2 50 0 1000000 200 1 = 100 := by decide
theorem ex_pl : plW 2 50 0 1000000 200 1 100 = 10 := by
  have e : isq 100 = 10 := by
    obtain ⟨h0, h1⟩ := isq_spec 100 (by omega)
    generalize isq 100 = v at *
    have g1 : v < 11 := Nat.lt_of_not_le fun g => by have := Nat.mul_le_mul g g; omega
    have g2 : 10 ≤ v := Nat.le_of_not_lt fun g => by have := Nat.mul_le_mul (show v + 1 ≤ 10 by omega) (show v + 1 ≤ 10 by omega); omega
    omega
  unfold plW
  rw [ex_sq]
  unfold ivV ivl
  rw [show (100 : Int).toNat = 100 from rfl, e]
  decide
/-- What planned returns of the example's way. -/
def ExPost (w : World) (e : Ending) (w' : World) : Prop :=
  ∃ b off cap : Nat, e = .returned (.tuple #[.slice (some ⟨b, off, none⟩) 2 cap, .agg #[.int .i64 4, .int .i64 1, .int .i64 0, .int .i64 1], .bool true]) ∧ b < w'.heap.size ∧ BlkS w' (some ⟨b, off, none⟩) 2 exH ∧ Below w.heap.size w w'
theorem ex_post {w w' : World} {e : Ending} (h : PlanPost axF false 100 0 exP 2 w e w') : ExPost w e w' := by
  obtain ⟨a, k, cap, he, hk, _, _, hB, hb⟩ := h
  obtain ⟨a0, a1, a2, a3⟩ := ex_at
  rw [ex_N, ex_E, a0, a1, a2, a3] at he
  rw [ex_N, ex_E, if_pos rfl] at hk
  rw [ex_N] at hB
  subst hk
  obtain ⟨b, off, rfl, hlt, _⟩ := hB (by omega)
  exact ⟨b, off, cap, he, hlt, hB, hb⟩
theorem vecS_six {w : World} {b : Nat} (L : Live w b #[.int .i64 2, .int .i64 0, .int .i64 0, .int .i64 4, .int .i64 1, .int .i64 0]) : VecS w (some ⟨b, 0, none⟩) 2 exP := fun _ =>
  ⟨b, 0, rfl, L.1, fun k hk o ho => by
    rw [L.2.1]
    rcases (by omega : k = 0 ∨ k = 1) with rfl | rfl <;> rcases (by omega : o = 0 ∨ o = 1 ∨ o = 2) with rfl | rfl | rfl <;> rfl⟩

set_option maxRecDepth 100000 in
set_option maxHeartbeats 8000000 in
theorem top_moved (w : World) : Calls Try.prog 7 #[] w fun e w' => e = .returned (.bool true) ∧ Below w.heap.size w w' := by
  have KS := Lib.hid top_simple
  have KP : Hid (∀ b w, VecS w (some ⟨b, 0, none⟩) 2 exP → Calls Try.prog 8 #[.agg (mach axF false 100), .slice (some ⟨b, 0, none⟩) 2 2, .int .i64 0] w (ExPost w)) :=
    Lib.hid (fun b w hl => (top_planned axF false 100 0 exP (some ⟨b, 0, none⟩) 2 2 w ex_valid ex_slow ex_near (by omega) hl).mono (fun e w' h => ex_post h))
  have KST : Hid (∀ w, Calls Try.prog 12 #[.agg exB, .int .i64 100] w (StRes 2 0 0 0 50 0 1000000 200 0 10 0 w)) := Lib.hid (fun w => by
    have h := pulse_start_ok 2 0 0 0 50 0 1000000 200 100 w ex_val (by decide)
    rw [ex_blkN, ex_pl] at h
    exact h)
  have KSQ : Hid (∀ w, Calls Try.prog 10 #[.agg exB, .int .i64 1] w fun e w' => e = .returned (.int .i64 100) ∧ Below w.heap.size w w') := Lib.hid (fun w => by
    have h := ramp_square 2 0 0 0 50 0 1000000 200 1 w
    rw [ex_blkN, ex_sq] at h
    exact h)
  have hq : ∀ (x y z u : Int) (w : World), (binOp .neq 32 (.agg #[.int .i64 x, .int .i64 y, .int .i64 z, .int .i64 u]) (.agg #[.int .i64 x, .int .i64 y, .int .i64 z, .int .i64 u])).run Try.prog w = .ok (.bool false) w := fun x y z u w => by
    rw [arr_neq]; simp [same4]
  go_enter Try.func7, Try.ntmps7
  go_upto_region 2 with (first | (go_at_call 16; (with_reducible refine (KS.out _).mono ?_); rintro e w1 ⟨rfl, hb1⟩; have z1 := hb1.size; (try simp at z1)) | (go_at_call 8; (with_reducible refine (KP.out _ _ ?_).mono ?_); (· refine vecS_six ?_; (repeat (first | with_reducible assumption | ((with_reducible apply live_new) <;> (first | with_reducible rfl | (focus (simp; done)))) | with_reducible apply live_alloc | with_reducible apply live_drew | with_reducible apply live_drewN | ((with_reducible apply live_set_other); (case hb => first | omega | (simp; done))) | with_reducible apply live_set_same | (focus (simp; done))))); rintro e w2 ⟨b, off, cap, rfl, hlt, hB, hb2⟩; have z2 := hb2.size; (try simp at z2); have HB := Lib.hid hB; clear hB))
  refine gen_world (fun wx => ∃ AT, AT = w2.heap.size ∧ Live wx AT #[.int .i64 4, .int .i64 1, .int .i64 0, .int .i64 1] ∧ BlkS wx (some ⟨b, off, none⟩) 2 exH ∧ b < AT ∧ Below w.heap.size w wx) ?_ ?_
  · exact ⟨_, rfl, by (repeat (first | with_reducible assumption | ((with_reducible apply live_new) <;> (first | with_reducible rfl | (focus (simp; done)))) | with_reducible apply live_alloc | with_reducible apply live_drew | with_reducible apply live_drewN | with_reducible apply live_put10 | with_reducible apply live_put8 | with_reducible apply live_put4 | ((with_reducible apply live_put10_other); (case hb => first | omega | (simp; done))) | ((with_reducible apply live_put8_other); (case hb => first | omega | (simp; done))) | ((with_reducible apply live_put4_other); (case hb => first | omega | (simp; done))) | ((with_reducible apply live_set_other); (case hb => first | omega | (simp; done))) | (focus (simp; done)))), blkS_below (B := w2.heap.size) (by (repeat' (first | with_reducible exact Below.refl _ _ | with_reducible refine Below.drew ?_ | with_reducible refine below_drewN ?_ _ | with_reducible refine Below.alloc ?_ ?_ _ | with_reducible refine Below.setCell ?_ ?_ _ | with_reducible refine Below.trans ?_ (Below.mono (by with_reducible assumption) ?_) | (simp; done) | (simp; omega) | omega))) (Nat.le_refl _) HB.out, hlt, by (repeat' (first | with_reducible exact Below.refl _ _ | with_reducible refine Below.drew ?_ | with_reducible refine below_drewN ?_ _ | with_reducible refine Below.alloc ?_ ?_ _ | with_reducible refine Below.setCell ?_ ?_ _ | with_reducible refine Below.trans ?_ (Below.mono (by with_reducible assumption) ?_) | (simp; done) | (simp; omega) | omega))⟩
  clear HB hlt hb2 z2 hb1 z1
  rintro wx ⟨AT, hAT, L, hB, hlt, hb⟩
  rw [← hAT]
  clear hAT
  have hbs := hb.size
  have p0 := L.1
  have HB := Lib.hid hB
  have c0 := blkS_cell hB 0 7 (by omega) (by omega)
  have c1 := blkS_cell hB 1 5 (by omega) (by omega)
  have c2 := blkS_cell hB 1 7 (by omega) (by omega)
  obtain ⟨x1, x2, x3⟩ := ex_b1
  rw [x1] at c1
  rw [x2] at c2
  rw [x3] at c0
  simp only [Nat.zero_mul, Nat.one_mul, Nat.add_zero] at c0 c1 c2
  clear x1 x2 x3 hB
  obtain ⟨q0, q1, q2, q3⟩ := live_four L
  go_region_held3 (fun w' => w'.cell? ⟨AT, 0, none⟩ = some (.int .i64 4) ∧ w'.cell? ⟨AT, 1, none⟩ = some (.int .i64 1) ∧ w'.cell? ⟨AT, 2, none⟩ = some (.int .i64 0) ∧ w'.cell? ⟨AT, 3, none⟩ = some (.int .i64 1) ∧ w'.cell? ⟨b, off + 7, none⟩ = some (.int .i64 200) ∧ w'.cell? ⟨b, off + 8 + 5, none⟩ = some (.int .i64 200) ∧ w'.cell? ⟨b, off + 8 + 7, none⟩ = some (.int .i64 0)) (go_keep) (fail)
  rename_i hh; clear hh
  refine gen_world (fun wx => BlkS wx (some ⟨b, off, none⟩) 2 exH ∧ Below w.heap.size w wx) ⟨blkS_below (B := wx.heap.size) (by (repeat' (first | with_reducible exact Below.refl _ _ | with_reducible refine Below.drew ?_ | with_reducible refine below_drewN ?_ _ | with_reducible refine Below.alloc ?_ ?_ _ | with_reducible refine Below.setCell ?_ ?_ _ | with_reducible refine Below.trans ?_ (Below.mono (by with_reducible assumption) ?_) | (simp; done) | (simp; omega) | omega))) (Nat.le_refl _) HB.out, by (repeat' (first | with_reducible exact Below.refl _ _ | with_reducible refine Below.drew ?_ | with_reducible refine below_drewN ?_ _ | with_reducible refine Below.alloc ?_ ?_ _ | with_reducible refine Below.setCell ?_ ?_ _ | with_reducible refine Below.trans ?_ (Below.mono (by with_reducible assumption) ?_) | (simp; done) | (simp; omega) | omega))⟩ ?_
  clear HB hb c0 c1 c2 q0 q1 q2 q3 L p0 hbs hlt
  rintro wx ⟨hB, hb⟩
  have hbs := hb.size
  have HB := Lib.hid hB
  have hlt : b < wx.heap.size := by obtain ⟨b1, o1, e1, h1, _⟩ := hB (by omega); cases e1; exact h1
  clear hB
  have lb := loadB_run (k := 0) (blkS_rng HB.out 0 (by omega))
  rw [ex_b0] at lb
  simp only [Nat.zero_mul, Nat.add_zero] at lb
  go_upto_region 5 with (go_at_call 12; (with_reducible refine (KST.out _).mono ?_); rintro e w3 ⟨rfl, hb3⟩; have z3 := hb3.size; (try simp at z3))
  refine gen_world (fun wx => ∃ M, M = w3.heap.size ∧ Live wx M #[.int .i64 2, .int .i64 0, .int .i64 0, .int .i64 0, .int .i64 50, .int .i64 0, .int .i64 1000000, .int .i64 200, .int .i64 0, .int .i64 10] ∧ BlkS wx (some ⟨b, off, none⟩) 2 exH ∧ Below w.heap.size w wx) ?_ ?_
  · exact ⟨_, rfl, by (repeat (first | with_reducible assumption | ((with_reducible apply live_new) <;> (first | with_reducible rfl | (focus (simp; done)))) | with_reducible apply live_alloc | with_reducible apply live_drew | with_reducible apply live_drewN | with_reducible apply live_put10 | with_reducible apply live_put8 | with_reducible apply live_put4 | ((with_reducible apply live_put10_other); (case hb => first | omega | (simp; done))) | ((with_reducible apply live_put8_other); (case hb => first | omega | (simp; done))) | ((with_reducible apply live_put4_other); (case hb => first | omega | (simp; done))) | ((with_reducible apply live_set_other); (case hb => first | omega | (simp; done))) | (focus (simp; done)))), blkS_below (B := wx.heap.size) (by (repeat' (first | with_reducible exact Below.refl _ _ | with_reducible refine Below.drew ?_ | with_reducible refine below_drewN ?_ _ | with_reducible refine Below.alloc ?_ ?_ _ | with_reducible refine Below.setCell ?_ ?_ _ | with_reducible refine Below.trans ?_ (Below.mono (by with_reducible assumption) ?_) | (simp; done) | (simp; omega) | omega))) (Nat.le_refl _) HB.out, by (repeat' (first | with_reducible exact Below.refl _ _ | with_reducible refine Below.drew ?_ | with_reducible refine below_drewN ?_ _ | with_reducible refine Below.alloc ?_ ?_ _ | with_reducible refine Below.setCell ?_ ?_ _ | with_reducible refine Below.trans ?_ (Below.mono (by with_reducible assumption) ?_) | (simp; done) | (simp; omega) | omega))⟩
  clear HB hb lb hb3 z3
  rintro wy ⟨M, hM, LM, hB, hb⟩
  have hbs2 := hb.size
  rw [← hM]
  clear hM
  have lb := loadB_run (k := 0) (blkS_rng hB 0 (by omega))
  rw [ex_b0] at lb
  simp only [Nat.zero_mul, Nat.add_zero] at lb
  have m9 := LM.2.1 9
  simp at m9
  clear hB
  go_wp2_with (go_at_call 10; (with_reducible refine (KSQ.out _).mono ?_); rintro e w4 ⟨rfl, hb4⟩; have z4 := hb4.size; (try simp at z4))
  go_ret
  refine ⟨rfl, ?_⟩
  (repeat' (first | with_reducible exact Below.refl _ _ | with_reducible refine Below.drew ?_ | with_reducible refine below_drewN ?_ _ | with_reducible refine Below.alloc ?_ ?_ _ | with_reducible refine Below.setCell ?_ ?_ _ | with_reducible refine Below.trans ?_ (Below.mono (by with_reducible assumption) ?_) | (simp; done) | (simp; omega) | omega))
end Go.Proofs.Ytkiadcgdmeebmaa
