/- What works and add of the laws of chapter 46 return: the example of the chapter is reproduced -/
import Derived.Test.YtleohgnnbpicjaaProg
import Derived.WalkKit
import Derived.WalkLawsBesides
import Derived.RegionTactic
import Derived.Deep.RegionWith
import Derived.Deep.RegionHeld3
import Derived.Deep.DeepCutAuto
import Derived.IntWalk
import Derived.Deep.DrawnRows
import Derived.BigRegion
import Derived.Handy
import Derived.Outline
import Derived.Lib.Hide
import Derived.Test.YtleohgnnbpicjaaKit5
import Derived.Test.YtleohgnnbpicjaaBlkEq
import Derived.Test.YtleohgnnbpicjaaPulTick
import Derived.Test.YtleohgnnbpicjaaPulMade
import Derived.Test.YtleohgnnbpicjaaPulStart
namespace Go.Proofs.Ytleohgnnbpicjaa
open Go.RowKit
set_option linter.unusedVariables false

attribute [local go_sem] cell_past1 cell_past2 cell_past3 cell_past4 froz_past1 froz_past2 froz_past3
attribute [local go_sem ↓] Go.wp_at_zero Go.wp_at_succ

set_option maxRecDepth 100000 in
theorem law46_block (w : World) : Calls Try.prog 50 #[] w fun e w' => e = .returned (.agg #[.int .i64 2, .int .i64 1, .int .i64 0, .int .i64 0, .int .i64 50, .int .i64 0, .int .i64 100, .int .i64 0]) ∧ Below w.heap.size w w' := by
  go_enter Try.func50, Try.ntmps50
  go_wp2
  refine bodyPost_ret (v := .agg #[.int .i64 2, .int .i64 1, .int .i64 0, .int .i64 0, .int .i64 50, .int .i64 0, .int .i64 100, .int .i64 0]) (by simp [results, Try.results50, go_sem]) rfl ⟨rfl, ?_⟩
  (repeat' (first | with_reducible exact Below.refl _ _ | with_reducible refine Below.drew ?_ | with_reducible refine below_drewN ?_ _ | with_reducible refine Below.alloc ?_ ?_ _ | with_reducible refine Below.setCell ?_ ?_ _ | with_reducible refine Below.trans ?_ (Below.mono (by with_reducible assumption) ?_) | (simp; done) | (simp; omega) | omega))

def exDn (k : Nat) : Int := if k < 10 then 0 else if k < 20 then 1 else 2
def exWt (k : Nat) : Int := if k < 10 then 10 - k else if k < 20 then 20 - k else 0

theorem ex46_v : blkValid 2 1 0 0 50 0 100 0 = true := by decide
theorem ex46_N : blkN 2 1 0 0 50 0 100 0 = 2 := by unfold blkN; rw [ex46_v]; decide
theorem ex46_D : ddaDom 2 1 0 0 = 2 := by decide
theorem ex46_W1 : plW 2 50 0 100 0 1 100 = 10 := by
  unfold plW; rw [show sqV 2 50 0 100 0 1 = 100 from by decide]; unfold ivV ivl
  rw [if_neg (by decide), show Int.toNat 100 = 100 from rfl, ← isq_unique (N := 100) (r := 10) (by decide) (by decide) (by decide)]; decide
theorem ex46_W2 : plW 2 50 0 100 0 2 100 = 10 := by
  unfold plW; rw [show sqV 2 50 0 100 0 2 = 100 from by decide]; unfold ivV ivl
  rw [if_neg (by decide), show Int.toNat 100 = 100 from rfl, ← isq_unique (N := 100) (r := 10) (by decide) (by decide) (by decide)]; decide

theorem ex46_on (k : Nat) (h : k < 20) : plOn 2 50 0 100 0 (exDn k) (exWt k) 100 = true := by
  unfold plOn exDn exWt
  by_cases h1 : k < 10
  · rw [if_pos h1, if_pos h1, show (0 : Int) + 1 = 1 from rfl, ex46_W1]; simp; omega
  · rw [if_neg h1, if_neg h1, if_pos h, if_pos h, show (1 : Int) + 1 = 2 from rfl, ex46_W2]; simp; omega
theorem ex46_next (k : Nat) (h : k < 20) : tkDn 2 50 0 100 0 (exDn k) (exWt k) 100 = exDn (k + 1) ∧ tkWt 2 50 0 100 0 (exDn k) (exWt k) 100 = exWt (k + 1) := by
  have h1 := ex46_on k h
  unfold tkDn tkWt
  rw [h1]
  rcases (by omega : k < 9 ∨ k = 9 ∨ (10 ≤ k ∧ k < 19) ∨ k = 19) with h | rfl | ⟨h, h'⟩ | rfl
  · have e : exWt k = 10 - k := by unfold exWt; rw [if_pos (by omega)]
    have e2 : exWt (k + 1) = 10 - k - 1 := by unfold exWt; rw [if_pos (by omega)]; omega
    have e3 : exDn k = 0 := by unfold exDn; rw [if_pos (by omega)]
    have e4 : exDn (k + 1) = 0 := by unfold exDn; rw [if_pos (by omega)]
    rw [e, e2, e3, e4, if_neg (by omega), if_pos rfl, if_pos (by omega)]
    exact ⟨rfl, rfl⟩
  · have e5 : plNext 2 50 0 100 0 1 100 = 10 := by unfold plNext; rw [if_neg (by decide)]; exact ex46_W2
    rw [show exWt 9 = 1 from by decide, show exDn 9 = 0 from by decide, show exWt (9 + 1) = 10 from by decide, show exDn (9 + 1) = 1 from by decide, if_pos (by decide), if_pos rfl, if_neg (by decide), show (0 : Int) + 1 = 1 from rfl, e5]
    exact ⟨rfl, rfl⟩
  · have e : exWt k = 20 - k := by unfold exWt; rw [if_neg (by omega), if_pos (by omega)]
    have e2 : exWt (k + 1) = 20 - k - 1 := by unfold exWt; rw [if_neg (by omega), if_pos (by omega)]; omega
    have e3 : exDn k = 1 := by unfold exDn; rw [if_neg (by omega), if_pos (by omega)]
    have e4 : exDn (k + 1) = 1 := by unfold exDn; rw [if_neg (by omega), if_pos (by omega)]
    rw [e, e2, e3, e4, if_neg (by omega), if_pos rfl, if_pos (by omega)]
    exact ⟨rfl, rfl⟩
  · have e5 : plNext 2 50 0 100 0 2 100 = 0 := by unfold plNext; rw [if_pos rfl]
    rw [show exWt 19 = 1 from by decide, show exDn 19 = 1 from by decide, show exWt (19 + 1) = 0 from by decide, show exDn (19 + 1) = 2 from by decide, if_pos (by decide), if_pos rfl, if_neg (by decide), show (1 : Int) + 1 = 2 from rfl, e5]
    exact ⟨rfl, rfl⟩
def exPu (k : Nat) (x : Int) : Int := if k = 9 then puM 2 1 x else if k = 19 then puM 2 2 x else 0
theorem ex46_pu (k : Nat) (h : k < 20) (x : Int) : tkPu 2 50 0 100 0 (exDn k) (exWt k) 100 x = exPu k x := by
  have h1 := ex46_on k h
  unfold tkPu exPu
  rw [h1]
  rcases (by omega : (k < 9 ∨ (10 ≤ k ∧ k < 19)) ∨ k = 9 ∨ k = 19) with h | rfl | rfl
  · rw [if_neg, if_neg (by omega), if_neg (by omega)]
    intro h2
    have := h2.2
    unfold exWt at this
    rcases h with h | ⟨h, h'⟩
    · rw [if_pos (by omega)] at this; omega
    · rw [if_neg (by omega), if_pos (by omega)] at this; omega
  · rw [if_pos (by decide), if_pos rfl]; rfl
  · rw [if_pos (by decide), if_neg (by decide), if_pos rfl]; rfl

def WorkRel (M0 : Nat) (w : World) (s3 : Value) (wr : World) : Prop :=
  ∃ k : Nat, s3 = .int .i64 ((k : Int) + 1) ∧ k ≤ 20 ∧ Live wr M0 #[.int .i64 2, .int .i64 1, .int .i64 0, .int .i64 0, .int .i64 50, .int .i64 0, .int .i64 100, .int .i64 0, .int .i64 (exDn k), .int .i64 (exWt k)] ∧ Below w.heap.size w wr

set_option maxRecDepth 100000 in
set_option maxHeartbeats 8000000 in
theorem law46_works (w : World) : Calls Try.prog 26 #[] w fun e w' => e = .returned (.bool true) ∧ Below w.heap.size w w' := by
  have hst := fun w => pulse_start_ok 2 1 0 0 50 0 100 0 100 w ex46_v (by decide)
  simp only [ex46_N, ex46_W1] at hst
  have HST := Lib.hid hst
  clear hst
  have hq : ∀ (x y z u : Int) (w : World), (binOp .neq 22 (.agg #[.int .i64 x, .int .i64 y, .int .i64 z, .int .i64 u]) (.agg #[.int .i64 x, .int .i64 y, .int .i64 z, .int .i64 u])).run Try.prog w = .ok (.bool false) w := fun x y z u w => by
    rw [arr_neq]; simp [same4]
  have hq2 : ∀ (x y z u : Int) (w : World), (binOp .eql 22 (.agg #[.int .i64 x, .int .i64 y, .int .i64 z, .int .i64 u]) (.agg #[.int .i64 x, .int .i64 y, .int .i64 z, .int .i64 u])).run Try.prog w = .ok (.bool true) w := fun x y z u w => by
    rw [arr_eql]; simp [same4]
  have hm := @mot_neq
  have hfd : ∀ w, (Instr.field 24 (.agg #[.int .i64 2, .int .i64 1, .int .i64 0, .int .i64 0, .int .i64 50, .int .i64 0, .int .i64 100, .int .i64 0]) 0).run Try.prog w = .ok (.agg #[.int .i64 2, .int .i64 1, .int .i64 0, .int .i64 0]) w := fun _ => by kernel_rfl
  go_enter Try.func26, Try.ntmps26
  go_wp2_with (first | (go_at_call 50; refine (law46_block _).mono ?_; rintro e w1 ⟨rfl, hb1⟩; have z1 := hb1.size; (try simp at z1)) | (go_at_call 25; refine (HST.out _).mono ?_; rintro e w2 ⟨rfl, hb2⟩; have z2 := hb2.size; (try simp at z2)))
  go_region_held3 (fun w' => w'.cell? ⟨w2.heap.size, 0, none⟩ = some (.int .i64 2) ∧ w'.cell? ⟨w2.heap.size, 1, none⟩ = some (.int .i64 1) ∧ w'.cell? ⟨w2.heap.size, 2, none⟩ = some (.int .i64 0) ∧ w'.cell? ⟨w2.heap.size, 3, none⟩ = some (.int .i64 0) ∧ w'.cell? ⟨w2.heap.size, 4, none⟩ = some (.int .i64 50) ∧ w'.cell? ⟨w2.heap.size, 5, none⟩ = some (.int .i64 0) ∧ w'.cell? ⟨w2.heap.size, 6, none⟩ = some (.int .i64 100) ∧ w'.cell? ⟨w2.heap.size, 7, none⟩ = some (.int .i64 0) ∧ w'.cell? ⟨w2.heap.size, 8, none⟩ = some (.int .i64 0) ∧ w'.cell? ⟨w2.heap.size, 9, none⟩ = some (.int .i64 10)) (first | (focus ((with_reducible apply live_ten); (repeat (first | with_reducible assumption | ((with_reducible apply live_new) <;> (first | with_reducible rfl | (focus (simp; done)))) | with_reducible apply live_alloc | with_reducible apply live_drew | with_reducible apply live_drewN | ((with_reducible apply live_set_other); (case hb => first | omega | (simp; done))) | with_reducible apply live_set_same | (focus (simp; done)))); done)) | go_keep)
    ((go_at_call 50; refine (law46_block _).mono ?_; rintro e w3 ⟨rfl, hb3⟩; have z3 := hb3.size; (try simp at z3); have L3a := live_below hb3 (b := w2.heap.size) (by (repeat (first | with_reducible assumption | ((with_reducible apply live_new) <;> (first | with_reducible rfl | (focus (simp; done)))) | with_reducible apply live_alloc | with_reducible apply live_drew | with_reducible apply live_drewN | ((with_reducible apply live_set_other); (case hb => first | omega | (simp; done))) | with_reducible apply live_set_same | (focus (simp; done))))); obtain ⟨p3a, e3a, f3a⟩ := id L3a))
  go_wp2_with fail
  go_loopw [3] (WorkRel w2.heap.size w) (fun i _ => (21 - intOf i).toNat)
  case atStart => exact ⟨0, rfl, by omega, by rw [show exDn 0 = 0 from by decide, show exWt 0 = 10 from by decide]; exact L3a, by (repeat' (first | with_reducible exact Below.refl _ _ | with_reducible refine Below.drew ?_ | with_reducible refine below_drewN ?_ _ | with_reducible refine Below.alloc ?_ ?_ _ | with_reducible refine Below.setCell ?_ ?_ _ | with_reducible refine Below.trans ?_ (Below.mono (by with_reducible assumption) ?_) | (simp; done) | (simp; omega) | omega))⟩
  case round =>
    obtain ⟨k, rfl, hk, L0, hb0⟩ := hrel
    obtain ⟨p0, e0, f0⟩ := id L0
    by_cases hlt : k < 20
    · have HN : Hid (tkDn (blkN 2 1 0 0 50 0 100 0) 50 0 100 0 (exDn k) (exWt k) 100 = exDn (k + 1) ∧ tkWt (blkN 2 1 0 0 50 0 100 0) 50 0 100 0 (exDn k) (exWt k) 100 = exWt (k + 1)) := Lib.hid (by rw [ex46_N]; exact ex46_next k hlt)
      have HP : Hid (∀ x, tkPu (blkN 2 1 0 0 50 0 100 0) 50 0 100 0 (exDn k) (exWt k) 100 x = exPu k x) := Lib.hid (fun x => by rw [ex46_N]; exact ex46_pu k hlt x)
      generalize hU : exDn k = U at *
      generalize hV : exWt k = V at *
      generalize hX : exDn (k + 1) = X at *
      generalize hY : exWt (k + 1) = Y at *
      have HX := Lib.hid hX
      have HY := Lib.hid hY
      clear hU hV hX hY
      rcases (by omega : k = 9 ∨ k = 19 ∨ (k ≠ 9 ∧ k ≠ 19)) with rfl | rfl | ⟨h1, h2⟩
      · have HQ : Hid (∀ x, exPu 9 x = puM 2 1 x) := Lib.hid (fun x => rfl)
        go_wp2_with (go_at_call 30; refine (pulse_tick _ _ _ _ _ _ _ _ _ _ _ _).mono ?_; rw [HN.out.1, HN.out.2, HP.out, HP.out, HP.out, HQ.out, HQ.out, HQ.out, show puM 2 1 2 = 1 from by decide, show puM 2 1 1 = 1 from by decide, show puM 2 1 0 = 0 from by decide]; rintro e w5 ⟨rfl, hb5⟩; have z5 := hb5.size; (try simp at z5); have L5a := live_below hb5 (b := w2.heap.size) (by (repeat (first | with_reducible assumption | ((with_reducible apply live_new) <;> (first | with_reducible rfl | (focus (simp; done)))) | with_reducible apply live_alloc | with_reducible apply live_drew | with_reducible apply live_drewN | ((with_reducible apply live_set_other); (case hb => first | omega | (simp; done))) | with_reducible apply live_set_same | (focus (simp; done))))); obtain ⟨p5a, e5a, f5a⟩ := id L5a)
        go_roundw
        case rel => exact ⟨9 + 1, by go_num, by omega, by rw [show exDn (9 + 1) = X from HX.out, show exWt (9 + 1) = Y from HY.out]; (repeat (first | with_reducible assumption | ((with_reducible apply live_new) <;> (first | with_reducible rfl | (focus (simp; done)))) | with_reducible apply live_alloc | with_reducible apply live_drew | with_reducible apply live_drewN | with_reducible apply live_put10 | with_reducible apply live_put8 | with_reducible apply live_put4 | ((with_reducible apply live_put10_other); (case hb => first | omega | (simp; done))) | ((with_reducible apply live_put8_other); (case hb => first | omega | (simp; done))) | ((with_reducible apply live_put4_other); (case hb => first | omega | (simp; done))) | ((with_reducible apply live_set_other); (case hb => first | omega | (simp; done))) | (focus (simp; done)))), by refine Below.trans hb0 ?_; (repeat' (first | with_reducible exact Below.refl _ _ | with_reducible refine Below.drew ?_ | with_reducible refine below_drewN ?_ _ | with_reducible refine Below.alloc ?_ ?_ _ | with_reducible refine Below.setCell ?_ ?_ _ | with_reducible refine Below.trans ?_ (Below.mono (by with_reducible assumption) ?_) | (simp; done) | (simp; omega) | omega))⟩
        case measure => first | (simp [intOf]; done) | (simp [intOf]; omega)
      · have HQ : Hid (∀ x, exPu 19 x = puM 2 2 x) := Lib.hid (fun x => rfl)
        go_wp2_with (go_at_call 30; refine (pulse_tick _ _ _ _ _ _ _ _ _ _ _ _).mono ?_; rw [HN.out.1, HN.out.2, HP.out, HP.out, HP.out, HQ.out, HQ.out, HQ.out, show puM 2 2 2 = 1 from by decide, show puM 2 2 1 = 0 from by decide, show puM 2 2 0 = 0 from by decide]; rintro e w5 ⟨rfl, hb5⟩; have z5 := hb5.size; (try simp at z5); have L5a := live_below hb5 (b := w2.heap.size) (by (repeat (first | with_reducible assumption | ((with_reducible apply live_new) <;> (first | with_reducible rfl | (focus (simp; done)))) | with_reducible apply live_alloc | with_reducible apply live_drew | with_reducible apply live_drewN | ((with_reducible apply live_set_other); (case hb => first | omega | (simp; done))) | with_reducible apply live_set_same | (focus (simp; done))))); obtain ⟨p5a, e5a, f5a⟩ := id L5a)
        go_roundw
        case rel => exact ⟨19 + 1, by go_num, by omega, by rw [show exDn (19 + 1) = X from HX.out, show exWt (19 + 1) = Y from HY.out]; (repeat (first | with_reducible assumption | ((with_reducible apply live_new) <;> (first | with_reducible rfl | (focus (simp; done)))) | with_reducible apply live_alloc | with_reducible apply live_drew | with_reducible apply live_drewN | with_reducible apply live_put10 | with_reducible apply live_put8 | with_reducible apply live_put4 | ((with_reducible apply live_put10_other); (case hb => first | omega | (simp; done))) | ((with_reducible apply live_put8_other); (case hb => first | omega | (simp; done))) | ((with_reducible apply live_put4_other); (case hb => first | omega | (simp; done))) | ((with_reducible apply live_set_other); (case hb => first | omega | (simp; done))) | (focus (simp; done)))), by refine Below.trans hb0 ?_; (repeat' (first | with_reducible exact Below.refl _ _ | with_reducible refine Below.drew ?_ | with_reducible refine below_drewN ?_ _ | with_reducible refine Below.alloc ?_ ?_ _ | with_reducible refine Below.setCell ?_ ?_ _ | with_reducible refine Below.trans ?_ (Below.mono (by with_reducible assumption) ?_) | (simp; done) | (simp; omega) | omega))⟩
        case measure => first | (simp [intOf]; done) | (simp [intOf]; omega)
      · have HQ : Hid (∀ x, exPu k x = 0) := Lib.hid (fun x => by unfold exPu; rw [if_neg h1, if_neg h2])
        have k1 : (((k : Int) + 1) == 10) = false := beq_eq_false_iff_ne.2 (by omega)
        have k2 : (((k : Int) + 1) == 20) = false := beq_eq_false_iff_ne.2 (by omega)
        go_wp2_with (go_at_call 30; refine (pulse_tick _ _ _ _ _ _ _ _ _ _ _ _).mono ?_; rw [HN.out.1, HN.out.2, HP.out, HP.out, HP.out, HQ.out, HQ.out, HQ.out]; rintro e w5 ⟨rfl, hb5⟩; have z5 := hb5.size; (try simp at z5); have L5a := live_below hb5 (b := w2.heap.size) (by (repeat (first | with_reducible assumption | ((with_reducible apply live_new) <;> (first | with_reducible rfl | (focus (simp; done)))) | with_reducible apply live_alloc | with_reducible apply live_drew | with_reducible apply live_drewN | ((with_reducible apply live_set_other); (case hb => first | omega | (simp; done))) | with_reducible apply live_set_same | (focus (simp; done))))); obtain ⟨p5a, e5a, f5a⟩ := id L5a)
        go_roundw
        case rel => exact ⟨k + 1, by go_num, by omega, by rw [show exDn (k + 1) = X from HX.out, show exWt (k + 1) = Y from HY.out]; (repeat (first | with_reducible assumption | ((with_reducible apply live_new) <;> (first | with_reducible rfl | (focus (simp; done)))) | with_reducible apply live_alloc | with_reducible apply live_drew | with_reducible apply live_drewN | with_reducible apply live_put10 | with_reducible apply live_put8 | with_reducible apply live_put4 | ((with_reducible apply live_put10_other); (case hb => first | omega | (simp; done))) | ((with_reducible apply live_put8_other); (case hb => first | omega | (simp; done))) | ((with_reducible apply live_put4_other); (case hb => first | omega | (simp; done))) | ((with_reducible apply live_set_other); (case hb => first | omega | (simp; done))) | (focus (simp; done)))), by refine Below.trans hb0 ?_; (repeat' (first | with_reducible exact Below.refl _ _ | with_reducible refine Below.drew ?_ | with_reducible refine below_drewN ?_ _ | with_reducible refine Below.alloc ?_ ?_ _ | with_reducible refine Below.setCell ?_ ?_ _ | with_reducible refine Below.trans ?_ (Below.mono (by with_reducible assumption) ?_) | (simp; done) | (simp; omega) | omega))⟩
        case measure => first | (simp [intOf]; done) | (simp [intOf]; omega)
    · obtain rfl : k = 20 := by omega
      rw [show exDn 20 = 2 from by decide, show exWt 20 = 0 from by decide] at *
      have HE : Hid (enB (blkN 2 1 0 0 50 0 100 0) 2 = true) := Lib.hid (by rw [ex46_N]; decide)
      have HM : Hid (∀ x, mdV (blkN 2 1 0 0 50 0 100 0) 2 x = mdV 2 2 x) := Lib.hid (fun x => by rw [ex46_N])
      go_wp2_with (first | (go_at_call 28; refine (pulse_ended _ _ _ _ _ _ _ _ _ _ _).mono ?_; rw [HE.out]; rintro e w6 ⟨rfl, hb6⟩; have z6 := hb6.size; (try simp at z6); have L6a := live_below hb6 (b := w2.heap.size) (by (repeat (first | with_reducible assumption | ((with_reducible apply live_new) <;> (first | with_reducible rfl | (focus (simp; done)))) | with_reducible apply live_alloc | with_reducible apply live_drew | with_reducible apply live_drewN | ((with_reducible apply live_set_other); (case hb => first | omega | (simp; done))) | with_reducible apply live_set_same | (focus (simp; done))))); obtain ⟨p6a, e6a, f6a⟩ := id L6a) | (go_at_call 32; refine (pulse_made _ _ _ _ _ _ _ _ _ _ _).mono ?_; rw [HM.out, HM.out, HM.out, show mdV 2 2 2 = 2 from by decide, show mdV 2 2 1 = 1 from by decide, show mdV 2 2 0 = 0 from by decide]; rintro e w7 ⟨rfl, hb7⟩; have z7 := hb7.size; (try simp at z7); have L7a := live_below hb7 (b := w2.heap.size) (by (repeat (first | with_reducible assumption | ((with_reducible apply live_new) <;> (first | with_reducible rfl | (focus (simp; done)))) | with_reducible apply live_alloc | with_reducible apply live_drew | with_reducible apply live_drewN | ((with_reducible apply live_set_other); (case hb => first | omega | (simp; done))) | with_reducible apply live_set_same | (focus (simp; done))))); obtain ⟨p7a, e7a, f7a⟩ := id L7a) | (go_at_call 50; refine (law46_block _).mono ?_; rintro e w8 ⟨rfl, hb8⟩; have z8 := hb8.size; (try simp at z8)))
      all_goals go_ret
      all_goals refine ⟨rfl, ?_⟩
      all_goals refine Below.trans hb0 ?_
      all_goals (repeat' (first | with_reducible exact Below.refl _ _ | with_reducible refine Below.drew ?_ | with_reducible refine below_drewN ?_ _ | with_reducible refine Below.alloc ?_ ?_ _ | with_reducible refine Below.setCell ?_ ?_ _ | with_reducible refine Below.trans ?_ (Below.mono (by with_reducible assumption) ?_) | (simp; done) | (simp; omega) | omega))

set_option maxRecDepth 100000 in
set_option maxHeartbeats 8000000 in
theorem law46_add (a b c d p q r s : Int) (w : World) (h0 : -1099511627776 ≤ a ∧ a ≤ 1099511627776) (h1 : -1099511627776 ≤ b ∧ b ≤ 1099511627776) (h2 : -1099511627776 ≤ c ∧ c ≤ 1099511627776) (h3 : -1099511627776 ≤ d ∧ d ≤ 1099511627776)
    (k0 : -1099511627776 ≤ p ∧ p ≤ 1099511627776) (k1 : -1099511627776 ≤ q ∧ q ≤ 1099511627776) (k2 : -1099511627776 ≤ r ∧ r ≤ 1099511627776) (k3 : -1099511627776 ≤ s ∧ s ≤ 1099511627776) :
    Calls Try.prog 31 #[.agg #[.int .i64 a, .int .i64 b, .int .i64 c, .int .i64 d], .agg #[.int .i64 p, .int .i64 q, .int .i64 r, .int .i64 s]] w fun e w' => e = .returned (.agg #[.int .i64 (a + p), .int .i64 (b + q), .int .i64 (c + r), .int .i64 (d + s)]) ∧ Below w.heap.size w w' := by
  obtain ⟨h00, h01⟩ := h0
  obtain ⟨h10, h11⟩ := h1
  obtain ⟨h20, h21⟩ := h2
  obtain ⟨h30, h31⟩ := h3
  obtain ⟨k00, k01⟩ := k0
  obtain ⟨k10, k11⟩ := k1
  obtain ⟨k20, k21⟩ := k2
  obtain ⟨k30, k31⟩ := k3
  have s0 : IntKind.i64.wrap (a + p) = a + p := IntWalk.i64_in _ (by omega)
  have s1 : IntKind.i64.wrap (b + q) = b + q := IntWalk.i64_in _ (by omega)
  have s2 : IntKind.i64.wrap (c + r) = c + r := IntWalk.i64_in _ (by omega)
  have s3 : IntKind.i64.wrap (d + s) = d + s := IntWalk.i64_in _ (by omega)
  go_enter Try.func31, Try.ntmps31
  go_wp2
  refine wp_loop_rounds 5 ?_
  iterate 4
    rw [rounds_succ]
    go_wp2
    go_region
    go_wp2
  rw [rounds_succ]
  go_wp2
  refine bodyPost_ret (v := .agg #[.int .i64 (a + p), .int .i64 (b + q), .int .i64 (c + r), .int .i64 (d + s)]) (by simp [results, Try.results31, go_sem]) rfl ⟨rfl, ?_⟩
  (repeat' (first | with_reducible exact Below.refl _ _ | with_reducible refine Below.drew ?_ | with_reducible refine below_drewN ?_ _ | with_reducible refine Below.alloc ?_ ?_ _ | with_reducible refine Below.setCell ?_ ?_ _ | with_reducible refine Below.trans ?_ (Below.mono (by with_reducible assumption) ?_) | (simp; done) | (simp; omega) | omega))
end Go.Proofs.Ytleohgnnbpicjaa
