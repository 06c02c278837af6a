/- What Ended and Made return, in the program and in the reference, for all motions -/
import Derived.Test.YtleohgnnbpicjaaProg
import Derived.WalkKit
import Derived.WalkLawsBesides
import Derived.RegionTactic
import Derived.Deep.RegionWith
import Derived.Deep.RegionHeld3
import Derived.IntWalk
import Derived.Deep.DeepCutAuto
import Derived.Deep.DrawnRows
import Derived.BigRegion
import Derived.Lib.Hide
import Derived.Test.YtleohgnnbpicjaaKit5
import Derived.Test.YtleohgnnbpicjaaDdaAt
import Derived.Test.YtleohgnnbpicjaaPulBase
namespace Go.Proofs.Ytleohgnnbpicjaa
open Go.RowKit
set_option linter.unusedVariables false

attribute [local go_sem] cell_past1 cell_past2 cell_past3 cell_past4 froz_past1 froz_past2 froz_past3
attribute [local go_sem ↓] Go.wp_at_zero Go.wp_at_succ

def enB (n dn : Int) : Bool := decide (1 ≤ n ∧ dn = n)
def mdV (n dn x : Int) : Int := if 1 ≤ n ∧ 0 ≤ dn ∧ dn ≤ n then atM n dn x else 0

set_option maxRecDepth 100000 in
set_option maxHeartbeats 8000000 in
theorem pulse_ended (a b c d ac en cr ex dn wt : Int) (w : World) :
    Calls Try.prog 28 #[.agg #[.int .i64 a, .int .i64 b, .int .i64 c, .int .i64 d, .int .i64 ac, .int .i64 en, .int .i64 cr, .int .i64 ex, .int .i64 dn, .int .i64 wt]] w fun e w' => e = .returned (.bool (enB (blkN a b c d ac en cr ex) dn)) ∧ Below w.heap.size w w' := by
  cases hv : blkValid a b c d ac en cr ex
  · have hn := blk_none a b c d ac en cr ex hv
    have HR : Hid (enB (blkN a b c d ac en cr ex) dn = false) := by show _ = _; rw [hn]; simp [enB]
    have HV := Lib.hid hv
    clear hv hn
    rw [HR.out]
    go_enter Try.func28, Try.ntmps28
    go_wp2_with fail
    first | go_region_with (go_at_call 15; refine (ahead_valid _ _ _ _ _ _ _ _ _).mono ?_; rw [HV.out]; rintro e w1 ⟨rfl, hb1⟩; have z1 := hb1.size; (try simp at z1); have L1a := live_below hb1 (b := w.heap.size) (by (repeat (first | with_reducible assumption | ((with_reducible apply live_new) <;> (first | with_reducible rfl | (focus (simp; done)))) | with_reducible apply live_alloc | with_reducible apply live_drew | with_reducible apply live_drewN | ((with_reducible apply live_set_other); (case hb => first | omega | (simp; done))) | with_reducible apply live_set_same | (focus (simp; done))))); obtain ⟨p1a, e1a, f1a⟩ := id L1a) | fail
    all_goals go_wp2_with fail
    all_goals go_ret
    all_goals exact ⟨rfl, by (repeat' (first | with_reducible exact Below.refl _ _ | with_reducible refine Below.drew ?_ | with_reducible refine below_drewN ?_ _ | with_reducible refine Below.alloc ?_ ?_ _ | with_reducible refine Below.setCell ?_ ?_ _ | with_reducible refine Below.trans ?_ (Below.mono (by with_reducible assumption) ?_) | (simp; done) | (simp; omega) | omega))⟩
  · obtain ⟨hp, hn⟩ := blk_pos a b c d ac en cr ex hv
    rw [hp] at *
    have HV := Lib.hid hv
    clear hv hp
    generalize hP : ddaDom a b c d = n at *
    have HP := Lib.hid hP
    have HR : Hid (enB n dn = (dn == n)) := by show _ = _; unfold enB; rw [Bool.eq_iff_iff]; simp; omega
    clear hP
    rw [HR.out]
    go_enter Try.func28, Try.ntmps28
    go_wp2_with fail
    go_region_held3 (fun w' => w'.cell? ⟨w.heap.size, 0, none⟩ = some (.int .i64 a) ∧ w'.cell? ⟨w.heap.size, 1, none⟩ = some (.int .i64 b) ∧ w'.cell? ⟨w.heap.size, 2, none⟩ = some (.int .i64 c) ∧ w'.cell? ⟨w.heap.size, 3, none⟩ = some (.int .i64 d) ∧ w'.cell? ⟨w.heap.size, 4, none⟩ = some (.int .i64 ac) ∧ w'.cell? ⟨w.heap.size, 5, none⟩ = some (.int .i64 en) ∧ w'.cell? ⟨w.heap.size, 6, none⟩ = some (.int .i64 cr) ∧ w'.cell? ⟨w.heap.size, 7, none⟩ = some (.int .i64 ex) ∧ w'.cell? ⟨w.heap.size, 8, none⟩ = some (.int .i64 dn) ∧ w'.cell? ⟨w.heap.size, 9, none⟩ = some (.int .i64 wt)) (first | (focus ((with_reducible apply live_ten); (repeat (first | with_reducible assumption | ((with_reducible apply live_new) <;> (first | with_reducible rfl | (focus (simp; done)))) | with_reducible apply live_alloc | with_reducible apply live_drew | with_reducible apply live_drewN | ((with_reducible apply live_set_other); (case hb => first | omega | (simp; done))) | with_reducible apply live_set_same | (focus (simp; done)))); done)) | go_keep)
      (first | (go_at_call 15; refine (ahead_valid _ _ _ _ _ _ _ _ _).mono ?_; rw [HV.out]; rintro e w1 ⟨rfl, hb1⟩; have z1 := hb1.size; (try simp at z1); have L1a := live_below hb1 (b := w.heap.size) (by (repeat (first | with_reducible assumption | ((with_reducible apply live_new) <;> (first | with_reducible rfl | (focus (simp; done)))) | with_reducible apply live_alloc | with_reducible apply live_drew | with_reducible apply live_drewN | ((with_reducible apply live_set_other); (case hb => first | omega | (simp; done))) | with_reducible apply live_set_same | (focus (simp; done))))); obtain ⟨p1a, e1a, f1a⟩ := id L1a) | (go_at_call 51; refine (dda_dom _ _ _ _ _).mono ?_; rw [HP.out]; rintro e w2 ⟨rfl, rfl⟩))
    all_goals go_wp2_with fail
    all_goals go_ret
    all_goals refine ⟨rfl, ?_⟩
    all_goals (repeat' (first | with_reducible exact Below.refl _ _ | with_reducible refine Below.drew ?_ | with_reducible refine below_drewN ?_ _ | with_reducible refine Below.alloc ?_ ?_ _ | with_reducible refine Below.setCell ?_ ?_ _ | with_reducible refine Below.trans ?_ (Below.mono (by with_reducible assumption) ?_) | (simp; done) | (simp; omega) | omega))

set_option maxRecDepth 100000 in
set_option maxHeartbeats 8000000 in
theorem pulse_made (a b c d ac en cr ex dn wt : Int) (w : World) :
    Calls Try.prog 32 #[.agg #[.int .i64 a, .int .i64 b, .int .i64 c, .int .i64 d, .int .i64 ac, .int .i64 en, .int .i64 cr, .int .i64 ex, .int .i64 dn, .int .i64 wt]] w fun e w' =>
      e = .returned (.agg #[.int .i64 (mdV (blkN a b c d ac en cr ex) dn a), .int .i64 (mdV (blkN a b c d ac en cr ex) dn b), .int .i64 (mdV (blkN a b c d ac en cr ex) dn c), .int .i64 (mdV (blkN a b c d ac en cr ex) dn d)]) ∧ Below w.heap.size w w' := by
  cases hv : blkValid a b c d ac en cr ex
  · have hn := blk_none a b c d ac en cr ex hv
    have HR : ∀ x, mdV (blkN a b c d ac en cr ex) dn x = 0 := fun x => by rw [hn]; simp [mdV]
    rw [HR, HR, HR, HR]
    have HV := Lib.hid hv
    clear hv hn HR
    go_enter Try.func32, Try.ntmps32
    go_wp2_with fail
    go_cut [20] (fun s20 wx => s20 = .bool true ∧ Live wx (w.heap.size + 1) #[.int .i64 0, .int .i64 0, .int .i64 0, .int .i64 0] ∧ Below w.heap.size w wx)
    case first =>
      first | go_region_with (go_at_call 15; refine (ahead_valid _ _ _ _ _ _ _ _ _).mono ?_; rw [HV.out]; rintro e w1 ⟨rfl, hb1⟩; have z1 := hb1.size; (try simp at z1); have L1a := live_below hb1 (b := w.heap.size) (by (repeat (first | with_reducible assumption | ((with_reducible apply live_new) <;> (first | with_reducible rfl | (focus (simp; done)))) | with_reducible apply live_alloc | with_reducible apply live_drew | with_reducible apply live_drewN | ((with_reducible apply live_set_other); (case hb => first | omega | (simp; done))) | with_reducible apply live_set_same | (focus (simp; done))))); obtain ⟨p1a, e1a, f1a⟩ := id L1a; have L1b := live_below hb1 (b := w.heap.size + 1) (by (repeat (first | with_reducible assumption | ((with_reducible apply live_new) <;> (first | with_reducible rfl | (focus (simp; done)))) | with_reducible apply live_alloc | with_reducible apply live_drew | with_reducible apply live_drewN | ((with_reducible apply live_set_other); (case hb => first | omega | (simp; done))) | with_reducible apply live_set_same | (focus (simp; done))))); obtain ⟨p1b, e1b, f1b⟩ := id L1b) | fail
      all_goals (try go_wp2_with fail)
      all_goals go_meet
      all_goals refine ⟨rfl, ?_, ?_⟩
      all_goals first | (focus ((repeat (first | with_reducible assumption | with_reducible apply live_alloc | with_reducible apply live_drew | with_reducible apply live_drewN | with_reducible apply live_put10 | with_reducible apply live_put8 | with_reducible apply live_put4 | ((with_reducible apply live_put10_other); (case hb => first | omega | (simp; done))) | ((with_reducible apply live_put8_other); (case hb => first | omega | (simp; done))) | ((with_reducible apply live_put4_other); (case hb => first | omega | (simp; done))) | ((with_reducible apply live_new) <;> (first | with_reducible rfl | (focus (simp; done)))) | (focus (simp; done)))); done)) | (repeat' (first | with_reducible exact Below.refl _ _ | with_reducible refine Below.drew ?_ | with_reducible refine below_drewN ?_ _ | with_reducible refine Below.alloc ?_ ?_ _ | with_reducible refine Below.setCell ?_ ?_ _ | with_reducible refine Below.trans ?_ (Below.mono (by with_reducible assumption) ?_) | (simp; done) | (simp; omega) | omega))
    case rest =>
      obtain ⟨rfl, L5, hb5⟩ := hcut
      obtain ⟨p5, e5, f5⟩ := id L5
      go_wp2_with fail
      refine bodyPost_ret (v := .agg #[.int .i64 0, .int .i64 0, .int .i64 0, .int .i64 0]) (by simp [results, Try.results32, go_sem, e5]) rfl ⟨rfl, ?_⟩
      refine Below.trans hb5 ?_
      (repeat' (first | with_reducible exact Below.refl _ _ | with_reducible refine Below.drew ?_ | with_reducible refine below_drewN ?_ _ | with_reducible refine Below.alloc ?_ ?_ _ | with_reducible refine Below.setCell ?_ ?_ _ | with_reducible refine Below.trans ?_ (Below.mono (by with_reducible assumption) ?_) | (simp; done) | (simp; omega) | omega))
  · obtain ⟨hp, hn⟩ := blk_pos a b c d ac en cr ex hv
    rw [hp] at *
    have HV := Lib.hid hv
    clear hv hp
    generalize hP : ddaDom a b c d = n at *
    have HP := Lib.hid hP
    clear hP
    by_cases hb : dn < 0 ∨ n < dn
    · have HR : ∀ x, mdV n dn x = 0 := fun x => by unfold mdV; rw [if_neg (by omega)]
      rw [HR, HR, HR, HR]
      clear HR
      rcases (by omega : dn < 0 ∨ (0 ≤ dn ∧ n < dn)) with h | ⟨h0, h⟩
      all_goals
        clear hb
        first | (have d0 : decide (dn < 0) = true := by simp; omega) | (have d0 : decide (dn < 0) = false := by simp; omega)
        first | (have d1 : decide (n < dn) = true := by simp; omega) | (have d1 : decide (n < dn) = false := by simp; omega)
        go_enter Try.func32, Try.ntmps32
        go_wp2_with fail
        go_cut [20] (fun s20 wx => s20 = .bool true ∧ Live wx (w.heap.size + 1) #[.int .i64 0, .int .i64 0, .int .i64 0, .int .i64 0] ∧ Below w.heap.size w wx)
        case first =>
          first | go_region_with (first | (go_at_call 15; refine (ahead_valid _ _ _ _ _ _ _ _ _).mono ?_; rw [HV.out]; rintro e w1 ⟨rfl, hb1⟩; have z1 := hb1.size; (try simp at z1); have L1a := live_below hb1 (b := w.heap.size) (by (repeat (first | with_reducible assumption | ((with_reducible apply live_new) <;> (first | with_reducible rfl | (focus (simp; done)))) | with_reducible apply live_alloc | with_reducible apply live_drew | with_reducible apply live_drewN | ((with_reducible apply live_set_other); (case hb => first | omega | (simp; done))) | with_reducible apply live_set_same | (focus (simp; done))))); obtain ⟨p1a, e1a, f1a⟩ := id L1a; have L1b := live_below hb1 (b := w.heap.size + 1) (by (repeat (first | with_reducible assumption | ((with_reducible apply live_new) <;> (first | with_reducible rfl | (focus (simp; done)))) | with_reducible apply live_alloc | with_reducible apply live_drew | with_reducible apply live_drewN | ((with_reducible apply live_set_other); (case hb => first | omega | (simp; done))) | with_reducible apply live_set_same | (focus (simp; done))))); obtain ⟨p1b, e1b, f1b⟩ := id L1b) | (go_at_call 51; refine (dda_dom _ _ _ _ _).mono ?_; rw [HP.out]; rintro e w2 ⟨rfl, rfl⟩)) | fail
          all_goals (try go_wp2_with fail)
          all_goals go_meet
          all_goals refine ⟨rfl, ?_, ?_⟩
          all_goals first | (focus ((repeat (first | with_reducible assumption | with_reducible apply live_alloc | with_reducible apply live_drew | with_reducible apply live_drewN | with_reducible apply live_put10 | with_reducible apply live_put8 | with_reducible apply live_put4 | ((with_reducible apply live_put10_other); (case hb => first | omega | (simp; done))) | ((with_reducible apply live_put8_other); (case hb => first | omega | (simp; done))) | ((with_reducible apply live_put4_other); (case hb => first | omega | (simp; done))) | ((with_reducible apply live_new) <;> (first | with_reducible rfl | (focus (simp; done)))) | (focus (simp; done)))); done)) | (repeat' (first | with_reducible exact Below.refl _ _ | with_reducible refine Below.drew ?_ | with_reducible refine below_drewN ?_ _ | with_reducible refine Below.alloc ?_ ?_ _ | with_reducible refine Below.setCell ?_ ?_ _ | with_reducible refine Below.trans ?_ (Below.mono (by with_reducible assumption) ?_) | (simp; done) | (simp; omega) | omega))
        case rest =>
          obtain ⟨rfl, L5, hb5⟩ := hcut
          obtain ⟨p5, e5, f5⟩ := id L5
          go_wp2_with fail
          refine bodyPost_ret (v := .agg #[.int .i64 0, .int .i64 0, .int .i64 0, .int .i64 0]) (by simp [results, Try.results32, go_sem, e5]) rfl ⟨rfl, ?_⟩
          refine Below.trans hb5 ?_
          (repeat' (first | with_reducible exact Below.refl _ _ | with_reducible refine Below.drew ?_ | with_reducible refine below_drewN ?_ _ | with_reducible refine Below.alloc ?_ ?_ _ | with_reducible refine Below.setCell ?_ ?_ _ | with_reducible refine Below.trans ?_ (Below.mono (by with_reducible assumption) ?_) | (simp; done) | (simp; omega) | omega))
    · have HR : ∀ x, mdV n dn x = atM n dn x := fun x => by unfold mdV; rw [if_pos (by omega)]
      rw [HR, HR, HR, HR]
      clear HR
      have d0 : decide (dn < 0) = false := by simp; omega
      have d1 : decide (n < dn) = false := by simp; omega
      clear hb
      go_enter Try.func32, Try.ntmps32
      go_wp2_with fail
      go_region_held3 (fun w' => w'.cell? ⟨w.heap.size, 0, none⟩ = some (.int .i64 a) ∧ w'.cell? ⟨w.heap.size, 1, none⟩ = some (.int .i64 b) ∧ w'.cell? ⟨w.heap.size, 2, none⟩ = some (.int .i64 c) ∧ w'.cell? ⟨w.heap.size, 3, none⟩ = some (.int .i64 d) ∧ w'.cell? ⟨w.heap.size, 4, none⟩ = some (.int .i64 ac) ∧ w'.cell? ⟨w.heap.size, 5, none⟩ = some (.int .i64 en) ∧ w'.cell? ⟨w.heap.size, 6, none⟩ = some (.int .i64 cr) ∧ w'.cell? ⟨w.heap.size, 7, none⟩ = some (.int .i64 ex) ∧ w'.cell? ⟨w.heap.size, 8, none⟩ = some (.int .i64 dn) ∧ w'.cell? ⟨w.heap.size, 9, none⟩ = some (.int .i64 wt)) (first | (focus ((with_reducible apply live_ten); (repeat (first | with_reducible assumption | ((with_reducible apply live_new) <;> (first | with_reducible rfl | (focus (simp; done)))) | with_reducible apply live_alloc | with_reducible apply live_drew | with_reducible apply live_drewN | ((with_reducible apply live_set_other); (case hb => first | omega | (simp; done))) | with_reducible apply live_set_same | (focus (simp; done)))); done)) | go_keep)
        (first | (go_at_call 15; refine (ahead_valid _ _ _ _ _ _ _ _ _).mono ?_; rw [HV.out]; rintro e w1 ⟨rfl, hb1⟩; have z1 := hb1.size; (try simp at z1); have L1a := live_below hb1 (b := w.heap.size) (by (repeat (first | with_reducible assumption | ((with_reducible apply live_new) <;> (first | with_reducible rfl | (focus (simp; done)))) | with_reducible apply live_alloc | with_reducible apply live_drew | with_reducible apply live_drewN | ((with_reducible apply live_set_other); (case hb => first | omega | (simp; done))) | with_reducible apply live_set_same | (focus (simp; done))))); obtain ⟨p1a, e1a, f1a⟩ := id L1a; have L1b := live_below hb1 (b := w.heap.size + 1) (by (repeat (first | with_reducible assumption | ((with_reducible apply live_new) <;> (first | with_reducible rfl | (focus (simp; done)))) | with_reducible apply live_alloc | with_reducible apply live_drew | with_reducible apply live_drewN | ((with_reducible apply live_set_other); (case hb => first | omega | (simp; done))) | with_reducible apply live_set_same | (focus (simp; done))))); obtain ⟨p1b, e1b, f1b⟩ := id L1b) | (go_at_call 51; refine (dda_dom _ _ _ _ _).mono ?_; rw [HP.out]; rintro e w2 ⟨rfl, rfl⟩))
      all_goals go_wp2_with (go_at_call 54; refine (dda_at _ _ _ _ _ _).mono ?_; rw [HP.out]; rintro e w3 ⟨rfl, hb3⟩; have z3 := hb3.size; (try simp at z3); have L3a := live_below hb3 (b := w.heap.size) (by (repeat (first | with_reducible assumption | ((with_reducible apply live_new) <;> (first | with_reducible rfl | (focus (simp; done)))) | with_reducible apply live_alloc | with_reducible apply live_drew | with_reducible apply live_drewN | ((with_reducible apply live_set_other); (case hb => first | omega | (simp; done))) | with_reducible apply live_set_same | (focus (simp; done))))); obtain ⟨p3a, e3a, f3a⟩ := id L3a; have L3b := live_below hb3 (b := w.heap.size + 1) (by (repeat (first | with_reducible assumption | ((with_reducible apply live_new) <;> (first | with_reducible rfl | (focus (simp; done)))) | with_reducible apply live_alloc | with_reducible apply live_drew | with_reducible apply live_drewN | ((with_reducible apply live_set_other); (case hb => first | omega | (simp; done))) | with_reducible apply live_set_same | (focus (simp; done))))); obtain ⟨p3b, e3b, f3b⟩ := id L3b)
      all_goals refine bodyPost_ret (v := .agg #[.int .i64 (atM n dn a), .int .i64 (atM n dn b), .int .i64 (atM n dn c), .int .i64 (atM n dn d)]) (by simp [results, Try.results32, go_sem, e3b]) rfl ⟨rfl, ?_⟩
      all_goals (repeat' (first | with_reducible exact Below.refl _ _ | with_reducible refine Below.drew ?_ | with_reducible refine below_drewN ?_ _ | with_reducible refine Below.alloc ?_ ?_ _ | with_reducible refine Below.setCell ?_ ?_ _ | with_reducible refine Below.trans ?_ (Below.mono (by with_reducible assumption) ?_) | (simp; done) | (simp; omega) | omega))
end Go.Proofs.Ytleohgnnbpicjaa
