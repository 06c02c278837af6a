/- What runs of pulse returns -/
import Derived.Test.YtkiadcgdmeebmaaProg
import Derived.WalkKit
import Derived.WalkLawsBesides
import Derived.RegionTactic
import Derived.Deep.RegionWith
import Derived.Deep.RegionHeld3
import Derived.IntWalk
import Derived.Laws.EntriesVeiled
import Derived.Deep.DrawnRows
import Derived.BigRegion
import Derived.Deep.QuietTactic
import Derived.BigQuiet
import Derived.Lib.Hide
import Derived.Test.YtkiadcgdmeebmaaKit5
import Derived.Test.YtkiadcgdmeebmaaPulBase
namespace Go.Proofs.Ytkiadcgdmeebmaa
open Go.RowKit
set_option linter.unusedVariables false

attribute [local go_sem] cell_past1 cell_past2 cell_past3 cell_past4 froz_past1 froz_past2 froz_past3
attribute [local go_sem ↓] Go.wp_at_zero Go.wp_at_succ

set_option maxRecDepth 100000 in
set_option maxHeartbeats 8000000 in
theorem pulse_runs_bad (a b c d ac en cr ex dn wt t : Int) (B : Nat) (w : World) (L : Live w B #[.int .i64 t]) (hv : blkValid a b c d ac en cr ex = false) :
    Calls Try.prog 30 #[.agg #[.func (.func 40) #[] #[.pointer (some ⟨B, 0, none⟩)]], .agg #[.int .i64 a, .int .i64 b, .int .i64 c, .int .i64 d, .int .i64 ac, .int .i64 en, .int .i64 cr, .int .i64 ex, .int .i64 dn, .int .i64 wt]] w fun e w' => e = .returned (.bool false) ∧ Below w.heap.size w w' := by
  obtain ⟨p, e1, f⟩ := id L
  have HV := Lib.hid hv
  clear hv
  go_enter Try.func30, Try.ntmps30
  go_wp2_with fail
  first | go_region_with (go_at_call 24; refine (ahead_valid _ _ _ _ _ _ _ _ _).mono ?_; rw [HV.out]; rintro e w1 ⟨rfl, hb1⟩; have z1 := hb1.size; (try simp at z1); have L1a := live_below hb1 (b := w.heap.size + 1) (by (repeat (first | with_reducible assumption | ((with_reducible apply live_new) <;> (first | with_reducible rfl | (focus (simp; done)))) | with_reducible apply live_alloc | with_reducible apply live_drew | with_reducible apply live_drewN | ((with_reducible apply live_set_other); (case hb => first | omega | (simp; done))) | with_reducible apply live_set_same | (focus (simp; done))))); obtain ⟨p1a, e1a, f1a⟩ := id L1a) | fail
  all_goals go_wp2_with fail
  all_goals go_ret
  all_goals exact ⟨rfl, by (repeat' (first | with_reducible exact Below.refl _ _ | with_reducible refine Below.drew ?_ | with_reducible refine below_drewN ?_ _ | with_reducible refine Below.alloc ?_ ?_ _ | with_reducible refine Below.setCell ?_ ?_ _ | with_reducible refine Below.trans ?_ (Below.mono (by with_reducible assumption) ?_) | (simp; done) | (simp; omega) | omega))⟩

set_option maxRecDepth 100000 in
set_option maxHeartbeats 8000000 in
theorem pulse_runs_out (a b c d ac en cr ex dn wt t : Int) (B : Nat) (w : World) (L : Live w B #[.int .i64 t]) (hv : blkValid a b c d ac en cr ex = true) (hb : dn < 0 ∨ ddaDom a b c d ≤ dn) :
    Calls Try.prog 30 #[.agg #[.func (.func 40) #[] #[.pointer (some ⟨B, 0, none⟩)]], .agg #[.int .i64 a, .int .i64 b, .int .i64 c, .int .i64 d, .int .i64 ac, .int .i64 en, .int .i64 cr, .int .i64 ex, .int .i64 dn, .int .i64 wt]] w fun e w' => e = .returned (.bool false) ∧ Below w.heap.size w w' := by
  obtain ⟨p, e1, f⟩ := id L
  have HV := Lib.hid hv
  clear hv
  have hn0 := (ddaDom_in a b c d).1
  generalize hP : ddaDom a b c d = n at *
  have HP := Lib.hid hP
  clear hP
  rcases (by omega : dn < 0 ∨ (0 ≤ dn ∧ n ≤ dn)) with h | ⟨h0, h⟩
  all_goals
    clear hb
    first | (have d0 : decide (dn < 0) = true := by simp; omega) | (have d0 : decide (dn < 0) = false := by simp; omega)
    first | (have d1 : decide (n ≤ dn) = true := by simp; omega) | (have d1 : decide (n ≤ dn) = false := by simp; omega)
    go_enter Try.func30, Try.ntmps30
    go_wp2_with fail
    first | go_region_with (first | (go_at_call 24; refine (ahead_valid _ _ _ _ _ _ _ _ _).mono ?_; rw [HV.out]; rintro e w1 ⟨rfl, hb1⟩; have z1 := hb1.size; (try simp at z1); have L1a := live_below hb1 (b := w.heap.size + 1) (by (repeat (first | with_reducible assumption | ((with_reducible apply live_new) <;> (first | with_reducible rfl | (focus (simp; done)))) | with_reducible apply live_alloc | with_reducible apply live_drew | with_reducible apply live_drewN | ((with_reducible apply live_set_other); (case hb => first | omega | (simp; done))) | with_reducible apply live_set_same | (focus (simp; done))))); obtain ⟨p1a, e1a, f1a⟩ := id L1a) | (go_at_call 29; refine (dda_dom _ _ _ _ _).mono ?_; rw [HP.out]; rintro e w2 ⟨rfl, rfl⟩)) | fail
    all_goals go_wp2_with fail
    all_goals go_ret
    all_goals exact ⟨rfl, by (repeat' (first | with_reducible exact Below.refl _ _ | with_reducible refine Below.drew ?_ | with_reducible refine below_drewN ?_ _ | with_reducible refine Below.alloc ?_ ?_ _ | with_reducible refine Below.setCell ?_ ?_ _ | with_reducible refine Below.trans ?_ (Below.mono (by with_reducible assumption) ?_) | (simp; done) | (simp; omega) | omega))⟩

set_option maxRecDepth 100000 in
set_option maxHeartbeats 8000000 in
theorem pulse_runs_in (a b c d ac en cr ex dn wt t : Int) (B : Nat) (w : World) (L : Live w B #[.int .i64 t]) (hv : blkValid a b c d ac en cr ex = true) (h0 : 0 ≤ dn) (h1 : dn < ddaDom a b c d) :
    Calls Try.prog 30 #[.agg #[.func (.func 40) #[] #[.pointer (some ⟨B, 0, none⟩)]], .agg #[.int .i64 a, .int .i64 b, .int .i64 c, .int .i64 d, .int .i64 ac, .int .i64 en, .int .i64 cr, .int .i64 ex, .int .i64 dn, .int .i64 wt]] w fun e w' => e = .returned (.bool (decide (1 ≤ wt ∧ wt ≤ plW (blkN a b c d ac en cr ex) ac en cr ex (dn + 1) t))) ∧ Below w.heap.size w w' := by
  obtain ⟨p, e1, f⟩ := id L
  have hi := (ddaDom_in a b c d).2
  have hw := plW_in a b c d ac en cr ex (dn + 1) t
  have HV := Lib.hid hv
  clear hv
  generalize hP : ddaDom a b c d = n at *
  have HP := Lib.hid hP
  clear hP
  generalize hW : plW (blkN a b c d ac en cr ex) ac en cr ex (dn + 1) t = W at *
  have HW := Lib.hid hW
  clear hW
  have k1 : IntKind.i64.wrap (dn + 1) = dn + 1 := IntWalk.i64_in _ (by omega)
  obtain ⟨hw0, hw1⟩ := hw
  have d0 : decide (dn < 0) = false := by simp; omega
  have d1 : decide (n ≤ dn) = false := by simp; omega
  by_cases hx : 1 ≤ wt
  · have d2 : decide (1 ≤ wt) = true := by simp; omega
    go_enter Try.func30, Try.ntmps30
    go_wp2_with fail
    go_region_held3 (fun w' => w'.cell? ⟨w.heap.size + 1, 0, none⟩ = some (.int .i64 a) ∧ w'.cell? ⟨w.heap.size + 1, 1, none⟩ = some (.int .i64 b) ∧ w'.cell? ⟨w.heap.size + 1, 2, none⟩ = some (.int .i64 c) ∧ w'.cell? ⟨w.heap.size + 1, 3, none⟩ = some (.int .i64 d) ∧ w'.cell? ⟨w.heap.size + 1, 4, none⟩ = some (.int .i64 ac) ∧ w'.cell? ⟨w.heap.size + 1, 5, none⟩ = some (.int .i64 en) ∧ w'.cell? ⟨w.heap.size + 1, 6, none⟩ = some (.int .i64 cr) ∧ w'.cell? ⟨w.heap.size + 1, 7, none⟩ = some (.int .i64 ex) ∧ w'.cell? ⟨w.heap.size + 1, 8, none⟩ = some (.int .i64 dn) ∧ w'.cell? ⟨w.heap.size + 1, 9, none⟩ = some (.int .i64 wt)) (first | (focus ((with_reducible apply live_ten); (repeat (first | with_reducible assumption | ((with_reducible apply live_new) <;> (first | with_reducible rfl | (focus (simp; done)))) | with_reducible apply live_alloc | with_reducible apply live_drew | with_reducible apply live_drewN | ((with_reducible apply live_set_other); (case hb => first | omega | (simp; done))) | with_reducible apply live_set_same | (focus (simp; done)))); done)) | go_keep)
      (first | (go_at_call 24; refine (ahead_valid _ _ _ _ _ _ _ _ _).mono ?_; rw [HV.out]; rintro e w1 ⟨rfl, hb1⟩; have z1 := hb1.size; (try simp at z1); have L1a := live_below hb1 (b := w.heap.size + 1) (by (repeat (first | with_reducible assumption | ((with_reducible apply live_new) <;> (first | with_reducible rfl | (focus (simp; done)))) | with_reducible apply live_alloc | with_reducible apply live_drew | with_reducible apply live_drewN | ((with_reducible apply live_set_other); (case hb => first | omega | (simp; done))) | with_reducible apply live_set_same | (focus (simp; done))))); obtain ⟨p1a, e1a, f1a⟩ := id L1a; have L1b := live_below hb1 (b := w.heap.size) (by (repeat (first | with_reducible assumption | ((with_reducible apply live_new) <;> (first | with_reducible rfl | (focus (simp; done)))) | with_reducible apply live_alloc | with_reducible apply live_drew | with_reducible apply live_drewN | ((with_reducible apply live_set_other); (case hb => first | omega | (simp; done))) | with_reducible apply live_set_same | (focus (simp; done))))); obtain ⟨p1b, e1b, f1b⟩ := id L1b; have L1c := live_below hb1 (b := B) (by (repeat (first | with_reducible assumption | ((with_reducible apply live_new) <;> (first | with_reducible rfl | (focus (simp; done)))) | with_reducible apply live_alloc | with_reducible apply live_drew | with_reducible apply live_drewN | ((with_reducible apply live_set_other); (case hb => first | omega | (simp; done))) | with_reducible apply live_set_same | (focus (simp; done))))); obtain ⟨p1c, e1c, f1c⟩ := id L1c) | (go_at_call 29; refine (dda_dom _ _ _ _ _).mono ?_; rw [HP.out]; rintro e w2 ⟨rfl, rfl⟩))
    go_wp2_with fail
    go_region_held3 (fun w' => (w'.cell? ⟨w.heap.size + 1, 0, none⟩ = some (.int .i64 a) ∧ w'.cell? ⟨w.heap.size + 1, 1, none⟩ = some (.int .i64 b) ∧ w'.cell? ⟨w.heap.size + 1, 2, none⟩ = some (.int .i64 c) ∧ w'.cell? ⟨w.heap.size + 1, 3, none⟩ = some (.int .i64 d) ∧ w'.cell? ⟨w.heap.size + 1, 4, none⟩ = some (.int .i64 ac) ∧ w'.cell? ⟨w.heap.size + 1, 5, none⟩ = some (.int .i64 en) ∧ w'.cell? ⟨w.heap.size + 1, 6, none⟩ = some (.int .i64 cr) ∧ w'.cell? ⟨w.heap.size + 1, 7, none⟩ = some (.int .i64 ex) ∧ w'.cell? ⟨w.heap.size + 1, 8, none⟩ = some (.int .i64 dn) ∧ w'.cell? ⟨w.heap.size + 1, 9, none⟩ = some (.int .i64 wt)) ∧ w'.cell? ⟨w.heap.size, 0, none⟩ = some (.func (.func 40) #[] #[.pointer (some ⟨B, 0, none⟩)])) (first | (focus ((with_reducible refine ⟨?_, ?_⟩) <;> (first | ((with_reducible apply live_ten); (repeat (first | with_reducible assumption | ((with_reducible apply live_new) <;> (first | with_reducible rfl | (focus (simp; done)))) | with_reducible apply live_alloc | with_reducible apply live_drew | with_reducible apply live_drewN | ((with_reducible apply live_set_other); (case hb => first | omega | (simp; done))) | with_reducible apply live_set_same | (focus (simp; done)))); done) | ((with_reducible apply live_one); (repeat (first | with_reducible assumption | ((with_reducible apply live_new) <;> (first | with_reducible rfl | (focus (simp; done)))) | with_reducible apply live_alloc | with_reducible apply live_drew | with_reducible apply live_drewN | ((with_reducible apply live_set_other); (case hb => first | omega | (simp; done))) | with_reducible apply live_set_same | (focus (simp; done)))); done)))) | fail)
      ((go_at_call 40; refine (pulse_at1 _ _ _ _ _ _ _ _ _ t B _ ?_).mono ?_; (· (repeat (first | with_reducible assumption | ((with_reducible apply live_new) <;> (first | with_reducible rfl | (focus (simp; done)))) | with_reducible apply live_alloc | with_reducible apply live_drew | with_reducible apply live_drewN | ((with_reducible apply live_set_other); (case hb => first | omega | (simp; done))) | with_reducible apply live_set_same | (focus (simp; done))))); rw [HW.out]; rintro e w3 ⟨rfl, hb3⟩; have z3 := hb3.size; (try simp at z3); have L3a := live_below hb3 (b := w.heap.size + 1) (by (repeat (first | with_reducible assumption | ((with_reducible apply live_new) <;> (first | with_reducible rfl | (focus (simp; done)))) | with_reducible apply live_alloc | with_reducible apply live_drew | with_reducible apply live_drewN | ((with_reducible apply live_set_other); (case hb => first | omega | (simp; done))) | with_reducible apply live_set_same | (focus (simp; done))))); obtain ⟨p3a, e3a, f3a⟩ := id L3a; have L3b := live_below hb3 (b := w.heap.size) (by (repeat (first | with_reducible assumption | ((with_reducible apply live_new) <;> (first | with_reducible rfl | (focus (simp; done)))) | with_reducible apply live_alloc | with_reducible apply live_drew | with_reducible apply live_drewN | ((with_reducible apply live_set_other); (case hb => first | omega | (simp; done))) | with_reducible apply live_set_same | (focus (simp; done))))); obtain ⟨p3b, e3b, f3b⟩ := id L3b))
    all_goals go_wp2_with fail
    all_goals go_ret
    all_goals refine ⟨ret_bool ?_, ?_⟩
    all_goals first | (repeat' (first | with_reducible exact Below.refl _ _ | with_reducible refine Below.drew ?_ | with_reducible refine below_drewN ?_ _ | with_reducible refine Below.alloc ?_ ?_ _ | with_reducible refine Below.setCell ?_ ?_ _ | with_reducible refine Below.trans ?_ (Below.mono (by with_reducible assumption) ?_) | (simp; done) | (simp; omega) | omega)) | (rw [Bool.eq_iff_iff]; simp; omega)
  · have d2 : decide (1 ≤ wt) = false := by simp; omega
    go_enter Try.func30, Try.ntmps30
    go_wp2_with fail
    go_region_held3 (fun w' => w'.cell? ⟨w.heap.size + 1, 0, none⟩ = some (.int .i64 a) ∧ w'.cell? ⟨w.heap.size + 1, 1, none⟩ = some (.int .i64 b) ∧ w'.cell? ⟨w.heap.size + 1, 2, none⟩ = some (.int .i64 c) ∧ w'.cell? ⟨w.heap.size + 1, 3, none⟩ = some (.int .i64 d) ∧ w'.cell? ⟨w.heap.size + 1, 4, none⟩ = some (.int .i64 ac) ∧ w'.cell? ⟨w.heap.size + 1, 5, none⟩ = some (.int .i64 en) ∧ w'.cell? ⟨w.heap.size + 1, 6, none⟩ = some (.int .i64 cr) ∧ w'.cell? ⟨w.heap.size + 1, 7, none⟩ = some (.int .i64 ex) ∧ w'.cell? ⟨w.heap.size + 1, 8, none⟩ = some (.int .i64 dn) ∧ w'.cell? ⟨w.heap.size + 1, 9, none⟩ = some (.int .i64 wt)) (first | (focus ((with_reducible apply live_ten); (repeat (first | with_reducible assumption | ((with_reducible apply live_new) <;> (first | with_reducible rfl | (focus (simp; done)))) | with_reducible apply live_alloc | with_reducible apply live_drew | with_reducible apply live_drewN | ((with_reducible apply live_set_other); (case hb => first | omega | (simp; done))) | with_reducible apply live_set_same | (focus (simp; done)))); done)) | go_keep)
      (first | (go_at_call 24; refine (ahead_valid _ _ _ _ _ _ _ _ _).mono ?_; rw [HV.out]; rintro e w1 ⟨rfl, hb1⟩; have z1 := hb1.size; (try simp at z1); have L1a := live_below hb1 (b := w.heap.size + 1) (by (repeat (first | with_reducible assumption | ((with_reducible apply live_new) <;> (first | with_reducible rfl | (focus (simp; done)))) | with_reducible apply live_alloc | with_reducible apply live_drew | with_reducible apply live_drewN | ((with_reducible apply live_set_other); (case hb => first | omega | (simp; done))) | with_reducible apply live_set_same | (focus (simp; done))))); obtain ⟨p1a, e1a, f1a⟩ := id L1a) | (go_at_call 29; refine (dda_dom _ _ _ _ _).mono ?_; rw [HP.out]; rintro e w2 ⟨rfl, rfl⟩))
    go_wp2_with fail
    go_quiet (fail)
    all_goals go_wp2_with fail
    all_goals go_ret
    all_goals refine ⟨ret_bool ?_, ?_⟩
    all_goals first | (repeat' (first | with_reducible exact Below.refl _ _ | with_reducible refine Below.drew ?_ | with_reducible refine below_drewN ?_ _ | with_reducible refine Below.alloc ?_ ?_ _ | with_reducible refine Below.setCell ?_ ?_ _ | with_reducible refine Below.trans ?_ (Below.mono (by with_reducible assumption) ?_) | (simp; done) | (simp; omega) | omega)) | (rw [Bool.eq_iff_iff]; simp; omega)

theorem pulse_runs (a b c d ac en cr ex dn wt t : Int) (B : Nat) (w : World) (L : Live w B #[.int .i64 t]) :
    Calls Try.prog 30 #[.agg #[.func (.func 40) #[] #[.pointer (some ⟨B, 0, none⟩)]], .agg #[.int .i64 a, .int .i64 b, .int .i64 c, .int .i64 d, .int .i64 ac, .int .i64 en, .int .i64 cr, .int .i64 ex, .int .i64 dn, .int .i64 wt]] w fun e w' => e = .returned (.bool (plOn (blkN a b c d ac en cr ex) ac en cr ex dn wt t)) ∧ Below w.heap.size w w' := by
  cases hv : blkValid a b c d ac en cr ex
  · have hn := blk_none a b c d ac en cr ex hv
    have HR : plOn (blkN a b c d ac en cr ex) ac en cr ex dn wt t = false := by rw [hn]; unfold plOn; simp; omega
    rw [HR]
    exact pulse_runs_bad a b c d ac en cr ex dn wt t B w L hv
  · obtain ⟨hp, hn⟩ := blk_pos a b c d ac en cr ex hv
    by_cases hb : dn < 0 ∨ ddaDom a b c d ≤ dn
    · have HR : plOn (blkN a b c d ac en cr ex) ac en cr ex dn wt t = false := by rw [hp]; unfold plOn; simp; omega
      rw [HR]
      exact pulse_runs_out a b c d ac en cr ex dn wt t B w L hv hb
    · have HR : plOn (blkN a b c d ac en cr ex) ac en cr ex dn wt t = decide (1 ≤ wt ∧ wt ≤ plW (blkN a b c d ac en cr ex) ac en cr ex (dn + 1) t) := by
        unfold plOn; rw [Bool.eq_iff_iff]; simp; omega
      rw [HR]
      exact pulse_runs_in a b c d ac en cr ex dn wt t B w L hv (by omega) (by omega)
end Go.Proofs.Ytkiadcgdmeebmaa
