/- What Start returns, in the program and in the reference, for all blocks and ticks -/
import Derived.Test.YtkiadcgdmeebmaaProg
import Derived.WalkKit
import Derived.WalkLawsBesides
import Derived.RegionTactic
import Derived.Deep.RegionWith
import Derived.Deep.RegionHeld3
import Derived.Deep.DeepCutAuto
import Derived.IntWalk
import Derived.Laws.EntriesVeiled
import Derived.Deep.DrawnRows
import Derived.BigRegion
import Derived.Lib.Hide
import Derived.Test.YtkiadcgdmeebmaaKit5
import Derived.Test.YtkiadcgdmeebmaaPulBase
namespace Go.Proofs.Ytkiadcgdmeebmaa
open Go.RowKit
set_option linter.unusedVariables false

attribute [local go_sem] cell_past1 cell_past2 cell_past3 cell_past4 froz_past1 froz_past2 froz_past3
attribute [local go_sem ↓] Go.wp_at_zero Go.wp_at_succ

/-- What Start returns: the motion, or the zero motion and ErrArg. -/
def psB (n t : Int) : Bool := decide (1 ≤ n) && possB t
def psX (n t x : Int) : Int := if psB n t then x else 0
def psW (n ac en cr ex t : Int) : Int := if psB n t then plW n ac en cr ex 1 t else 0
def psE (n t : Int) : Int := if psB n t then 0 else 1

theorem next0 (n ac en cr ex t : Int) (h : 1 ≤ n) : plNext n ac en cr ex 0 t = plW n ac en cr ex 1 t := by
  unfold plNext; rw [if_neg (by omega)]; rfl

def StRes (a b c d ac en cr ex dn wt er : Int) (w : World) (e : Ending) (w' : World) : Prop :=
  e = .returned (.tuple #[.agg #[.int .i64 a, .int .i64 b, .int .i64 c, .int .i64 d, .int .i64 ac, .int .i64 en, .int .i64 cr, .int .i64 ex, .int .i64 dn, .int .i64 wt], .int .i64 er]) ∧ Below w.heap.size w w'

set_option maxRecDepth 100000 in
set_option maxHeartbeats 8000000 in
theorem pulse_start_bad (a b c d ac en cr ex t : Int) (w : World) (h : blkValid a b c d ac en cr ex = false ∨ possB t = false) :
    Calls Try.prog 12 #[.agg #[.int .i64 a, .int .i64 b, .int .i64 c, .int .i64 d, .int .i64 ac, .int .i64 en, .int .i64 cr, .int .i64 ex], .int .i64 t] w (StRes 0 0 0 0 0 0 0 0 0 0 1 w) := by
  rcases (by cases hv : blkValid a b c d ac en cr ex; exact .inl rfl; right; rw [hv] at h; simpa using h : blkValid a b c d ac en cr ex = false ∨ (blkValid a b c d ac en cr ex = true ∧ possB t = false)) with hv | ⟨hv, hp⟩
  all_goals
    have HV := Lib.hid hv
    try have HP := Lib.hid hp
    clear h hv
    try clear hp
    go_enter Try.func12, Try.ntmps12
    go_wp2_with (first | (go_at_call 24; refine (ahead_valid _ _ _ _ _ _ _ _ _).mono ?_; rw [HV.out]; rintro e w1 ⟨rfl, hb1⟩; have z1 := hb1.size; (try simp at z1); have L1a := live_below hb1 (b := w.heap.size) (by (repeat (first | with_reducible assumption | ((with_reducible apply live_new) <;> (first | with_reducible rfl | (focus (simp; done)))) | with_reducible apply live_alloc | with_reducible apply live_drew | with_reducible apply live_drewN | ((with_reducible apply live_set_other); (case hb => first | omega | (simp; done))) | with_reducible apply live_set_same | (focus (simp; done))))); obtain ⟨p1a, e1a, f1a⟩ := id L1a; have L1b := live_below hb1 (b := w.heap.size + 1) (by (repeat (first | with_reducible assumption | ((with_reducible apply live_new) <;> (first | with_reducible rfl | (focus (simp; done)))) | with_reducible apply live_alloc | with_reducible apply live_drew | with_reducible apply live_drewN | ((with_reducible apply live_set_other); (case hb => first | omega | (simp; done))) | with_reducible apply live_set_same | (focus (simp; done))))); obtain ⟨p1b, e1b, f1b⟩ := id L1b) | (go_at_call 26; refine (pulse_possible _ _).mono ?_; rw [HP.out]; rintro e wp ⟨rfl, rfl⟩))
    refine gen_world (fun wx => Live wx (w.heap.size + 1) #[.int .i64 0, .int .i64 0, .int .i64 0, .int .i64 0, .int .i64 0, .int .i64 0, .int .i64 0, .int .i64 0, .int .i64 0, .int .i64 0] ∧ Below w.heap.size w wx) ?_ ?_
    · refine ⟨?_, ?_⟩
      all_goals first | (focus ((repeat (first | with_reducible assumption | ((with_reducible apply live_new) <;> (first | with_reducible rfl | (focus (simp; done)))) | with_reducible apply live_alloc | with_reducible apply live_drew | with_reducible apply live_drewN | with_reducible apply live_put10 | with_reducible apply live_put8 | with_reducible apply live_put4 | ((with_reducible apply live_put10_other); (case hb => first | omega | (simp; done))) | ((with_reducible apply live_put8_other); (case hb => first | omega | (simp; done))) | ((with_reducible apply live_put4_other); (case hb => first | omega | (simp; done))) | ((with_reducible apply live_set_other); (case hb => first | omega | (simp; done))) | (focus (simp; done)))); done)) | (repeat' (first | with_reducible exact Below.refl _ _ | with_reducible refine Below.drew ?_ | with_reducible refine below_drewN ?_ _ | with_reducible refine Below.alloc ?_ ?_ _ | with_reducible refine Below.setCell ?_ ?_ _ | with_reducible refine Below.trans ?_ (Below.mono (by with_reducible assumption) ?_) | (simp; done) | (simp; omega) | omega))
    · rintro wx ⟨L5, hb5⟩
      obtain ⟨p5, e5, f5⟩ := id L5
      refine bodyPost_ret (v := .tuple #[.agg #[.int .i64 0, .int .i64 0, .int .i64 0, .int .i64 0, .int .i64 0, .int .i64 0, .int .i64 0, .int .i64 0, .int .i64 0, .int .i64 0], .int .i64 1]) (by simp [results, Try.results12, go_sem, e5]) rfl ⟨rfl, hb5⟩

set_option maxRecDepth 100000 in
set_option maxHeartbeats 8000000 in
theorem pulse_start_ok (a b c d ac en cr ex t : Int) (w : World) (hv : blkValid a b c d ac en cr ex = true) (hp : possB t = true) :
    Calls Try.prog 12 #[.agg #[.int .i64 a, .int .i64 b, .int .i64 c, .int .i64 d, .int .i64 ac, .int .i64 en, .int .i64 cr, .int .i64 ex], .int .i64 t] w (StRes a b c d ac en cr ex 0 (plW (blkN a b c d ac en cr ex) ac en cr ex 1 t) 0 w) := by
  have hn := (blk_pos a b c d ac en cr ex hv).2
  have hw := next0 (blkN a b c d ac en cr ex) ac en cr ex t hn
  have HL : Hid (0 ≤ blkN a b c d ac en cr ex) := Lib.hid (by omega)
  generalize plW (blkN a b c d ac en cr ex) ac en cr ex 1 t = W at *
  have HW := Lib.hid hw
  have HV := Lib.hid hv
  have HP := Lib.hid hp
  clear hv hp hw hn
  go_enter Try.func12, Try.ntmps12
  go_wp2_with (first | (go_at_call 24; refine (ahead_valid _ _ _ _ _ _ _ _ _).mono ?_; rw [HV.out]; rintro e w1 ⟨rfl, hb1⟩; have z1 := hb1.size; (try simp at z1); have L1a := live_below hb1 (b := w.heap.size) (by (repeat (first | with_reducible assumption | ((with_reducible apply live_new) <;> (first | with_reducible rfl | (focus (simp; done)))) | with_reducible apply live_alloc | with_reducible apply live_drew | with_reducible apply live_drewN | ((with_reducible apply live_set_other); (case hb => first | omega | (simp; done))) | with_reducible apply live_set_same | (focus (simp; done))))); obtain ⟨p1a, e1a, f1a⟩ := id L1a; have L1b := live_below hb1 (b := w.heap.size + 1) (by (repeat (first | with_reducible assumption | ((with_reducible apply live_new) <;> (first | with_reducible rfl | (focus (simp; done)))) | with_reducible apply live_alloc | with_reducible apply live_drew | with_reducible apply live_drewN | ((with_reducible apply live_set_other); (case hb => first | omega | (simp; done))) | with_reducible apply live_set_same | (focus (simp; done))))); obtain ⟨p1b, e1b, f1b⟩ := id L1b) | (go_at_call 26; refine (pulse_possible _ _).mono ?_; rw [HP.out]; rintro e wp ⟨rfl, rfl⟩))
  go_region_held3 (fun w' => w'.cell? ⟨w.heap.size, 0, none⟩ = some (.int .i64 a) ∧ w'.cell? ⟨w.heap.size, 1, none⟩ = some (.int .i64 b) ∧ w'.cell? ⟨w.heap.size, 2, none⟩ = some (.int .i64 c) ∧ w'.cell? ⟨w.heap.size, 3, none⟩ = some (.int .i64 d) ∧ w'.cell? ⟨w.heap.size, 4, none⟩ = some (.int .i64 ac) ∧ w'.cell? ⟨w.heap.size, 5, none⟩ = some (.int .i64 en) ∧ w'.cell? ⟨w.heap.size, 6, none⟩ = some (.int .i64 cr) ∧ w'.cell? ⟨w.heap.size, 7, none⟩ = some (.int .i64 ex)) (first | (focus ((with_reducible apply live_eight); (repeat (first | with_reducible assumption | ((with_reducible apply live_new) <;> (first | with_reducible rfl | (focus (simp; done)))) | with_reducible apply live_alloc | with_reducible apply live_drew | with_reducible apply live_drewN | ((with_reducible apply live_set_other); (case hb => first | omega | (simp; done))) | with_reducible apply live_set_same | (focus (simp; done)))); done)) | go_keep)
    (first | (go_at_call 27; refine (pulse_at t _).mono ?_; rintro e w2 ⟨B, rfl, hB, LB, hb2⟩; have z2 := hb2.size; (try simp at z2); have L2a := live_below hb2 (b := w.heap.size) (by (repeat (first | with_reducible assumption | ((with_reducible apply live_new) <;> (first | with_reducible rfl | (focus (simp; done)))) | with_reducible apply live_alloc | with_reducible apply live_drew | with_reducible apply live_drewN | ((with_reducible apply live_set_other); (case hb => first | omega | (simp; done))) | with_reducible apply live_set_same | (focus (simp; done))))); obtain ⟨p2a, e2a, f2a⟩ := id L2a; have L2b := live_below hb2 (b := w.heap.size + 1) (by (repeat (first | with_reducible assumption | ((with_reducible apply live_new) <;> (first | with_reducible rfl | (focus (simp; done)))) | with_reducible apply live_alloc | with_reducible apply live_drew | with_reducible apply live_drewN | ((with_reducible apply live_set_other); (case hb => first | omega | (simp; done))) | with_reducible apply live_set_same | (focus (simp; done))))); obtain ⟨p2b, e2b, f2b⟩ := id L2b) | (go_at_call 28; refine (pulse_wait _ _ _ _ _ _ _ _ _ t B _ ?_ HV.out (by decide) HL.out).mono ?_; (· (repeat (first | with_reducible assumption | ((with_reducible apply live_new) <;> (first | with_reducible rfl | (focus (simp; done)))) | with_reducible apply live_alloc | with_reducible apply live_drew | with_reducible apply live_drewN | ((with_reducible apply live_set_other); (case hb => first | omega | (simp; done))) | with_reducible apply live_set_same | (focus (simp; done))))); rw [HW.out]; rintro e w3 ⟨rfl, hb3⟩; have z3 := hb3.size; (try simp at z3); have L3a := live_below hb3 (b := w.heap.size) (by (repeat (first | with_reducible assumption | ((with_reducible apply live_new) <;> (first | with_reducible rfl | (focus (simp; done)))) | with_reducible apply live_alloc | with_reducible apply live_drew | with_reducible apply live_drewN | ((with_reducible apply live_set_other); (case hb => first | omega | (simp; done))) | with_reducible apply live_set_same | (focus (simp; done))))); obtain ⟨p3a, e3a, f3a⟩ := id L3a; have L3b := live_below hb3 (b := w.heap.size + 1) (by (repeat (first | with_reducible assumption | ((with_reducible apply live_new) <;> (first | with_reducible rfl | (focus (simp; done)))) | with_reducible apply live_alloc | with_reducible apply live_drew | with_reducible apply live_drewN | ((with_reducible apply live_set_other); (case hb => first | omega | (simp; done))) | with_reducible apply live_set_same | (focus (simp; done))))); obtain ⟨p3b, e3b, f3b⟩ := id L3b))
  rename_i hh
  clear hh
  refine gen_world (fun wx => Live wx (w.heap.size + 1) #[.int .i64 a, .int .i64 b, .int .i64 c, .int .i64 d, .int .i64 ac, .int .i64 en, .int .i64 cr, .int .i64 ex, .int .i64 0, .int .i64 W] ∧ Below w.heap.size w wx) ?_ ?_
  · refine ⟨?_, ?_⟩
    all_goals first | (focus ((repeat (first | with_reducible assumption | ((with_reducible apply live_new) <;> (first | with_reducible rfl | (focus (simp; done)))) | with_reducible apply live_alloc | with_reducible apply live_drew | with_reducible apply live_drewN | with_reducible apply live_put10 | with_reducible apply live_put8 | with_reducible apply live_put4 | ((with_reducible apply live_put10_other); (case hb => first | omega | (simp; done))) | ((with_reducible apply live_put8_other); (case hb => first | omega | (simp; done))) | ((with_reducible apply live_put4_other); (case hb => first | omega | (simp; done))) | ((with_reducible apply live_set_other); (case hb => first | omega | (simp; done))) | (focus (simp; done)))); done)) | (repeat' (first | with_reducible exact Below.refl _ _ | with_reducible refine Below.drew ?_ | with_reducible refine below_drewN ?_ _ | with_reducible refine Below.alloc ?_ ?_ _ | with_reducible refine Below.setCell ?_ ?_ _ | with_reducible refine Below.trans ?_ (Below.mono (by with_reducible assumption) ?_) | (simp; done) | (simp; omega) | omega))
  · rintro wx ⟨L5, hb5⟩
    obtain ⟨p5, e5, f5⟩ := id L5
    go_wp2_with fail
    refine bodyPost_ret (v := .tuple #[.agg #[.int .i64 a, .int .i64 b, .int .i64 c, .int .i64 d, .int .i64 ac, .int .i64 en, .int .i64 cr, .int .i64 ex, .int .i64 0, .int .i64 W], .int .i64 0]) (by simp [results, Try.results12, go_sem, e5]) rfl ⟨rfl, hb5⟩

theorem pulse_start (a b c d ac en cr ex t : Int) (w : World) :
    Calls Try.prog 12 #[.agg #[.int .i64 a, .int .i64 b, .int .i64 c, .int .i64 d, .int .i64 ac, .int .i64 en, .int .i64 cr, .int .i64 ex], .int .i64 t] w
      (StRes (psX (blkN a b c d ac en cr ex) t a) (psX (blkN a b c d ac en cr ex) t b) (psX (blkN a b c d ac en cr ex) t c) (psX (blkN a b c d ac en cr ex) t d) (psX (blkN a b c d ac en cr ex) t ac) (psX (blkN a b c d ac en cr ex) t en) (psX (blkN a b c d ac en cr ex) t cr) (psX (blkN a b c d ac en cr ex) t ex) 0 (psW (blkN a b c d ac en cr ex) ac en cr ex t) (psE (blkN a b c d ac en cr ex) t) w) := by
  unfold psX psW psE
  cases hv : blkValid a b c d ac en cr ex
  · have h : psB (blkN a b c d ac en cr ex) t = false := by rw [blk_none _ _ _ _ _ _ _ _ hv]; simp [psB]
    simpa [h] using pulse_start_bad a b c d ac en cr ex t w (.inl hv)
  · have hn := (blk_pos _ _ _ _ _ _ _ _ hv).2
    cases hp : possB t
    · have h : psB (blkN a b c d ac en cr ex) t = false := by simp [psB, hp]
      simpa [h] using pulse_start_bad a b c d ac en cr ex t w (.inr hp)
    · have h : psB (blkN a b c d ac en cr ex) t = true := by simp [psB, hp]; omega
      simpa [h] using pulse_start_ok a b c d ac en cr ex t w hv hp
end Go.Proofs.Ytkiadcgdmeebmaa
