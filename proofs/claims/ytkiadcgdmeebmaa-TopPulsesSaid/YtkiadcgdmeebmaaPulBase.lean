/- What the runner of pulse returns: possible, at, its closure, wait, runs -/
import Derived.Test.YtkiadcgdmeebmaaProg
import Derived.WalkKit
import Derived.WalkLawsBesides
import Derived.RegionTactic
import Derived.Deep.RegionWith
import Derived.Deep.RegionHeld3
import Derived.IntWalk
import Derived.Laws.EntriesVeiled
import Derived.Deep.DrawnRows
import Derived.BigRegion
import Derived.Lib.Hide
import Derived.Test.YtkiadcgdmeebmaaKit5
import Derived.Test.YtkiadcgdmeebmaaRmpPlain
namespace Go.Proofs.Ytkiadcgdmeebmaa
open Go.RowKit
set_option linter.unusedVariables false

attribute [local go_sem] cell_past1 cell_past2 cell_past3 cell_past4 froz_past1 froz_past2 froz_past3
attribute [local go_sem ↓] Go.wp_at_zero Go.wp_at_succ

/-- The interval of step i of a block with n steps. -/
def plW (n ac en cr ex i t : Int) : Int := ivV (sqV n ac en cr ex i) t
def plOn (n ac en cr ex dn wt t : Int) : Bool := decide (0 ≤ dn ∧ dn < n ∧ 1 ≤ wt ∧ wt ≤ plW n ac en cr ex (dn + 1) t)
def plNext (n ac en cr ex dn t : Int) : Int := if dn = n then 0 else plW n ac en cr ex (dn + 1) t
def possB (t : Int) : Bool := decide (1 ≤ t ∧ t ≤ 1048576)

theorem ivV_in (s t : Int) (h : s ≤ 1099511627776) : 0 ≤ ivV s t ∧ ivV s t ≤ 1048576 := by
  unfold ivV
  split
  · omega
  · have := ivl_in s t (by omega) h (by omega)
    omega
theorem plW_in (a b c d ac en cr ex i t : Int) : 0 ≤ plW (blkN a b c d ac en cr ex) ac en cr ex i t ∧ plW (blkN a b c d ac en cr ex) ac en cr ex i t ≤ 1048576 :=
  ivV_in _ _ (sqV_in a b c d ac en cr ex i).2
theorem plW_not (n ac en cr ex i t : Int) (h : possB t = false) : plW n ac en cr ex i t = 0 := by
  unfold plW ivV; rw [if_pos]; simp [possB] at h; omega
theorem blk_pos (a b c d ac en cr ex : Int) (h : blkValid a b c d ac en cr ex = true) : blkN a b c d ac en cr ex = ddaDom a b c d ∧ 1 ≤ blkN a b c d ac en cr ex := by
  have e : blkN a b c d ac en cr ex = ddaDom a b c d := by unfold blkN; rw [if_pos h]
  have hv : ddaValid a b c d = true := by simp [blkValid, blkSound] at h; exact h.1.1
  exact ⟨e, by rw [e]; exact ddaDom_pos a b c d hv⟩
theorem blk_none (a b c d ac en cr ex : Int) (h : blkValid a b c d ac en cr ex = false) : blkN a b c d ac en cr ex = 0 := by
  unfold blkN; simp [h]

set_option maxRecDepth 100000 in
theorem pulse_possible (t : Int) (w : World) : Calls Try.prog 26 #[.int .i64 t] w fun e w' => e = .returned (.bool (possB t)) ∧ w = w' := by
  go_enter Try.func26, Try.ntmps26
  go_wp2
  all_goals go_ret
  all_goals refine ⟨ret_bool ?_, rfl⟩
  all_goals (unfold possB; rw [Bool.eq_iff_iff]; simp; omega)

def AtRel (t : Int) (w : World) (e : Ending) (w' : World) : Prop :=
  ∃ B : Nat, e = .returned (.agg #[.func (.func 40) #[] #[.pointer (some ⟨B, 0, none⟩)]]) ∧ w.heap.size ≤ B ∧ Live w' B #[.int .i64 t] ∧ Below w.heap.size w w'

set_option maxRecDepth 100000 in
set_option maxHeartbeats 4000000 in
theorem pulse_at (t : Int) (w : World) : Calls Try.prog 27 #[.int .i64 t] w (AtRel t w) := by
  have hmf : ∀ (fn : Fn) (first cap : Array Value) (w : World), (Instr.makeFunc fn first cap).run Try.prog w = .ok (.func fn first cap) w := fun _ _ _ _ => rfl
  go_enter Try.func27, Try.ntmps27
  go_wp2
  refine bodyPost_ret (v := .agg #[.func (.func 40) #[] #[.pointer (some ⟨w.heap.size, 0, none⟩)]]) (by simp [results, Try.results27, go_sem]) rfl ⟨w.heap.size, rfl, Nat.le_refl _, ?_, ?_⟩
  · (repeat (first | with_reducible assumption | ((with_reducible apply live_new) <;> (first | with_reducible rfl | (focus (simp; done)))) | with_reducible apply live_alloc | with_reducible apply live_drew | with_reducible apply live_drewN | ((with_reducible apply live_set_other); (case hb => first | omega | (simp; done))) | with_reducible apply live_set_same | (focus (simp; done))))
  · (repeat' (first | with_reducible exact Below.refl _ _ | with_reducible refine Below.drew ?_ | with_reducible refine below_drewN ?_ _ | with_reducible refine Below.alloc ?_ ?_ _ | with_reducible refine Below.setCell ?_ ?_ _ | with_reducible refine Below.trans ?_ (Below.mono (by with_reducible assumption) ?_) | (simp; done) | (simp; omega) | omega))

set_option maxRecDepth 100000 in
set_option maxHeartbeats 4000000 in
theorem pulse_at1 (a b c d ac en cr ex i t : Int) (B : Nat) (w : World) (L : Live w B #[.int .i64 t]) :
    Calls Try.prog 40 #[.agg #[.int .i64 a, .int .i64 b, .int .i64 c, .int .i64 d, .int .i64 ac, .int .i64 en, .int .i64 cr, .int .i64 ex], .int .i64 i, .pointer (some ⟨B, 0, none⟩)] w fun e w' => e = .returned (.int .i64 (plW (blkN a b c d ac en cr ex) ac en cr ex i t)) ∧ Below w.heap.size w w' := by
  obtain ⟨p, e1, f⟩ := id L
  go_enter Try.func40, Try.ntmps40
  go_wp2_with (go_at_call 41; refine (ramp_interval _ _ _ _ _ _ _ _ _ _ _).mono ?_; rintro e w1 ⟨rfl, hb1⟩; have z1 := hb1.size; (try simp at z1))
  all_goals go_ret
  all_goals exact ⟨rfl, by (repeat' (first | with_reducible exact Below.refl _ _ | with_reducible refine Below.drew ?_ | with_reducible refine below_drewN ?_ _ | with_reducible refine Below.alloc ?_ ?_ _ | with_reducible refine Below.setCell ?_ ?_ _ | with_reducible refine Below.trans ?_ (Below.mono (by with_reducible assumption) ?_) | (simp; done) | (simp; omega) | omega))⟩

set_option maxRecDepth 100000 in
set_option maxHeartbeats 4000000 in
theorem pulse_wait (a b c d ac en cr ex dn t : Int) (B : Nat) (w : World) (L : Live w B #[.int .i64 t]) (hv : blkValid a b c d ac en cr ex = true) (h0 : 0 ≤ dn) (h1 : dn ≤ blkN a b c d ac en cr ex) :
    Calls Try.prog 28 #[.agg #[.func (.func 40) #[] #[.pointer (some ⟨B, 0, none⟩)]], .agg #[.int .i64 a, .int .i64 b, .int .i64 c, .int .i64 d, .int .i64 ac, .int .i64 en, .int .i64 cr, .int .i64 ex], .int .i64 dn] w fun e w' => e = .returned (.int .i64 (plNext (blkN a b c d ac en cr ex) ac en cr ex dn t)) ∧ Below w.heap.size w w' := by
  have hp := blk_pos a b c d ac en cr ex hv
  have hi := blkN_in a b c d ac en cr ex
  have HP : Hid (ddaDom a b c d = blkN a b c d ac en cr ex) := Lib.hid hp.1.symm
  have hn := hp.2
  clear hv hp
  generalize hN : blkN a b c d ac en cr ex = n at *
  have HN := Lib.hid hN
  clear hN
  obtain ⟨p, e1, f⟩ := id L
  by_cases h : dn = n
  · subst h
    have HR : Hid (plNext dn ac en cr ex dn t = 0) := by show _ = _; unfold plNext; rw [if_pos rfl]
    go_enter Try.func28, Try.ntmps28
    go_wp2_with (go_at_call 29; refine (dda_dom _ _ _ _ _).mono ?_; rw [HP.out]; rintro e w2 ⟨rfl, rfl⟩)
    all_goals go_ret
    all_goals exact ⟨ret_int HR.out.symm, by (repeat' (first | with_reducible exact Below.refl _ _ | with_reducible refine Below.drew ?_ | with_reducible refine below_drewN ?_ _ | with_reducible refine Below.alloc ?_ ?_ _ | with_reducible refine Below.setCell ?_ ?_ _ | with_reducible refine Below.trans ?_ (Below.mono (by with_reducible assumption) ?_) | (simp; done) | (simp; omega) | omega))⟩
  · have HR : Hid (plNext n ac en cr ex dn t = plW n ac en cr ex (dn + 1) t) := by show _ = _; unfold plNext; rw [if_neg h]
    have hne : (dn == n) = false := beq_eq_false_iff_ne.2 h
    clear h
    go_enter Try.func28, Try.ntmps28
    go_wp2_with (go_at_call 29; refine (dda_dom _ _ _ _ _).mono ?_; rw [HP.out]; rintro e w2 ⟨rfl, rfl⟩)
    refine (pulse_at1 _ _ _ _ _ _ _ _ _ t B _ ?_).mono ?_
    · (repeat (first | with_reducible assumption | ((with_reducible apply live_new) <;> (first | with_reducible rfl | (focus (simp; done)))) | with_reducible apply live_alloc | with_reducible apply live_drew | with_reducible apply live_drewN | ((with_reducible apply live_set_other); (case hb => first | omega | (simp; done))) | with_reducible apply live_set_same | (focus (simp; done))))
    rw [HN.out]
    rintro e w1 ⟨rfl, hb1⟩; have z1 := hb1.size; (try simp at z1)
    go_wp2
    go_ret
    exact ⟨ret_int HR.out.symm, by (repeat' (first | with_reducible exact Below.refl _ _ | with_reducible refine Below.drew ?_ | with_reducible refine below_drewN ?_ _ | with_reducible refine Below.alloc ?_ ?_ _ | with_reducible refine Below.setCell ?_ ?_ _ | with_reducible refine Below.trans ?_ (Below.mono (by with_reducible assumption) ?_) | (simp; done) | (simp; omega) | omega))⟩

end Go.Proofs.Ytkiadcgdmeebmaa
