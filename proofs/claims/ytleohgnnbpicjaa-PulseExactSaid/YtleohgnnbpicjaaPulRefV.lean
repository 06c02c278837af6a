/- What Valid and Tick of the reference of chapter 46 return, for all motions and ticks -/
import Derived.Test.YtleohgnnbpicjaaProg
import Derived.WalkKit
import Derived.WalkLawsBesides
import Derived.RegionTactic
import Derived.Deep.RegionWith
import Derived.Deep.RegionHeld3
import Derived.Deep.DeepCutAuto
import Derived.IntWalk
import Derived.Deep.DrawnRows
import Derived.BigRegion
import Derived.Deep.QuietTactic
import Derived.BigQuiet
import Derived.Lib.Hide
import Derived.Test.YtleohgnnbpicjaaKit5
import Derived.Test.YtleohgnnbpicjaaPulTick
import Derived.Test.YtleohgnnbpicjaaPulMadeR
namespace Go.Proofs.Ytleohgnnbpicjaa
open Go.RowKit
set_option linter.unusedVariables false

attribute [local go_sem] cell_past1 cell_past2 cell_past3 cell_past4 froz_past1 froz_past2 froz_past3
attribute [local go_sem ↓] Go.wp_at_zero Go.wp_at_succ

/-- Valid of the reference. -/
def vdB (n ac en cr ex dn wt t : Int) : Bool := possB t && decide (1 ≤ n) && (if dn = n then decide (wt = 0) else plOn n ac en cr ex dn wt t)

theorem on_poss (n ac en cr ex dn wt t : Int) (h : plOn n ac en cr ex dn wt t = true) : possB t = true ∧ 1 ≤ n := by
  have h2 := h
  simp [plOn] at h2
  refine ⟨?_, by omega⟩
  cases hp : possB t
  · have := plW_not n ac en cr ex (dn + 1) t hp
    omega
  · rfl
theorem vd_on (n ac en cr ex dn wt t : Int) (h : plOn n ac en cr ex dn wt t = true) : vdB n ac en cr ex dn wt t = true ∧ enB n dn = false := by
  obtain ⟨h1, h2⟩ := on_poss n ac en cr ex dn wt t h
  have h3 := h
  simp [plOn] at h3
  constructor
  · unfold vdB; rw [h1, if_neg (by omega), h]; simp; omega
  · unfold enB; simp; omega
theorem vd_off (n ac en cr ex dn wt t : Int) (h : plOn n ac en cr ex dn wt t = false) : vdB n ac en cr ex dn wt t = false ∨ (vdB n ac en cr ex dn wt t = true ∧ enB n dn = true) := by
  cases hv : vdB n ac en cr ex dn wt t
  · exact .inl rfl
  · right
    refine ⟨rfl, ?_⟩
    unfold vdB at hv
    split at hv
    · rename_i e
      simp at hv
      simp [enB]; omega
    · rw [h] at hv
      simp at hv

set_option maxRecDepth 100000 in
set_option maxHeartbeats 8000000 in
theorem ref46_valid_bad (a b c d ac en cr ex dn wt t : Int) (w : World) (h : blkValid a b c d ac en cr ex = false ∨ possB t = false) :
    Calls Try.prog 29 #[.agg #[.int .i64 a, .int .i64 b, .int .i64 c, .int .i64 d, .int .i64 ac, .int .i64 en, .int .i64 cr, .int .i64 ex, .int .i64 dn, .int .i64 wt], .int .i64 t] w fun e w' => e = .returned (.bool false) ∧ Below w.heap.size w w' := by
  rcases (by simp [possB] at h; rcases h with h | h; (by_cases h1 : t < 1; exact .inl h1; right; by_cases h2 : 1048576 < t; exact .inl ⟨by omega, h2⟩; exact .inr ⟨by omega, by omega, h⟩); (by_cases h1 : t < 1; exact .inl h1; right; left; omega) :
      t < 1 ∨ (1 ≤ t ∧ 1048576 < t) ∨ (1 ≤ t ∧ t ≤ 1048576 ∧ blkValid a b c d ac en cr ex = false)) with h1 | ⟨h1, h2⟩ | ⟨h1, h2, hv⟩
  all_goals
    try have HV := Lib.hid hv
    clear h
    try clear hv
    go_enter Try.func29, Try.ntmps29
    go_wp2_with (go_at_call 16; refine (ref44_valid _ _ _ _ _ _ _ _ _).mono ?_; rw [HV.out]; rintro e w1 ⟨rfl, hb1⟩; have z1 := hb1.size; (try simp at z1); have L1a := live_below hb1 (b := w.heap.size) (by (repeat (first | with_reducible assumption | ((with_reducible apply live_new) <;> (first | with_reducible rfl | (focus (simp; done)))) | with_reducible apply live_alloc | with_reducible apply live_drew | with_reducible apply live_drewN | ((with_reducible apply live_set_other); (case hb => first | omega | (simp; done))) | with_reducible apply live_set_same | (focus (simp; done))))); obtain ⟨p1a, e1a, f1a⟩ := id L1a)
    all_goals go_ret
    all_goals exact ⟨rfl, by (repeat' (first | with_reducible exact Below.refl _ _ | with_reducible refine Below.drew ?_ | with_reducible refine below_drewN ?_ _ | with_reducible refine Below.alloc ?_ ?_ _ | with_reducible refine Below.setCell ?_ ?_ _ | with_reducible refine Below.trans ?_ (Below.mono (by with_reducible assumption) ?_) | (simp; done) | (simp; omega) | omega))⟩

set_option maxRecDepth 100000 in
set_option maxHeartbeats 8000000 in
theorem ref46_valid_end (a b c d ac en cr ex dn wt t : Int) (w : World) (hv : blkValid a b c d ac en cr ex = true) (hp : possB t = true) (hd : dn = ddaDom a b c d) :
    Calls Try.prog 29 #[.agg #[.int .i64 a, .int .i64 b, .int .i64 c, .int .i64 d, .int .i64 ac, .int .i64 en, .int .i64 cr, .int .i64 ex, .int .i64 dn, .int .i64 wt], .int .i64 t] w fun e w' => e = .returned (.bool (wt == 0)) ∧ Below w.heap.size w w' := by
  have HV := Lib.hid hv
  have HP := Lib.hid hd.symm
  simp [possB] at hp
  obtain ⟨t0, t1⟩ := hp
  clear hv hd
  go_enter Try.func29, Try.ntmps29
  go_wp2_with (first | (go_at_call 16; refine (ref44_valid _ _ _ _ _ _ _ _ _).mono ?_; rw [HV.out]; rintro e w1 ⟨rfl, hb1⟩; have z1 := hb1.size; (try simp at z1); have L1a := live_below hb1 (b := w.heap.size) (by (repeat (first | with_reducible assumption | ((with_reducible apply live_new) <;> (first | with_reducible rfl | (focus (simp; done)))) | with_reducible apply live_alloc | with_reducible apply live_drew | with_reducible apply live_drewN | ((with_reducible apply live_set_other); (case hb => first | omega | (simp; done))) | with_reducible apply live_set_same | (focus (simp; done))))); obtain ⟨p1a, e1a, f1a⟩ := id L1a) | (go_at_call 39; refine (ref42_dom _ _ _ _ _).mono ?_; rw [HP.out]; rintro e w2 ⟨rfl, rfl⟩))
  all_goals go_ret
  all_goals exact ⟨rfl, by (repeat' (first | with_reducible exact Below.refl _ _ | with_reducible refine Below.drew ?_ | with_reducible refine below_drewN ?_ _ | with_reducible refine Below.alloc ?_ ?_ _ | with_reducible refine Below.setCell ?_ ?_ _ | with_reducible refine Below.trans ?_ (Below.mono (by with_reducible assumption) ?_) | (simp; done) | (simp; omega) | omega))⟩

set_option maxRecDepth 100000 in
set_option maxHeartbeats 8000000 in
theorem ref46_valid_out (a b c d ac en cr ex dn wt t : Int) (w : World) (hv : blkValid a b c d ac en cr ex = true) (hp : possB t = true) (hd : dn ≠ ddaDom a b c d) (hb : dn < 0 ∨ ddaDom a b c d ≤ dn ∨ wt < 1) :
    Calls Try.prog 29 #[.agg #[.int .i64 a, .int .i64 b, .int .i64 c, .int .i64 d, .int .i64 ac, .int .i64 en, .int .i64 cr, .int .i64 ex, .int .i64 dn, .int .i64 wt], .int .i64 t] w fun e w' => e = .returned (.bool false) ∧ Below w.heap.size w w' := by
  have hn0 := (ddaDom_in a b c d).1
  have HV := Lib.hid hv
  simp [possB] at hp
  obtain ⟨t0, t1⟩ := hp
  clear hv
  generalize hP : ddaDom a b c d = n at *
  have HP := Lib.hid hP
  have hne : (dn == n) = false := beq_eq_false_iff_ne.2 hd
  clear hP hd
  rcases (by omega : dn < 0 ∨ (0 ≤ dn ∧ n ≤ dn) ∨ (0 ≤ dn ∧ dn < n ∧ wt < 1)) with h | ⟨h0, h⟩ | ⟨h0, h, h2⟩
  all_goals
    clear hb
    first | (have d0 : decide (0 ≤ dn) = true := by simp; omega) | (have d0 : decide (0 ≤ dn) = false := by simp; omega)
    first | (have d1 : decide (dn < n) = true := by simp; omega) | (have d1 : decide (dn < n) = false := by simp; omega)
    try (have d2 : decide (1 ≤ wt) = false := by simp; omega)
    go_enter Try.func29, Try.ntmps29
    go_wp2_with (first | (go_at_call 16; refine (ref44_valid _ _ _ _ _ _ _ _ _).mono ?_; rw [HV.out]; rintro e w1 ⟨rfl, hb1⟩; have z1 := hb1.size; (try simp at z1); have L1a := live_below hb1 (b := w.heap.size) (by (repeat (first | with_reducible assumption | ((with_reducible apply live_new) <;> (first | with_reducible rfl | (focus (simp; done)))) | with_reducible apply live_alloc | with_reducible apply live_drew | with_reducible apply live_drewN | ((with_reducible apply live_set_other); (case hb => first | omega | (simp; done))) | with_reducible apply live_set_same | (focus (simp; done))))); obtain ⟨p1a, e1a, f1a⟩ := id L1a) | (go_at_call 39; refine (ref42_dom _ _ _ _ _).mono ?_; rw [HP.out]; rintro e w2 ⟨rfl, rfl⟩))
    go_quiet (fail)
    all_goals go_wp2_with fail
    all_goals go_ret
    all_goals exact ⟨rfl, by (repeat' (first | with_reducible exact Below.refl _ _ | with_reducible refine Below.drew ?_ | with_reducible refine below_drewN ?_ _ | with_reducible refine Below.alloc ?_ ?_ _ | with_reducible refine Below.setCell ?_ ?_ _ | with_reducible refine Below.trans ?_ (Below.mono (by with_reducible assumption) ?_) | (simp; done) | (simp; omega) | omega))⟩

set_option maxRecDepth 100000 in
set_option maxHeartbeats 8000000 in
theorem ref46_valid_in (a b c d ac en cr ex dn wt t : Int) (w : World) (hv : blkValid a b c d ac en cr ex = true) (hp : possB t = true) (h0 : 0 ≤ dn) (h1 : dn < ddaDom a b c d) (h2 : 1 ≤ wt) :
    Calls Try.prog 29 #[.agg #[.int .i64 a, .int .i64 b, .int .i64 c, .int .i64 d, .int .i64 ac, .int .i64 en, .int .i64 cr, .int .i64 ex, .int .i64 dn, .int .i64 wt], .int .i64 t] w fun e w' => e = .returned (.bool (decide (wt ≤ plW (blkN a b c d ac en cr ex) ac en cr ex (dn + 1) t))) ∧ Below w.heap.size w w' := by
  have hi := (ddaDom_in a b c d).2
  have HV := Lib.hid hv
  simp [possB] at hp
  obtain ⟨t0, t1⟩ := hp
  clear hv
  generalize hW : plW (blkN a b c d ac en cr ex) ac en cr ex (dn + 1) t = W
  have hW2 : ivV (sqV (blkN a b c d ac en cr ex) ac en cr ex (dn + 1)) t = W := hW
  have HW := Lib.hid hW2
  generalize hP : ddaDom a b c d = n at *
  have HP := Lib.hid hP
  have hne : (dn == n) = false := beq_eq_false_iff_ne.2 (by omega)
  clear hP hW hW2
  have k1 : IntKind.i64.wrap (dn + 1) = dn + 1 := IntWalk.i64_in _ (by omega)
  have d0 : decide (0 ≤ dn) = true := by simp; omega
  have d1 : decide (dn < n) = true := by simp; omega
  have d2 : decide (1 ≤ wt) = true := by simp; omega
  go_enter Try.func29, Try.ntmps29
  go_wp2_with (first | (go_at_call 16; refine (ref44_valid _ _ _ _ _ _ _ _ _).mono ?_; rw [HV.out]; rintro e w1 ⟨rfl, hb1⟩; have z1 := hb1.size; (try simp at z1); have L1a := live_below hb1 (b := w.heap.size) (by (repeat (first | with_reducible assumption | ((with_reducible apply live_new) <;> (first | with_reducible rfl | (focus (simp; done)))) | with_reducible apply live_alloc | with_reducible apply live_drew | with_reducible apply live_drewN | ((with_reducible apply live_set_other); (case hb => first | omega | (simp; done))) | with_reducible apply live_set_same | (focus (simp; done))))); obtain ⟨p1a, e1a, f1a⟩ := id L1a) | (go_at_call 39; refine (ref42_dom _ _ _ _ _).mono ?_; rw [HP.out]; rintro e w2 ⟨rfl, rfl⟩))
  go_region_held3 (fun w' => w'.cell? ⟨w.heap.size, 0, none⟩ = some (.int .i64 a) ∧ w'.cell? ⟨w.heap.size, 1, none⟩ = some (.int .i64 b) ∧ w'.cell? ⟨w.heap.size, 2, none⟩ = some (.int .i64 c) ∧ w'.cell? ⟨w.heap.size, 3, none⟩ = some (.int .i64 d) ∧ w'.cell? ⟨w.heap.size, 4, none⟩ = some (.int .i64 ac) ∧ w'.cell? ⟨w.heap.size, 5, none⟩ = some (.int .i64 en) ∧ w'.cell? ⟨w.heap.size, 6, none⟩ = some (.int .i64 cr) ∧ w'.cell? ⟨w.heap.size, 7, none⟩ = some (.int .i64 ex) ∧ w'.cell? ⟨w.heap.size, 8, none⟩ = some (.int .i64 dn) ∧ w'.cell? ⟨w.heap.size, 9, none⟩ = some (.int .i64 wt)) (first | (focus ((with_reducible apply live_ten); (repeat (first | with_reducible assumption | ((with_reducible apply live_new) <;> (first | with_reducible rfl | (focus (simp; done)))) | with_reducible apply live_alloc | with_reducible apply live_drew | with_reducible apply live_drewN | ((with_reducible apply live_set_other); (case hb => first | omega | (simp; done))) | with_reducible apply live_set_same | (focus (simp; done)))); done)) | go_keep)
    ((go_at_call 38; refine (ref45_interval _ _ _ _ _ _ _ _ _ _ _).mono ?_; rw [HW.out]; rintro e w3 ⟨rfl, hb3⟩; have z3 := hb3.size; (try simp at z3); have L3a := live_below hb3 (b := w.heap.size) (by (repeat (first | with_reducible assumption | ((with_reducible apply live_new) <;> (first | with_reducible rfl | (focus (simp; done)))) | with_reducible apply live_alloc | with_reducible apply live_drew | with_reducible apply live_drewN | ((with_reducible apply live_set_other); (case hb => first | omega | (simp; done))) | with_reducible apply live_set_same | (focus (simp; done))))); obtain ⟨p3a, e3a, f3a⟩ := id L3a))
  all_goals go_wp2_with fail
  all_goals go_ret
  all_goals exact ⟨rfl, by (repeat' (first | with_reducible exact Below.refl _ _ | with_reducible refine Below.drew ?_ | with_reducible refine below_drewN ?_ _ | with_reducible refine Below.alloc ?_ ?_ _ | with_reducible refine Below.setCell ?_ ?_ _ | with_reducible refine Below.trans ?_ (Below.mono (by with_reducible assumption) ?_) | (simp; done) | (simp; omega) | omega))⟩

theorem ref46_valid (a b c d ac en cr ex dn wt t : Int) (w : World) :
    Calls Try.prog 29 #[.agg #[.int .i64 a, .int .i64 b, .int .i64 c, .int .i64 d, .int .i64 ac, .int .i64 en, .int .i64 cr, .int .i64 ex, .int .i64 dn, .int .i64 wt], .int .i64 t] w fun e w' => e = .returned (.bool (vdB (blkN a b c d ac en cr ex) ac en cr ex dn wt t)) ∧ Below w.heap.size w w' := by
  cases hv : blkValid a b c d ac en cr ex
  · have h : vdB (blkN a b c d ac en cr ex) ac en cr ex dn wt t = false := by rw [blk_none _ _ _ _ _ _ _ _ hv]; simp [vdB]
    rw [h]
    exact ref46_valid_bad a b c d ac en cr ex dn wt t w (.inl hv)
  · obtain ⟨hn, h1⟩ := blk_pos _ _ _ _ _ _ _ _ hv
    cases hp : possB t
    · have h : vdB (blkN a b c d ac en cr ex) ac en cr ex dn wt t = false := by simp [vdB, hp]
      rw [h]
      exact ref46_valid_bad a b c d ac en cr ex dn wt t w (.inr hp)
    · by_cases hd : dn = ddaDom a b c d
      · have h : vdB (blkN a b c d ac en cr ex) ac en cr ex dn wt t = (wt == 0) := by
          unfold vdB; rw [hp, if_pos (by omega)]; rw [Bool.eq_iff_iff]; simp; omega
        rw [h]
        exact ref46_valid_end a b c d ac en cr ex dn wt t w hv hp hd
      · have h : vdB (blkN a b c d ac en cr ex) ac en cr ex dn wt t = plOn (blkN a b c d ac en cr ex) ac en cr ex dn wt t := by
          unfold vdB; rw [hp, if_neg (by omega), Bool.eq_iff_iff]; simp; omega
        rw [h]
        by_cases hb : dn < 0 ∨ ddaDom a b c d ≤ dn ∨ wt < 1
        · have h2 : plOn (blkN a b c d ac en cr ex) ac en cr ex dn wt t = false := by unfold plOn; simp; omega
          rw [h2]
          exact ref46_valid_out a b c d ac en cr ex dn wt t w hv hp hd hb
        · have h2 : plOn (blkN a b c d ac en cr ex) ac en cr ex dn wt t = decide (wt ≤ plW (blkN a b c d ac en cr ex) ac en cr ex (dn + 1) t) := by
            unfold plOn; rw [Bool.eq_iff_iff]; simp; omega
          rw [h2]
          exact ref46_valid_in a b c d ac en cr ex dn wt t w hv hp (by omega) (by omega) (by omega)
end Go.Proofs.Ytleohgnnbpicjaa
