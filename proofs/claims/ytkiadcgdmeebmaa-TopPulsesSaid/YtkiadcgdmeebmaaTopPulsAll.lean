/- TopPulses: along any way the pulses of all blocks add up to the steps of the last position; for all machines, ways and feeds (ways that take more than 4000 ticks, and those that the law lets pass, are answered true as well) -/
import Derived.Test.YtkiadcgdmeebmaaProg
import Derived.WalkKit
import Derived.WalkLawsBesides
import Derived.RegionTactic
import Derived.Deep.RegionWith
import Derived.Deep.RegionHeld3
import Derived.IntWalk
import Derived.StillTailTactics
import Derived.Deep.DeepCutAuto
import Derived.Outline
import Derived.Laws.EntriesVeiled
import Derived.Deep.DrawnRows
import Derived.BigRegion
import Derived.Deep.QuietTactic
import Derived.BigQuiet
import Derived.Lib.Hide
import Derived.Handy
import Derived.Test.YtkiadcgdmeebmaaDdaPulse
import Derived.Test.YtkiadcgdmeebmaaKit5
import Derived.Test.YtkiadcgdmeebmaaPulRuns
import Derived.Test.YtkiadcgdmeebmaaDdaAt
import Derived.Test.YtkiadcgdmeebmaaPulBase
import Derived.Test.YtkiadcgdmeebmaaTopMoved
import Derived.Test.YtkiadcgdmeebmaaTopLaw

/- Plain facts on the steps of a motor: nearness, bounds, signs, the ends -/
namespace Go.Proofs.Ytkiadcgdmeebmaa

theorem ab_neg (x : Int) : ab (-x) = ab x := by unfold ab; omega
theorem dom4_neg (a b c d : Int) : dom4 (-a) (-b) (-c) (-d) = dom4 a b c d := by unfold dom4; rw [ab_neg, ab_neg, ab_neg, ab_neg]
theorem ddaValid_neg (a b c d : Int) : ddaValid (-a) (-b) (-c) (-d) = ddaValid a b c d := by
  unfold ddaValid; rw [Bool.eq_iff_iff]; simp; omega
theorem ddaDom_neg (a b c d : Int) : ddaDom (-a) (-b) (-c) (-d) = ddaDom a b c d := by
  unfold ddaDom; rw [ddaValid_neg, dom4_neg]

theorem atI_neg (n i x : Int) (hn : 1 ≤ n) : atI n i (-x) = - atI n i x := by
  unfold atI
  rw [ab_neg]
  by_cases h0 : x = 0
  · subst h0
    have e : (2 * i * ab 0 + n) / (2 * n) = 0 := by
      have : ab 0 = 0 := by unfold ab; omega
      rw [this, Int.mul_zero, Int.zero_add]
      exact Int.ediv_eq_zero_of_lt (by omega) (by omega)
    rw [e]; simp
  · by_cases h : x < 0
    · rw [if_neg (by omega), if_pos h]; omega
    · rw [if_pos (by omega), if_neg h]
theorem atM_neg (n i x : Int) (hn : 0 ≤ n) : atM n i (-x) = - atM n i x := by
  unfold atM
  split
  · rfl
  · exact atI_neg n _ x (by omega)

/-- The size of the steps: k with 2 n k - n ≤ 2 i |x| ≤ 2 n k + n. -/
theorem at_near (n i x : Int) (hn : 1 ≤ n) : 2 * n * ((2 * i * ab x + n) / (2 * n)) - n ≤ 2 * i * ab x ∧ 2 * i * ab x ≤ 2 * n * ((2 * i * ab x + n) / (2 * n)) + n := by
  have h1 := Int.mul_ediv_add_emod (2 * i * ab x + n) (2 * n)
  have h2 := Int.emod_nonneg (2 * i * ab x + n) (b := 2 * n) (by omega)
  have h3 := Int.emod_lt_of_pos (2 * i * ab x + n) (b := 2 * n) (by omega)
  omega
theorem atI_near (n i x : Int) (hn : 1 ≤ n) : -n ≤ 2 * atI n i x * n - 2 * i * x ∧ 2 * atI n i x * n - 2 * i * x ≤ n := by
  have h := at_near n i x hn
  unfold atI
  generalize hq : (2 * i * ab x + n) / (2 * n) = q at *
  have e1 : 2 * n * q = 2 * q * n := by rw [Int.mul_assoc, Int.mul_assoc, Int.mul_comm n q]
  by_cases hx : x < 0
  · rw [if_pos hx]
    have e2 : ab x = -x := by unfold ab; omega
    rw [e2, Int.mul_neg] at h
    have e3 : 2 * -q * n = -(2 * q * n) := by rw [Int.mul_neg, Int.neg_mul]
    rw [e3]
    omega
  · rw [if_neg hx]
    have e2 : ab x = x := by unfold ab; omega
    rw [e2] at h
    omega
/-- A motor makes no more steps than it has. -/
theorem at_le (n i x : Int) (hn : 1 ≤ n) (h0 : 0 ≤ i) (h1 : i ≤ n) : 0 ≤ (2 * i * ab x + n) / (2 * n) ∧ (2 * i * ab x + n) / (2 * n) ≤ ab x := by
  have hab : 0 ≤ ab x := by unfold ab; omega
  constructor
  · exact Int.ediv_nonneg (by have : 0 ≤ 2 * i * ab x := Int.mul_nonneg (by omega) hab; omega) (by omega)
  · have h2 : 2 * i * ab x ≤ 2 * n * ab x := Int.mul_le_mul_of_nonneg_right (by omega) hab
    have h3 : (2 * i * ab x + n) / (2 * n) ≤ (n + ab x * (2 * n)) / (2 * n) := Int.ediv_le_ediv (by omega) (by rw [Int.mul_comm (ab x)]; omega)
    have h4 : n / (2 * n) = 0 := Int.ediv_eq_zero_of_lt (by omega) (by omega)
    rw [Int.add_mul_ediv_right _ _ (by omega), h4] at h3
    omega
theorem atI_le (n i x : Int) (hn : 1 ≤ n) (h0 : 0 ≤ i) (h1 : i ≤ n) (hx : -16777216 ≤ x ∧ x ≤ 16777216) : -16777216 ≤ atI n i x ∧ atI n i x ≤ 16777216 := by
  have h := at_le n i x hn h0 h1
  have h2 := ab_in (B := 16777216) hx.1 hx.2
  unfold atI
  split <;> omega
theorem atI_full (n x : Int) (hn : 1 ≤ n) : atI n n x = x := by
  unfold atI
  have e : (2 * n * ab x + n) / (2 * n) = ab x := by
    rw [Int.add_comm, Int.mul_comm (2 * n), Int.add_mul_ediv_right _ _ (by omega), Int.ediv_eq_zero_of_lt (by omega) (by omega)]; omega
  rw [e]; unfold ab
  split <;> omega
theorem atI_none (n x : Int) (hn : 1 ≤ n) : atI n 0 x = 0 := by
  unfold atI
  have e : (2 * 0 * ab x + n) / (2 * n) = 0 := by
    rw [Int.mul_zero, Int.zero_mul, Int.zero_add]; exact Int.ediv_eq_zero_of_lt (by omega) (by omega)
  rw [e]; simp
end Go.Proofs.Ytkiadcgdmeebmaa

/- What Tick of pulse returns -/
namespace Go.Proofs.Ytkiadcgdmeebmaa
open Go.RowKit
set_option linter.unusedVariables false

attribute [local go_sem] cell_past1 cell_past2 cell_past3 cell_past4 froz_past1 froz_past2 froz_past3
attribute [local go_sem ↓] Go.wp_at_zero Go.wp_at_succ

def tkWt (n ac en cr ex dn wt t : Int) : Int := if plOn n ac en cr ex dn wt t then (if 1 < wt then wt - 1 else plNext n ac en cr ex (dn + 1) t) else wt
def tkDn (n ac en cr ex dn wt t : Int) : Int := if plOn n ac en cr ex dn wt t ∧ ¬ 1 < wt then dn + 1 else dn
def tkPu (n ac en cr ex dn wt t x : Int) : Int := if plOn n ac en cr ex dn wt t ∧ ¬ 1 < wt then puM n (dn + 1) x else 0

def TickRes (a b c d ac en cr ex dn wt p q r s : Int) (w : World) (e : Ending) (w' : World) : Prop :=
  e = .returned (.tuple #[.agg #[.int .i64 a, .int .i64 b, .int .i64 c, .int .i64 d, .int .i64 ac, .int .i64 en, .int .i64 cr, .int .i64 ex, .int .i64 dn, .int .i64 wt], .agg #[.int .i64 p, .int .i64 q, .int .i64 r, .int .i64 s]]) ∧ Below w.heap.size w w'

set_option maxRecDepth 100000 in
set_option maxHeartbeats 8000000 in
theorem pulse_tick_off (a b c d ac en cr ex dn wt t : Int) (w : World) (h : possB t = false ∨ plOn (blkN a b c d ac en cr ex) ac en cr ex dn wt t = false) :
    Calls Try.prog 14 #[.agg #[.int .i64 a, .int .i64 b, .int .i64 c, .int .i64 d, .int .i64 ac, .int .i64 en, .int .i64 cr, .int .i64 ex, .int .i64 dn, .int .i64 wt], .int .i64 t] w (TickRes a b c d ac en cr ex dn wt 0 0 0 0 w) := by
  rcases (by cases hp : possB t; exact .inl rfl; right; rw [hp] at h; simpa using h : possB t = false ∨ (possB t = true ∧ plOn (blkN a b c d ac en cr ex) ac en cr ex dn wt t = false)) with hp | ⟨hp, hr⟩
  · have HP := Lib.hid hp
    clear h hp
    go_enter Try.func14, Try.ntmps14
    go_wp2_with (first | (go_at_call 27; refine (pulse_at t _).mono ?_; rintro e w1 ⟨B, rfl, hB, LB, hb1⟩; have z1 := hb1.size; (try simp at z1); have L1a := live_below hb1 (b := w.heap.size) (by (repeat (first | with_reducible assumption | ((with_reducible apply live_new) <;> (first | with_reducible rfl | (focus (simp; done)))) | with_reducible apply live_alloc | with_reducible apply live_drew | with_reducible apply live_drewN | ((with_reducible apply live_set_other); (case hb => first | omega | (simp; done))) | with_reducible apply live_set_same | (focus (simp; done))))); obtain ⟨p1a, e1a, f1a⟩ := id L1a; have L1b := live_below hb1 (b := w.heap.size + 1) (by (repeat (first | with_reducible assumption | ((with_reducible apply live_new) <;> (first | with_reducible rfl | (focus (simp; done)))) | with_reducible apply live_alloc | with_reducible apply live_drew | with_reducible apply live_drewN | ((with_reducible apply live_set_other); (case hb => first | omega | (simp; done))) | with_reducible apply live_set_same | (focus (simp; done))))); obtain ⟨p1b, e1b, f1b⟩ := id L1b; have L1c := live_below hb1 (b := w.heap.size + 1 + 1) (by (repeat (first | with_reducible assumption | ((with_reducible apply live_new) <;> (first | with_reducible rfl | (focus (simp; done)))) | with_reducible apply live_alloc | with_reducible apply live_drew | with_reducible apply live_drewN | ((with_reducible apply live_set_other); (case hb => first | omega | (simp; done))) | with_reducible apply live_set_same | (focus (simp; done))))); obtain ⟨p1c, e1c, f1c⟩ := id L1c; have L1d := live_below hb1 (b := w.heap.size + 1 + 1 + 1) (by (repeat (first | with_reducible assumption | ((with_reducible apply live_new) <;> (first | with_reducible rfl | (focus (simp; done)))) | with_reducible apply live_alloc | with_reducible apply live_drew | with_reducible apply live_drewN | ((with_reducible apply live_set_other); (case hb => first | omega | (simp; done))) | with_reducible apply live_set_same | (focus (simp; done))))); obtain ⟨p1d, e1d, f1d⟩ := id L1d; (try simp at hB)) | (go_at_call 26; refine (pulse_possible _ _).mono ?_; rw [HP.out]; rintro e wp ⟨rfl, rfl⟩))
    go_region_held3 (fun w' => (w'.cell? ⟨w.heap.size, 0, none⟩ = some (.int .i64 a) ∧ w'.cell? ⟨w.heap.size, 1, none⟩ = some (.int .i64 b) ∧ w'.cell? ⟨w.heap.size, 2, none⟩ = some (.int .i64 c) ∧ w'.cell? ⟨w.heap.size, 3, none⟩ = some (.int .i64 d) ∧ w'.cell? ⟨w.heap.size, 4, none⟩ = some (.int .i64 ac) ∧ w'.cell? ⟨w.heap.size, 5, none⟩ = some (.int .i64 en) ∧ w'.cell? ⟨w.heap.size, 6, none⟩ = some (.int .i64 cr) ∧ w'.cell? ⟨w.heap.size, 7, none⟩ = some (.int .i64 ex) ∧ w'.cell? ⟨w.heap.size, 8, none⟩ = some (.int .i64 dn) ∧ w'.cell? ⟨w.heap.size, 9, none⟩ = some (.int .i64 wt)) ∧ (w'.cell? ⟨w.heap.size + 1 + 1 + 1, 0, none⟩ = some (.int .i64 0) ∧ w'.cell? ⟨w.heap.size + 1 + 1 + 1, 1, none⟩ = some (.int .i64 0) ∧ w'.cell? ⟨w.heap.size + 1 + 1 + 1, 2, none⟩ = some (.int .i64 0) ∧ w'.cell? ⟨w.heap.size + 1 + 1 + 1, 3, none⟩ = some (.int .i64 0))) (first | (focus ((with_reducible refine ⟨?_, ?_⟩) <;> (first | ((with_reducible apply live_ten); (repeat (first | with_reducible assumption | ((with_reducible apply live_new) <;> (first | with_reducible rfl | (focus (simp; done)))) | with_reducible apply live_alloc | with_reducible apply live_drew | with_reducible apply live_drewN | ((with_reducible apply live_set_other); (case hb => first | omega | (simp; done))) | with_reducible apply live_set_same | (focus (simp; done)))); done) | ((with_reducible apply live_four); (repeat (first | with_reducible assumption | ((with_reducible apply live_new) <;> (first | with_reducible rfl | (focus (simp; done)))) | with_reducible apply live_alloc | with_reducible apply live_drew | with_reducible apply live_drewN | ((with_reducible apply live_set_other); (case hb => first | omega | (simp; done))) | with_reducible apply live_set_same | (focus (simp; done)))); done)))) | go_keep)
      (fail)
    rename_i hh
    clear hh
    refine gen_world (fun wx => Live wx (w.heap.size + 1) #[.int .i64 a, .int .i64 b, .int .i64 c, .int .i64 d, .int .i64 ac, .int .i64 en, .int .i64 cr, .int .i64 ex, .int .i64 dn, .int .i64 wt] ∧ Live wx (w.heap.size + 1 + 1) #[.int .i64 (0), .int .i64 (0), .int .i64 (0), .int .i64 (0)] ∧ Below w.heap.size w wx) ?_ ?_
    · refine ⟨?_, ?_, ?_⟩
      · (repeat (first | with_reducible assumption | ((with_reducible apply live_new) <;> (first | with_reducible rfl | (focus (simp; done)))) | with_reducible apply live_alloc | with_reducible apply live_drew | with_reducible apply live_drewN | with_reducible apply live_put10 | with_reducible apply live_put8 | with_reducible apply live_put4 | ((with_reducible apply live_put10_other); (case hb => first | omega | (simp; done))) | ((with_reducible apply live_put8_other); (case hb => first | omega | (simp; done))) | ((with_reducible apply live_put4_other); (case hb => first | omega | (simp; done))) | ((with_reducible apply live_set_other); (case hb => first | omega | (simp; done))) | (focus (simp; done))))
      · (repeat (first | with_reducible assumption | ((with_reducible apply live_new) <;> (first | with_reducible rfl | (focus (simp; done)))) | with_reducible apply live_alloc | with_reducible apply live_drew | with_reducible apply live_drewN | with_reducible apply live_put10 | with_reducible apply live_put8 | with_reducible apply live_put4 | ((with_reducible apply live_put10_other); (case hb => first | omega | (simp; done))) | ((with_reducible apply live_put8_other); (case hb => first | omega | (simp; done))) | ((with_reducible apply live_put4_other); (case hb => first | omega | (simp; done))) | ((with_reducible apply live_set_other); (case hb => first | omega | (simp; done))) | (focus (simp; done))))
      · (repeat' (first | with_reducible exact Below.refl _ _ | with_reducible refine Below.drew ?_ | with_reducible refine below_drewN ?_ _ | with_reducible refine Below.alloc ?_ ?_ _ | with_reducible refine Below.setCell ?_ ?_ _ | with_reducible refine Below.trans ?_ (Below.mono (by with_reducible assumption) ?_) | (simp; done) | (simp; omega) | omega))
    · rintro wx ⟨L5, L6, hb5⟩
      obtain ⟨p5, e5, f5⟩ := id L5
      obtain ⟨p6, e6, f6⟩ := id L6
      go_wp2_with fail
      refine bodyPost_ret (v := .tuple #[.agg #[.int .i64 a, .int .i64 b, .int .i64 c, .int .i64 d, .int .i64 ac, .int .i64 en, .int .i64 cr, .int .i64 ex, .int .i64 dn, .int .i64 wt], .agg #[.int .i64 (0), .int .i64 (0), .int .i64 (0), .int .i64 (0)]]) (by simp [results, Try.results14, go_sem, e5, e6]) rfl ⟨rfl, hb5⟩

  · have HP := Lib.hid hp
    have HR := Lib.hid hr
    clear h hp hr
    go_enter Try.func14, Try.ntmps14
    go_wp2_with (first | (go_at_call 27; refine (pulse_at t _).mono ?_; rintro e w1 ⟨B, rfl, hB, LB, hb1⟩; have z1 := hb1.size; (try simp at z1); have L1a := live_below hb1 (b := w.heap.size) (by (repeat (first | with_reducible assumption | ((with_reducible apply live_new) <;> (first | with_reducible rfl | (focus (simp; done)))) | with_reducible apply live_alloc | with_reducible apply live_drew | with_reducible apply live_drewN | ((with_reducible apply live_set_other); (case hb => first | omega | (simp; done))) | with_reducible apply live_set_same | (focus (simp; done))))); obtain ⟨p1a, e1a, f1a⟩ := id L1a; have L1b := live_below hb1 (b := w.heap.size + 1) (by (repeat (first | with_reducible assumption | ((with_reducible apply live_new) <;> (first | with_reducible rfl | (focus (simp; done)))) | with_reducible apply live_alloc | with_reducible apply live_drew | with_reducible apply live_drewN | ((with_reducible apply live_set_other); (case hb => first | omega | (simp; done))) | with_reducible apply live_set_same | (focus (simp; done))))); obtain ⟨p1b, e1b, f1b⟩ := id L1b; have L1c := live_below hb1 (b := w.heap.size + 1 + 1) (by (repeat (first | with_reducible assumption | ((with_reducible apply live_new) <;> (first | with_reducible rfl | (focus (simp; done)))) | with_reducible apply live_alloc | with_reducible apply live_drew | with_reducible apply live_drewN | ((with_reducible apply live_set_other); (case hb => first | omega | (simp; done))) | with_reducible apply live_set_same | (focus (simp; done))))); obtain ⟨p1c, e1c, f1c⟩ := id L1c; have L1d := live_below hb1 (b := w.heap.size + 1 + 1 + 1) (by (repeat (first | with_reducible assumption | ((with_reducible apply live_new) <;> (first | with_reducible rfl | (focus (simp; done)))) | with_reducible apply live_alloc | with_reducible apply live_drew | with_reducible apply live_drewN | ((with_reducible apply live_set_other); (case hb => first | omega | (simp; done))) | with_reducible apply live_set_same | (focus (simp; done))))); obtain ⟨p1d, e1d, f1d⟩ := id L1d; (try simp at hB)) | (go_at_call 26; refine (pulse_possible _ _).mono ?_; rw [HP.out]; rintro e wp ⟨rfl, rfl⟩) | (go_at_call 30; refine (pulse_runs _ _ _ _ _ _ _ _ _ _ t B _ ?_).mono ?_; (· (repeat (first | with_reducible assumption | ((with_reducible apply live_new) <;> (first | with_reducible rfl | (focus (simp; done)))) | with_reducible apply live_alloc | with_reducible apply live_drew | with_reducible apply live_drewN | ((with_reducible apply live_set_other); (case hb => first | omega | (simp; done))) | with_reducible apply live_set_same | (focus (simp; done))))); rw [HR.out]; rintro e w2 ⟨rfl, hb2⟩; have z2 := hb2.size; (try simp at z2); have L2a := live_below hb2 (b := w.heap.size) (by (repeat (first | with_reducible assumption | ((with_reducible apply live_new) <;> (first | with_reducible rfl | (focus (simp; done)))) | with_reducible apply live_alloc | with_reducible apply live_drew | with_reducible apply live_drewN | ((with_reducible apply live_set_other); (case hb => first | omega | (simp; done))) | with_reducible apply live_set_same | (focus (simp; done))))); obtain ⟨p2a, e2a, f2a⟩ := id L2a; have L2b := live_below hb2 (b := w.heap.size + 1) (by (repeat (first | with_reducible assumption | ((with_reducible apply live_new) <;> (first | with_reducible rfl | (focus (simp; done)))) | with_reducible apply live_alloc | with_reducible apply live_drew | with_reducible apply live_drewN | ((with_reducible apply live_set_other); (case hb => first | omega | (simp; done))) | with_reducible apply live_set_same | (focus (simp; done))))); obtain ⟨p2b, e2b, f2b⟩ := id L2b; have L2c := live_below hb2 (b := w.heap.size + 1 + 1) (by (repeat (first | with_reducible assumption | ((with_reducible apply live_new) <;> (first | with_reducible rfl | (focus (simp; done)))) | with_reducible apply live_alloc | with_reducible apply live_drew | with_reducible apply live_drewN | ((with_reducible apply live_set_other); (case hb => first | omega | (simp; done))) | with_reducible apply live_set_same | (focus (simp; done))))); obtain ⟨p2c, e2c, f2c⟩ := id L2c; have L2d := live_below hb2 (b := w.heap.size + 1 + 1 + 1) (by (repeat (first | with_reducible assumption | ((with_reducible apply live_new) <;> (first | with_reducible rfl | (focus (simp; done)))) | with_reducible apply live_alloc | with_reducible apply live_drew | with_reducible apply live_drewN | ((with_reducible apply live_set_other); (case hb => first | omega | (simp; done))) | with_reducible apply live_set_same | (focus (simp; done))))); obtain ⟨p2d, e2d, f2d⟩ := id L2d; have L2e := live_below hb2 (b := w1.heap.size) (by (repeat (first | with_reducible assumption | ((with_reducible apply live_new) <;> (first | with_reducible rfl | (focus (simp; done)))) | with_reducible apply live_alloc | with_reducible apply live_drew | with_reducible apply live_drewN | ((with_reducible apply live_set_other); (case hb => first | omega | (simp; done))) | with_reducible apply live_set_same | (focus (simp; done))))); obtain ⟨p2e, e2e, f2e⟩ := id L2e; have L2f := live_below hb2 (b := B) (by (repeat (first | with_reducible assumption | ((with_reducible apply live_new) <;> (first | with_reducible rfl | (focus (simp; done)))) | with_reducible apply live_alloc | with_reducible apply live_drew | with_reducible apply live_drewN | ((with_reducible apply live_set_other); (case hb => first | omega | (simp; done))) | with_reducible apply live_set_same | (focus (simp; done))))); obtain ⟨p2f, e2f, f2f⟩ := id L2f))
    go_region_held3 (fun w' => (w'.cell? ⟨w.heap.size, 0, none⟩ = some (.int .i64 a) ∧ w'.cell? ⟨w.heap.size, 1, none⟩ = some (.int .i64 b) ∧ w'.cell? ⟨w.heap.size, 2, none⟩ = some (.int .i64 c) ∧ w'.cell? ⟨w.heap.size, 3, none⟩ = some (.int .i64 d) ∧ w'.cell? ⟨w.heap.size, 4, none⟩ = some (.int .i64 ac) ∧ w'.cell? ⟨w.heap.size, 5, none⟩ = some (.int .i64 en) ∧ w'.cell? ⟨w.heap.size, 6, none⟩ = some (.int .i64 cr) ∧ w'.cell? ⟨w.heap.size, 7, none⟩ = some (.int .i64 ex) ∧ w'.cell? ⟨w.heap.size, 8, none⟩ = some (.int .i64 dn) ∧ w'.cell? ⟨w.heap.size, 9, none⟩ = some (.int .i64 wt)) ∧ (w'.cell? ⟨w.heap.size + 1 + 1 + 1, 0, none⟩ = some (.int .i64 0) ∧ w'.cell? ⟨w.heap.size + 1 + 1 + 1, 1, none⟩ = some (.int .i64 0) ∧ w'.cell? ⟨w.heap.size + 1 + 1 + 1, 2, none⟩ = some (.int .i64 0) ∧ w'.cell? ⟨w.heap.size + 1 + 1 + 1, 3, none⟩ = some (.int .i64 0))) (first | (focus ((with_reducible refine ⟨?_, ?_⟩) <;> (first | ((with_reducible apply live_ten); (repeat (first | with_reducible assumption | ((with_reducible apply live_new) <;> (first | with_reducible rfl | (focus (simp; done)))) | with_reducible apply live_alloc | with_reducible apply live_drew | with_reducible apply live_drewN | ((with_reducible apply live_set_other); (case hb => first | omega | (simp; done))) | with_reducible apply live_set_same | (focus (simp; done)))); done) | ((with_reducible apply live_four); (repeat (first | with_reducible assumption | ((with_reducible apply live_new) <;> (first | with_reducible rfl | (focus (simp; done)))) | with_reducible apply live_alloc | with_reducible apply live_drew | with_reducible apply live_drewN | ((with_reducible apply live_set_other); (case hb => first | omega | (simp; done))) | with_reducible apply live_set_same | (focus (simp; done)))); done)))) | go_keep)
      (fail)
    rename_i hh
    clear hh
    refine gen_world (fun wx => Live wx (w.heap.size + 1) #[.int .i64 a, .int .i64 b, .int .i64 c, .int .i64 d, .int .i64 ac, .int .i64 en, .int .i64 cr, .int .i64 ex, .int .i64 dn, .int .i64 wt] ∧ Live wx (w.heap.size + 1 + 1) #[.int .i64 (0), .int .i64 (0), .int .i64 (0), .int .i64 (0)] ∧ Below w.heap.size w wx) ?_ ?_
    · refine ⟨?_, ?_, ?_⟩
      · (repeat (first | with_reducible assumption | ((with_reducible apply live_new) <;> (first | with_reducible rfl | (focus (simp; done)))) | with_reducible apply live_alloc | with_reducible apply live_drew | with_reducible apply live_drewN | with_reducible apply live_put10 | with_reducible apply live_put8 | with_reducible apply live_put4 | ((with_reducible apply live_put10_other); (case hb => first | omega | (simp; done))) | ((with_reducible apply live_put8_other); (case hb => first | omega | (simp; done))) | ((with_reducible apply live_put4_other); (case hb => first | omega | (simp; done))) | ((with_reducible apply live_set_other); (case hb => first | omega | (simp; done))) | (focus (simp; done))))
      · (repeat (first | with_reducible assumption | ((with_reducible apply live_new) <;> (first | with_reducible rfl | (focus (simp; done)))) | with_reducible apply live_alloc | with_reducible apply live_drew | with_reducible apply live_drewN | with_reducible apply live_put10 | with_reducible apply live_put8 | with_reducible apply live_put4 | ((with_reducible apply live_put10_other); (case hb => first | omega | (simp; done))) | ((with_reducible apply live_put8_other); (case hb => first | omega | (simp; done))) | ((with_reducible apply live_put4_other); (case hb => first | omega | (simp; done))) | ((with_reducible apply live_set_other); (case hb => first | omega | (simp; done))) | (focus (simp; done))))
      · (repeat' (first | with_reducible exact Below.refl _ _ | with_reducible refine Below.drew ?_ | with_reducible refine below_drewN ?_ _ | with_reducible refine Below.alloc ?_ ?_ _ | with_reducible refine Below.setCell ?_ ?_ _ | with_reducible refine Below.trans ?_ (Below.mono (by with_reducible assumption) ?_) | (simp; done) | (simp; omega) | omega))
    · rintro wx ⟨L5, L6, hb5⟩
      obtain ⟨p5, e5, f5⟩ := id L5
      obtain ⟨p6, e6, f6⟩ := id L6
      go_wp2_with fail
      refine bodyPost_ret (v := .tuple #[.agg #[.int .i64 a, .int .i64 b, .int .i64 c, .int .i64 d, .int .i64 ac, .int .i64 en, .int .i64 cr, .int .i64 ex, .int .i64 dn, .int .i64 wt], .agg #[.int .i64 (0), .int .i64 (0), .int .i64 (0), .int .i64 (0)]]) (by simp [results, Try.results14, go_sem, e5, e6]) rfl ⟨rfl, hb5⟩


set_option maxRecDepth 100000 in
set_option maxHeartbeats 8000000 in
theorem pulse_tick_wait (a b c d ac en cr ex dn wt t : Int) (w : World) (hp : possB t = true) (hr : plOn (blkN a b c d ac en cr ex) ac en cr ex dn wt t = true) (h0 : 1 < wt) (h1 : wt ≤ 1048576) :
    Calls Try.prog 14 #[.agg #[.int .i64 a, .int .i64 b, .int .i64 c, .int .i64 d, .int .i64 ac, .int .i64 en, .int .i64 cr, .int .i64 ex, .int .i64 dn, .int .i64 wt], .int .i64 t] w (TickRes a b c d ac en cr ex dn (wt - 1) 0 0 0 0 w) := by
  have HP := Lib.hid hp
  have HR := Lib.hid hr
  clear hp hr
  go_enter Try.func14, Try.ntmps14
  go_wp2_with (first | (go_at_call 27; refine (pulse_at t _).mono ?_; rintro e w1 ⟨B, rfl, hB, LB, hb1⟩; have z1 := hb1.size; (try simp at z1); have L1a := live_below hb1 (b := w.heap.size) (by (repeat (first | with_reducible assumption | ((with_reducible apply live_new) <;> (first | with_reducible rfl | (focus (simp; done)))) | with_reducible apply live_alloc | with_reducible apply live_drew | with_reducible apply live_drewN | ((with_reducible apply live_set_other); (case hb => first | omega | (simp; done))) | with_reducible apply live_set_same | (focus (simp; done))))); obtain ⟨p1a, e1a, f1a⟩ := id L1a; have L1b := live_below hb1 (b := w.heap.size + 1) (by (repeat (first | with_reducible assumption | ((with_reducible apply live_new) <;> (first | with_reducible rfl | (focus (simp; done)))) | with_reducible apply live_alloc | with_reducible apply live_drew | with_reducible apply live_drewN | ((with_reducible apply live_set_other); (case hb => first | omega | (simp; done))) | with_reducible apply live_set_same | (focus (simp; done))))); obtain ⟨p1b, e1b, f1b⟩ := id L1b; have L1c := live_below hb1 (b := w.heap.size + 1 + 1) (by (repeat (first | with_reducible assumption | ((with_reducible apply live_new) <;> (first | with_reducible rfl | (focus (simp; done)))) | with_reducible apply live_alloc | with_reducible apply live_drew | with_reducible apply live_drewN | ((with_reducible apply live_set_other); (case hb => first | omega | (simp; done))) | with_reducible apply live_set_same | (focus (simp; done))))); obtain ⟨p1c, e1c, f1c⟩ := id L1c; have L1d := live_below hb1 (b := w.heap.size + 1 + 1 + 1) (by (repeat (first | with_reducible assumption | ((with_reducible apply live_new) <;> (first | with_reducible rfl | (focus (simp; done)))) | with_reducible apply live_alloc | with_reducible apply live_drew | with_reducible apply live_drewN | ((with_reducible apply live_set_other); (case hb => first | omega | (simp; done))) | with_reducible apply live_set_same | (focus (simp; done))))); obtain ⟨p1d, e1d, f1d⟩ := id L1d; (try simp at hB)) | (go_at_call 26; refine (pulse_possible _ _).mono ?_; rw [HP.out]; rintro e wp ⟨rfl, rfl⟩) | (go_at_call 30; refine (pulse_runs _ _ _ _ _ _ _ _ _ _ t B _ ?_).mono ?_; (· (repeat (first | with_reducible assumption | ((with_reducible apply live_new) <;> (first | with_reducible rfl | (focus (simp; done)))) | with_reducible apply live_alloc | with_reducible apply live_drew | with_reducible apply live_drewN | ((with_reducible apply live_set_other); (case hb => first | omega | (simp; done))) | with_reducible apply live_set_same | (focus (simp; done))))); rw [HR.out]; rintro e w2 ⟨rfl, hb2⟩; have z2 := hb2.size; (try simp at z2); have L2a := live_below hb2 (b := w.heap.size) (by (repeat (first | with_reducible assumption | ((with_reducible apply live_new) <;> (first | with_reducible rfl | (focus (simp; done)))) | with_reducible apply live_alloc | with_reducible apply live_drew | with_reducible apply live_drewN | ((with_reducible apply live_set_other); (case hb => first | omega | (simp; done))) | with_reducible apply live_set_same | (focus (simp; done))))); obtain ⟨p2a, e2a, f2a⟩ := id L2a; have L2b := live_below hb2 (b := w.heap.size + 1) (by (repeat (first | with_reducible assumption | ((with_reducible apply live_new) <;> (first | with_reducible rfl | (focus (simp; done)))) | with_reducible apply live_alloc | with_reducible apply live_drew | with_reducible apply live_drewN | ((with_reducible apply live_set_other); (case hb => first | omega | (simp; done))) | with_reducible apply live_set_same | (focus (simp; done))))); obtain ⟨p2b, e2b, f2b⟩ := id L2b; have L2c := live_below hb2 (b := w.heap.size + 1 + 1) (by (repeat (first | with_reducible assumption | ((with_reducible apply live_new) <;> (first | with_reducible rfl | (focus (simp; done)))) | with_reducible apply live_alloc | with_reducible apply live_drew | with_reducible apply live_drewN | ((with_reducible apply live_set_other); (case hb => first | omega | (simp; done))) | with_reducible apply live_set_same | (focus (simp; done))))); obtain ⟨p2c, e2c, f2c⟩ := id L2c; have L2d := live_below hb2 (b := w.heap.size + 1 + 1 + 1) (by (repeat (first | with_reducible assumption | ((with_reducible apply live_new) <;> (first | with_reducible rfl | (focus (simp; done)))) | with_reducible apply live_alloc | with_reducible apply live_drew | with_reducible apply live_drewN | ((with_reducible apply live_set_other); (case hb => first | omega | (simp; done))) | with_reducible apply live_set_same | (focus (simp; done))))); obtain ⟨p2d, e2d, f2d⟩ := id L2d; have L2e := live_below hb2 (b := w1.heap.size) (by (repeat (first | with_reducible assumption | ((with_reducible apply live_new) <;> (first | with_reducible rfl | (focus (simp; done)))) | with_reducible apply live_alloc | with_reducible apply live_drew | with_reducible apply live_drewN | ((with_reducible apply live_set_other); (case hb => first | omega | (simp; done))) | with_reducible apply live_set_same | (focus (simp; done))))); obtain ⟨p2e, e2e, f2e⟩ := id L2e; have L2f := live_below hb2 (b := B) (by (repeat (first | with_reducible assumption | ((with_reducible apply live_new) <;> (first | with_reducible rfl | (focus (simp; done)))) | with_reducible apply live_alloc | with_reducible apply live_drew | with_reducible apply live_drewN | ((with_reducible apply live_set_other); (case hb => first | omega | (simp; done))) | with_reducible apply live_set_same | (focus (simp; done))))); obtain ⟨p2f, e2f, f2f⟩ := id L2f))
  refine gen_world (fun wx => Live wx w.heap.size #[.int .i64 a, .int .i64 b, .int .i64 c, .int .i64 d, .int .i64 ac, .int .i64 en, .int .i64 cr, .int .i64 ex, .int .i64 dn, .int .i64 (wt - 1)] ∧ Live wx (w.heap.size + 1) #[.int .i64 0, .int .i64 0, .int .i64 0, .int .i64 0, .int .i64 0, .int .i64 0, .int .i64 0, .int .i64 0, .int .i64 0, .int .i64 0] ∧ Live wx (w.heap.size + 1 + 1) #[.int .i64 0, .int .i64 0, .int .i64 0, .int .i64 0] ∧ Live wx (w.heap.size + 1 + 1 + 1) #[.int .i64 0, .int .i64 0, .int .i64 0, .int .i64 0] ∧ Below w.heap.size w wx) ?_ ?_
  · refine ⟨?_, ?_, ?_, ?_, ?_⟩
    all_goals first | (focus (((apply live_conv); (· (repeat (first | with_reducible assumption | ((with_reducible apply live_new) <;> (first | with_reducible rfl | (focus (simp; done)))) | with_reducible apply live_alloc | with_reducible apply live_drew | with_reducible apply live_drewN | ((with_reducible apply live_set_other); (case hb => first | omega | (simp; done))) | with_reducible apply live_set_same | (focus (simp; done))))); (· first | rfl | (simp; done))); done)) | (repeat' (first | with_reducible exact Below.refl _ _ | with_reducible refine Below.drew ?_ | with_reducible refine below_drewN ?_ _ | with_reducible refine Below.alloc ?_ ?_ _ | with_reducible refine Below.setCell ?_ ?_ _ | with_reducible refine Below.trans ?_ (Below.mono (by with_reducible assumption) ?_) | (simp; done) | (simp; omega) | omega))
  · rintro w3 ⟨L3a, L3b, L3c, L3d, hb3⟩
    obtain ⟨p3a, e3a, f3a⟩ := id L3a
    obtain ⟨p3b, e3b, f3b⟩ := id L3b
    obtain ⟨p3c, e3c, f3c⟩ := id L3c
    obtain ⟨p3d, e3d, f3d⟩ := id L3d
    clear LB hb1 L1a p1a e1a f1a L1b p1b e1b f1b L1c p1c e1c f1c L1d p1d e1d f1d L2a p2a e2a f2a L2b p2b e2b f2b L2c p2c e2c f2c L2d p2d e2d f2d L2e p2e e2e f2e L2f p2f e2f f2f
    go_region_held3 (fun w' => (w'.cell? ⟨w.heap.size, 0, none⟩ = some (.int .i64 a) ∧ w'.cell? ⟨w.heap.size, 1, none⟩ = some (.int .i64 b) ∧ w'.cell? ⟨w.heap.size, 2, none⟩ = some (.int .i64 c) ∧ w'.cell? ⟨w.heap.size, 3, none⟩ = some (.int .i64 d) ∧ w'.cell? ⟨w.heap.size, 4, none⟩ = some (.int .i64 ac) ∧ w'.cell? ⟨w.heap.size, 5, none⟩ = some (.int .i64 en) ∧ w'.cell? ⟨w.heap.size, 6, none⟩ = some (.int .i64 cr) ∧ w'.cell? ⟨w.heap.size, 7, none⟩ = some (.int .i64 ex) ∧ w'.cell? ⟨w.heap.size, 8, none⟩ = some (.int .i64 dn) ∧ w'.cell? ⟨w.heap.size, 9, none⟩ = some (.int .i64 (wt - 1))) ∧ (w'.cell? ⟨w.heap.size + 1 + 1 + 1, 0, none⟩ = some (.int .i64 0) ∧ w'.cell? ⟨w.heap.size + 1 + 1 + 1, 1, none⟩ = some (.int .i64 0) ∧ w'.cell? ⟨w.heap.size + 1 + 1 + 1, 2, none⟩ = some (.int .i64 0) ∧ w'.cell? ⟨w.heap.size + 1 + 1 + 1, 3, none⟩ = some (.int .i64 0))) (first | (focus ((with_reducible refine ⟨?_, ?_⟩) <;> (first | ((with_reducible apply live_ten); (repeat (first | with_reducible assumption | ((with_reducible apply live_new) <;> (first | with_reducible rfl | (focus (simp; done)))) | with_reducible apply live_alloc | with_reducible apply live_drew | with_reducible apply live_drewN | ((with_reducible apply live_set_other); (case hb => first | omega | (simp; done))) | with_reducible apply live_set_same | (focus (simp; done)))); done) | ((with_reducible apply live_four); (repeat (first | with_reducible assumption | ((with_reducible apply live_new) <;> (first | with_reducible rfl | (focus (simp; done)))) | with_reducible apply live_alloc | with_reducible apply live_drew | with_reducible apply live_drewN | ((with_reducible apply live_set_other); (case hb => first | omega | (simp; done))) | with_reducible apply live_set_same | (focus (simp; done)))); done)))) | go_keep)
      (fail)
    rename_i hh
    clear hh
    refine gen_world (fun wx => Live wx (w.heap.size + 1) #[.int .i64 a, .int .i64 b, .int .i64 c, .int .i64 d, .int .i64 ac, .int .i64 en, .int .i64 cr, .int .i64 ex, .int .i64 dn, .int .i64 (wt - 1)] ∧ Live wx (w.heap.size + 1 + 1) #[.int .i64 (0), .int .i64 (0), .int .i64 (0), .int .i64 (0)] ∧ Below w.heap.size w wx) ?_ ?_
    · refine ⟨?_, ?_, ?_⟩
      · (repeat (first | with_reducible assumption | ((with_reducible apply live_new) <;> (first | with_reducible rfl | (focus (simp; done)))) | with_reducible apply live_alloc | with_reducible apply live_drew | with_reducible apply live_drewN | with_reducible apply live_put10 | with_reducible apply live_put8 | with_reducible apply live_put4 | ((with_reducible apply live_put10_other); (case hb => first | omega | (simp; done))) | ((with_reducible apply live_put8_other); (case hb => first | omega | (simp; done))) | ((with_reducible apply live_put4_other); (case hb => first | omega | (simp; done))) | ((with_reducible apply live_set_other); (case hb => first | omega | (simp; done))) | (focus (simp; done))))
      · (repeat (first | with_reducible assumption | ((with_reducible apply live_new) <;> (first | with_reducible rfl | (focus (simp; done)))) | with_reducible apply live_alloc | with_reducible apply live_drew | with_reducible apply live_drewN | with_reducible apply live_put10 | with_reducible apply live_put8 | with_reducible apply live_put4 | ((with_reducible apply live_put10_other); (case hb => first | omega | (simp; done))) | ((with_reducible apply live_put8_other); (case hb => first | omega | (simp; done))) | ((with_reducible apply live_put4_other); (case hb => first | omega | (simp; done))) | ((with_reducible apply live_set_other); (case hb => first | omega | (simp; done))) | (focus (simp; done))))
      · (repeat' (first | with_reducible exact Below.refl _ _ | with_reducible refine Below.drew ?_ | with_reducible refine below_drewN ?_ _ | with_reducible refine Below.alloc ?_ ?_ _ | with_reducible refine Below.setCell ?_ ?_ _ | with_reducible refine Below.trans ?_ (Below.mono (by with_reducible assumption) ?_) | (simp; done) | (simp; omega) | omega))
    · rintro wx ⟨L5, L6, hb5⟩
      obtain ⟨p5, e5, f5⟩ := id L5
      obtain ⟨p6, e6, f6⟩ := id L6
      go_wp2_with fail
      refine bodyPost_ret (v := .tuple #[.agg #[.int .i64 a, .int .i64 b, .int .i64 c, .int .i64 d, .int .i64 ac, .int .i64 en, .int .i64 cr, .int .i64 ex, .int .i64 dn, .int .i64 (wt - 1)], .agg #[.int .i64 (0), .int .i64 (0), .int .i64 (0), .int .i64 (0)]]) (by simp [results, Try.results14, go_sem, e5, e6]) rfl ⟨rfl, hb5⟩


set_option maxRecDepth 100000 in
set_option maxHeartbeats 8000000 in
theorem pulse_tick_step (a b c d ac en cr ex dn t : Int) (w : World) (hp : possB t = true) (hr : plOn (blkN a b c d ac en cr ex) ac en cr ex dn 1 t = true) (hv : blkValid a b c d ac en cr ex = true) (h0 : 0 ≤ dn) (h1 : dn < blkN a b c d ac en cr ex) :
    Calls Try.prog 14 #[.agg #[.int .i64 a, .int .i64 b, .int .i64 c, .int .i64 d, .int .i64 ac, .int .i64 en, .int .i64 cr, .int .i64 ex, .int .i64 dn, .int .i64 1], .int .i64 t] w (TickRes a b c d ac en cr ex (dn + 1) (plNext (blkN a b c d ac en cr ex) ac en cr ex (dn + 1) t) (puM (ddaDom a b c d) (dn + 1) a) (puM (ddaDom a b c d) (dn + 1) b) (puM (ddaDom a b c d) (dn + 1) c) (puM (ddaDom a b c d) (dn + 1) d) w) := by
  have hi := (blkN_in a b c d ac en cr ex).2
  have HP := Lib.hid hp
  have HR := Lib.hid hr
  generalize hN : plNext (blkN a b c d ac en cr ex) ac en cr ex (dn + 1) t = N
  have HN := Lib.hid hN
  clear hp hr hN
  have hd : dn + 1 ≤ 16777216 := by omega
  have HL : Hid (dn + 1 ≤ blkN a b c d ac en cr ex) := Lib.hid (by omega)
  have HV := Lib.hid hv
  clear hv hi h1
  go_enter Try.func14, Try.ntmps14
  go_wp2_with (first | (go_at_call 27; refine (pulse_at t _).mono ?_; rintro e w1 ⟨B, rfl, hB, LB, hb1⟩; have z1 := hb1.size; (try simp at z1); have L1a := live_below hb1 (b := w.heap.size) (by (repeat (first | with_reducible assumption | ((with_reducible apply live_new) <;> (first | with_reducible rfl | (focus (simp; done)))) | with_reducible apply live_alloc | with_reducible apply live_drew | with_reducible apply live_drewN | ((with_reducible apply live_set_other); (case hb => first | omega | (simp; done))) | with_reducible apply live_set_same | (focus (simp; done))))); obtain ⟨p1a, e1a, f1a⟩ := id L1a; have L1b := live_below hb1 (b := w.heap.size + 1) (by (repeat (first | with_reducible assumption | ((with_reducible apply live_new) <;> (first | with_reducible rfl | (focus (simp; done)))) | with_reducible apply live_alloc | with_reducible apply live_drew | with_reducible apply live_drewN | ((with_reducible apply live_set_other); (case hb => first | omega | (simp; done))) | with_reducible apply live_set_same | (focus (simp; done))))); obtain ⟨p1b, e1b, f1b⟩ := id L1b; have L1c := live_below hb1 (b := w.heap.size + 1 + 1) (by (repeat (first | with_reducible assumption | ((with_reducible apply live_new) <;> (first | with_reducible rfl | (focus (simp; done)))) | with_reducible apply live_alloc | with_reducible apply live_drew | with_reducible apply live_drewN | ((with_reducible apply live_set_other); (case hb => first | omega | (simp; done))) | with_reducible apply live_set_same | (focus (simp; done))))); obtain ⟨p1c, e1c, f1c⟩ := id L1c; have L1d := live_below hb1 (b := w.heap.size + 1 + 1 + 1) (by (repeat (first | with_reducible assumption | ((with_reducible apply live_new) <;> (first | with_reducible rfl | (focus (simp; done)))) | with_reducible apply live_alloc | with_reducible apply live_drew | with_reducible apply live_drewN | ((with_reducible apply live_set_other); (case hb => first | omega | (simp; done))) | with_reducible apply live_set_same | (focus (simp; done))))); obtain ⟨p1d, e1d, f1d⟩ := id L1d; (try simp at hB)) | (go_at_call 26; refine (pulse_possible _ _).mono ?_; rw [HP.out]; rintro e wp ⟨rfl, rfl⟩) | (go_at_call 30; refine (pulse_runs _ _ _ _ _ _ _ _ _ _ t B _ ?_).mono ?_; (· (repeat (first | with_reducible assumption | ((with_reducible apply live_new) <;> (first | with_reducible rfl | (focus (simp; done)))) | with_reducible apply live_alloc | with_reducible apply live_drew | with_reducible apply live_drewN | ((with_reducible apply live_set_other); (case hb => first | omega | (simp; done))) | with_reducible apply live_set_same | (focus (simp; done))))); rw [HR.out]; rintro e w2 ⟨rfl, hb2⟩; have z2 := hb2.size; (try simp at z2); have L2a := live_below hb2 (b := w.heap.size) (by (repeat (first | with_reducible assumption | ((with_reducible apply live_new) <;> (first | with_reducible rfl | (focus (simp; done)))) | with_reducible apply live_alloc | with_reducible apply live_drew | with_reducible apply live_drewN | ((with_reducible apply live_set_other); (case hb => first | omega | (simp; done))) | with_reducible apply live_set_same | (focus (simp; done))))); obtain ⟨p2a, e2a, f2a⟩ := id L2a; have L2b := live_below hb2 (b := w.heap.size + 1) (by (repeat (first | with_reducible assumption | ((with_reducible apply live_new) <;> (first | with_reducible rfl | (focus (simp; done)))) | with_reducible apply live_alloc | with_reducible apply live_drew | with_reducible apply live_drewN | ((with_reducible apply live_set_other); (case hb => first | omega | (simp; done))) | with_reducible apply live_set_same | (focus (simp; done))))); obtain ⟨p2b, e2b, f2b⟩ := id L2b; have L2c := live_below hb2 (b := w.heap.size + 1 + 1) (by (repeat (first | with_reducible assumption | ((with_reducible apply live_new) <;> (first | with_reducible rfl | (focus (simp; done)))) | with_reducible apply live_alloc | with_reducible apply live_drew | with_reducible apply live_drewN | ((with_reducible apply live_set_other); (case hb => first | omega | (simp; done))) | with_reducible apply live_set_same | (focus (simp; done))))); obtain ⟨p2c, e2c, f2c⟩ := id L2c; have L2d := live_below hb2 (b := w.heap.size + 1 + 1 + 1) (by (repeat (first | with_reducible assumption | ((with_reducible apply live_new) <;> (first | with_reducible rfl | (focus (simp; done)))) | with_reducible apply live_alloc | with_reducible apply live_drew | with_reducible apply live_drewN | ((with_reducible apply live_set_other); (case hb => first | omega | (simp; done))) | with_reducible apply live_set_same | (focus (simp; done))))); obtain ⟨p2d, e2d, f2d⟩ := id L2d; have L2e := live_below hb2 (b := w1.heap.size) (by (repeat (first | with_reducible assumption | ((with_reducible apply live_new) <;> (first | with_reducible rfl | (focus (simp; done)))) | with_reducible apply live_alloc | with_reducible apply live_drew | with_reducible apply live_drewN | ((with_reducible apply live_set_other); (case hb => first | omega | (simp; done))) | with_reducible apply live_set_same | (focus (simp; done))))); obtain ⟨p2e, e2e, f2e⟩ := id L2e; have L2f := live_below hb2 (b := B) (by (repeat (first | with_reducible assumption | ((with_reducible apply live_new) <;> (first | with_reducible rfl | (focus (simp; done)))) | with_reducible apply live_alloc | with_reducible apply live_drew | with_reducible apply live_drewN | ((with_reducible apply live_set_other); (case hb => first | omega | (simp; done))) | with_reducible apply live_set_same | (focus (simp; done))))); obtain ⟨p2f, e2f, f2f⟩ := id L2f) | (go_at_call 28; refine (pulse_wait _ _ _ _ _ _ _ _ _ t B _ ?_ HV.out ?_ HL.out).mono ?_; (· (repeat (first | with_reducible assumption | ((with_reducible apply live_new) <;> (first | with_reducible rfl | (focus (simp; done)))) | with_reducible apply live_alloc | with_reducible apply live_drew | with_reducible apply live_drewN | ((with_reducible apply live_set_other); (case hb => first | omega | (simp; done))) | with_reducible apply live_set_same | (focus (simp; done))))); (· omega); rw [HN.out]; rintro e w3 ⟨rfl, hb3⟩; have z3 := hb3.size; (try simp at z3); have L3a := live_below hb3 (b := w.heap.size) (by (repeat (first | with_reducible assumption | ((with_reducible apply live_new) <;> (first | with_reducible rfl | (focus (simp; done)))) | with_reducible apply live_alloc | with_reducible apply live_drew | with_reducible apply live_drewN | ((with_reducible apply live_set_other); (case hb => first | omega | (simp; done))) | with_reducible apply live_set_same | (focus (simp; done))))); obtain ⟨p3a, e3a, f3a⟩ := id L3a; have L3b := live_below hb3 (b := w.heap.size + 1) (by (repeat (first | with_reducible assumption | ((with_reducible apply live_new) <;> (first | with_reducible rfl | (focus (simp; done)))) | with_reducible apply live_alloc | with_reducible apply live_drew | with_reducible apply live_drewN | ((with_reducible apply live_set_other); (case hb => first | omega | (simp; done))) | with_reducible apply live_set_same | (focus (simp; done))))); obtain ⟨p3b, e3b, f3b⟩ := id L3b; have L3c := live_below hb3 (b := w.heap.size + 1 + 1) (by (repeat (first | with_reducible assumption | ((with_reducible apply live_new) <;> (first | with_reducible rfl | (focus (simp; done)))) | with_reducible apply live_alloc | with_reducible apply live_drew | with_reducible apply live_drewN | ((with_reducible apply live_set_other); (case hb => first | omega | (simp; done))) | with_reducible apply live_set_same | (focus (simp; done))))); obtain ⟨p3c, e3c, f3c⟩ := id L3c; have L3d := live_below hb3 (b := w.heap.size + 1 + 1 + 1) (by (repeat (first | with_reducible assumption | ((with_reducible apply live_new) <;> (first | with_reducible rfl | (focus (simp; done)))) | with_reducible apply live_alloc | with_reducible apply live_drew | with_reducible apply live_drewN | ((with_reducible apply live_set_other); (case hb => first | omega | (simp; done))) | with_reducible apply live_set_same | (focus (simp; done))))); obtain ⟨p3d, e3d, f3d⟩ := id L3d; (try simp at hB)))
  refine gen_world (fun wx => Live wx w.heap.size #[.int .i64 a, .int .i64 b, .int .i64 c, .int .i64 d, .int .i64 ac, .int .i64 en, .int .i64 cr, .int .i64 ex, .int .i64 (dn + 1), .int .i64 N] ∧ Live wx (w.heap.size + 1) #[.int .i64 0, .int .i64 0, .int .i64 0, .int .i64 0, .int .i64 0, .int .i64 0, .int .i64 0, .int .i64 0, .int .i64 0, .int .i64 0] ∧ Live wx (w.heap.size + 1 + 1) #[.int .i64 0, .int .i64 0, .int .i64 0, .int .i64 0] ∧ Below w.heap.size w wx) ?_ ?_
  · refine ⟨?_, ?_, ?_, ?_⟩
    all_goals first | (focus (((apply live_conv); (· (repeat (first | with_reducible assumption | ((with_reducible apply live_new) <;> (first | with_reducible rfl | (focus (simp; done)))) | with_reducible apply live_alloc | with_reducible apply live_drew | with_reducible apply live_drewN | ((with_reducible apply live_set_other); (case hb => first | omega | (simp; done))) | with_reducible apply live_set_same | (focus (simp; done))))); (· first | rfl | (simp; done))); done)) | (repeat' (first | with_reducible exact Below.refl _ _ | with_reducible refine Below.drew ?_ | with_reducible refine below_drewN ?_ _ | with_reducible refine Below.alloc ?_ ?_ _ | with_reducible refine Below.setCell ?_ ?_ _ | with_reducible refine Below.trans ?_ (Below.mono (by with_reducible assumption) ?_) | (simp; done) | (simp; omega) | omega))
  · rintro w4 ⟨L4a, L4b, L4c, hb4⟩
    obtain ⟨p4a, e4a, f4a⟩ := id L4a
    obtain ⟨p4b, e4b, f4b⟩ := id L4b
    obtain ⟨p4c, e4c, f4c⟩ := id L4c
    clear LB hb1 L1a p1a e1a f1a L1b p1b e1b f1b L1c p1c e1c f1c L1d p1d e1d f1d L2a p2a e2a f2a L2b p2b e2b f2b L2c p2c e2c f2c L2d p2d e2d f2d L2e p2e e2e f2e L2f p2f e2f f2f L3a p3a e3a f3a L3b p3b e3b f3b L3c p3c e3c f3c L3d p3d e3d f3d hb2 hb3
    go_region_held3 (fun w' => w'.cell? ⟨w.heap.size, 0, none⟩ = some (.int .i64 a) ∧ w'.cell? ⟨w.heap.size, 1, none⟩ = some (.int .i64 b) ∧ w'.cell? ⟨w.heap.size, 2, none⟩ = some (.int .i64 c) ∧ w'.cell? ⟨w.heap.size, 3, none⟩ = some (.int .i64 d) ∧ w'.cell? ⟨w.heap.size, 4, none⟩ = some (.int .i64 ac) ∧ w'.cell? ⟨w.heap.size, 5, none⟩ = some (.int .i64 en) ∧ w'.cell? ⟨w.heap.size, 6, none⟩ = some (.int .i64 cr) ∧ w'.cell? ⟨w.heap.size, 7, none⟩ = some (.int .i64 ex) ∧ w'.cell? ⟨w.heap.size, 8, none⟩ = some (.int .i64 (dn + 1)) ∧ w'.cell? ⟨w.heap.size, 9, none⟩ = some (.int .i64 N)) (first | (focus ((with_reducible apply live_ten); (repeat (first | with_reducible assumption | ((with_reducible apply live_new) <;> (first | with_reducible rfl | (focus (simp; done)))) | with_reducible apply live_alloc | with_reducible apply live_drew | with_reducible apply live_drewN | ((with_reducible apply live_set_other); (case hb => first | omega | (simp; done))) | with_reducible apply live_set_same | (focus (simp; done)))); done)) | go_keep)
      ((go_at_call 31; refine (dda_pulse _ _ _ _ _ _).mono ?_; rintro e w5 ⟨rfl, hb5⟩; have z5 := hb5.size; (try simp at z5); have L5a := live_below hb5 (b := w.heap.size) (by (repeat (first | with_reducible assumption | ((with_reducible apply live_new) <;> (first | with_reducible rfl | (focus (simp; done)))) | with_reducible apply live_alloc | with_reducible apply live_drew | with_reducible apply live_drewN | ((with_reducible apply live_set_other); (case hb => first | omega | (simp; done))) | with_reducible apply live_set_same | (focus (simp; done))))); obtain ⟨p5a, e5a, f5a⟩ := id L5a; have L5b := live_below hb5 (b := w.heap.size + 1) (by (repeat (first | with_reducible assumption | ((with_reducible apply live_new) <;> (first | with_reducible rfl | (focus (simp; done)))) | with_reducible apply live_alloc | with_reducible apply live_drew | with_reducible apply live_drewN | ((with_reducible apply live_set_other); (case hb => first | omega | (simp; done))) | with_reducible apply live_set_same | (focus (simp; done))))); obtain ⟨p5b, e5b, f5b⟩ := id L5b; have L5c := live_below hb5 (b := w.heap.size + 1 + 1) (by (repeat (first | with_reducible assumption | ((with_reducible apply live_new) <;> (first | with_reducible rfl | (focus (simp; done)))) | with_reducible apply live_alloc | with_reducible apply live_drew | with_reducible apply live_drewN | ((with_reducible apply live_set_other); (case hb => first | omega | (simp; done))) | with_reducible apply live_set_same | (focus (simp; done))))); obtain ⟨p5c, e5c, f5c⟩ := id L5c))
    rename_i hh
    clear hh
    refine gen_world (fun wx => Live wx (w.heap.size + 1) #[.int .i64 a, .int .i64 b, .int .i64 c, .int .i64 d, .int .i64 ac, .int .i64 en, .int .i64 cr, .int .i64 ex, .int .i64 (dn + 1), .int .i64 N] ∧ Live wx (w.heap.size + 1 + 1) #[.int .i64 (puM (ddaDom a b c d) (dn + 1) a), .int .i64 (puM (ddaDom a b c d) (dn + 1) b), .int .i64 (puM (ddaDom a b c d) (dn + 1) c), .int .i64 (puM (ddaDom a b c d) (dn + 1) d)] ∧ Below w.heap.size w wx) ?_ ?_
    · refine ⟨?_, ?_, ?_⟩
      · (repeat (first | with_reducible assumption | ((with_reducible apply live_new) <;> (first | with_reducible rfl | (focus (simp; done)))) | with_reducible apply live_alloc | with_reducible apply live_drew | with_reducible apply live_drewN | with_reducible apply live_put10 | with_reducible apply live_put8 | with_reducible apply live_put4 | ((with_reducible apply live_put10_other); (case hb => first | omega | (simp; done))) | ((with_reducible apply live_put8_other); (case hb => first | omega | (simp; done))) | ((with_reducible apply live_put4_other); (case hb => first | omega | (simp; done))) | ((with_reducible apply live_set_other); (case hb => first | omega | (simp; done))) | (focus (simp; done))))
      · (repeat (first | with_reducible assumption | ((with_reducible apply live_new) <;> (first | with_reducible rfl | (focus (simp; done)))) | with_reducible apply live_alloc | with_reducible apply live_drew | with_reducible apply live_drewN | with_reducible apply live_put10 | with_reducible apply live_put8 | with_reducible apply live_put4 | ((with_reducible apply live_put10_other); (case hb => first | omega | (simp; done))) | ((with_reducible apply live_put8_other); (case hb => first | omega | (simp; done))) | ((with_reducible apply live_put4_other); (case hb => first | omega | (simp; done))) | ((with_reducible apply live_set_other); (case hb => first | omega | (simp; done))) | (focus (simp; done))))
      · refine Below.trans hb4 ?_
        (repeat' (first | with_reducible exact Below.refl _ _ | with_reducible refine Below.drew ?_ | with_reducible refine below_drewN ?_ _ | with_reducible refine Below.alloc ?_ ?_ _ | with_reducible refine Below.setCell ?_ ?_ _ | with_reducible refine Below.trans ?_ (Below.mono (by with_reducible assumption) ?_) | (simp; done) | (simp; omega) | omega))
    · rintro wx ⟨L6, L7, hb6⟩
      obtain ⟨p6, e6, f6⟩ := id L6
      obtain ⟨p7, e7, f7⟩ := id L7
      go_wp2_with fail
      refine bodyPost_ret (v := .tuple #[.agg #[.int .i64 a, .int .i64 b, .int .i64 c, .int .i64 d, .int .i64 ac, .int .i64 en, .int .i64 cr, .int .i64 ex, .int .i64 (dn + 1), .int .i64 N], .agg #[.int .i64 (puM (ddaDom a b c d) (dn + 1) a), .int .i64 (puM (ddaDom a b c d) (dn + 1) b), .int .i64 (puM (ddaDom a b c d) (dn + 1) c), .int .i64 (puM (ddaDom a b c d) (dn + 1) d)]]) (by simp [results, Try.results14, go_sem, e6, e7]) rfl ⟨rfl, hb6⟩

theorem pulse_tick (a b c d ac en cr ex dn wt t : Int) (w : World) :
    Calls Try.prog 14 #[.agg #[.int .i64 a, .int .i64 b, .int .i64 c, .int .i64 d, .int .i64 ac, .int .i64 en, .int .i64 cr, .int .i64 ex, .int .i64 dn, .int .i64 wt], .int .i64 t] w
      (TickRes a b c d ac en cr ex (tkDn (blkN a b c d ac en cr ex) ac en cr ex dn wt t) (tkWt (blkN a b c d ac en cr ex) ac en cr ex dn wt t)
        (tkPu (blkN a b c d ac en cr ex) ac en cr ex dn wt t a) (tkPu (blkN a b c d ac en cr ex) ac en cr ex dn wt t b) (tkPu (blkN a b c d ac en cr ex) ac en cr ex dn wt t c) (tkPu (blkN a b c d ac en cr ex) ac en cr ex dn wt t d) w) := by
  unfold tkDn tkWt tkPu
  cases hr : plOn (blkN a b c d ac en cr ex) ac en cr ex dn wt t
  · have h := pulse_tick_off a b c d ac en cr ex dn wt t w (.inr hr)
    simpa using h
  · have hp : possB t = true := by
      cases hp : possB t
      · have := plW_not (blkN a b c d ac en cr ex) ac en cr ex (dn + 1) t hp
        simp [plOn] at hr
        omega
      · rfl
    have hq := hr
    simp [plOn] at hq
    have hi := plW_in a b c d ac en cr ex (dn + 1) t
    by_cases h1 : 1 < wt
    · have h := pulse_tick_wait a b c d ac en cr ex dn wt t w hp hr h1 (by omega)
      simpa [h1] using h
    · have e : wt = 1 := by omega
      subst e
      have hv : blkValid a b c d ac en cr ex = true := by
        cases hv : blkValid a b c d ac en cr ex
        · have := blk_none a b c d ac en cr ex hv
          omega
        · rfl
      have hN := (blk_pos a b c d ac en cr ex hv).1
      have h := pulse_tick_step a b c d ac en cr ex dn t w hp hr hv hq.1 hq.2.1
      rw [← hN] at h
      simpa using h
end Go.Proofs.Ytkiadcgdmeebmaa

/- What Ended and Made return, in the program and in the reference, for all motions -/
namespace Go.Proofs.Ytkiadcgdmeebmaa
open Go.RowKit
set_option linter.unusedVariables false

attribute [local go_sem] cell_past1 cell_past2 cell_past3 cell_past4 froz_past1 froz_past2 froz_past3
attribute [local go_sem ↓] Go.wp_at_zero Go.wp_at_succ

def enB (n dn : Int) : Bool := decide (1 ≤ n ∧ dn = n)
def pmV (n dn x : Int) : Int := if 1 ≤ n ∧ 0 ≤ dn ∧ dn ≤ n then atM n dn x else 0

set_option maxRecDepth 100000 in
set_option maxHeartbeats 8000000 in
theorem pulse_ended (a b c d ac en cr ex dn wt : Int) (w : World) :
    Calls Try.prog 13 #[.agg #[.int .i64 a, .int .i64 b, .int .i64 c, .int .i64 d, .int .i64 ac, .int .i64 en, .int .i64 cr, .int .i64 ex, .int .i64 dn, .int .i64 wt]] w fun e w' => e = .returned (.bool (enB (blkN a b c d ac en cr ex) dn)) ∧ Below w.heap.size w w' := by
  cases hv : blkValid a b c d ac en cr ex
  · have hn := blk_none a b c d ac en cr ex hv
    have HR : Hid (enB (blkN a b c d ac en cr ex) dn = false) := by show _ = _; rw [hn]; simp [enB]
    have HV := Lib.hid hv
    clear hv hn
    rw [HR.out]
    go_enter Try.func13, Try.ntmps13
    go_wp2_with fail
    first | go_region_with (go_at_call 24; refine (ahead_valid _ _ _ _ _ _ _ _ _).mono ?_; rw [HV.out]; rintro e w1 ⟨rfl, hb1⟩; have z1 := hb1.size; (try simp at z1); have L1a := live_below hb1 (b := w.heap.size) (by (repeat (first | with_reducible assumption | ((with_reducible apply live_new) <;> (first | with_reducible rfl | (focus (simp; done)))) | with_reducible apply live_alloc | with_reducible apply live_drew | with_reducible apply live_drewN | ((with_reducible apply live_set_other); (case hb => first | omega | (simp; done))) | with_reducible apply live_set_same | (focus (simp; done))))); obtain ⟨p1a, e1a, f1a⟩ := id L1a) | fail
    all_goals go_wp2_with fail
    all_goals go_ret
    all_goals exact ⟨rfl, by (repeat' (first | with_reducible exact Below.refl _ _ | with_reducible refine Below.drew ?_ | with_reducible refine below_drewN ?_ _ | with_reducible refine Below.alloc ?_ ?_ _ | with_reducible refine Below.setCell ?_ ?_ _ | with_reducible refine Below.trans ?_ (Below.mono (by with_reducible assumption) ?_) | (simp; done) | (simp; omega) | omega))⟩
  · obtain ⟨hp, hn⟩ := blk_pos a b c d ac en cr ex hv
    rw [hp] at *
    have HV := Lib.hid hv
    clear hv hp
    generalize hP : ddaDom a b c d = n at *
    have HP := Lib.hid hP
    have HR : Hid (enB n dn = (dn == n)) := by show _ = _; unfold enB; rw [Bool.eq_iff_iff]; simp; omega
    clear hP
    rw [HR.out]
    go_enter Try.func13, Try.ntmps13
    go_wp2_with fail
    go_region_held3 (fun w' => w'.cell? ⟨w.heap.size, 0, none⟩ = some (.int .i64 a) ∧ w'.cell? ⟨w.heap.size, 1, none⟩ = some (.int .i64 b) ∧ w'.cell? ⟨w.heap.size, 2, none⟩ = some (.int .i64 c) ∧ w'.cell? ⟨w.heap.size, 3, none⟩ = some (.int .i64 d) ∧ w'.cell? ⟨w.heap.size, 4, none⟩ = some (.int .i64 ac) ∧ w'.cell? ⟨w.heap.size, 5, none⟩ = some (.int .i64 en) ∧ w'.cell? ⟨w.heap.size, 6, none⟩ = some (.int .i64 cr) ∧ w'.cell? ⟨w.heap.size, 7, none⟩ = some (.int .i64 ex) ∧ w'.cell? ⟨w.heap.size, 8, none⟩ = some (.int .i64 dn) ∧ w'.cell? ⟨w.heap.size, 9, none⟩ = some (.int .i64 wt)) (first | (focus ((with_reducible apply live_ten); (repeat (first | with_reducible assumption | ((with_reducible apply live_new) <;> (first | with_reducible rfl | (focus (simp; done)))) | with_reducible apply live_alloc | with_reducible apply live_drew | with_reducible apply live_drewN | ((with_reducible apply live_set_other); (case hb => first | omega | (simp; done))) | with_reducible apply live_set_same | (focus (simp; done)))); done)) | go_keep)
      (first | (go_at_call 24; refine (ahead_valid _ _ _ _ _ _ _ _ _).mono ?_; rw [HV.out]; rintro e w1 ⟨rfl, hb1⟩; have z1 := hb1.size; (try simp at z1); have L1a := live_below hb1 (b := w.heap.size) (by (repeat (first | with_reducible assumption | ((with_reducible apply live_new) <;> (first | with_reducible rfl | (focus (simp; done)))) | with_reducible apply live_alloc | with_reducible apply live_drew | with_reducible apply live_drewN | ((with_reducible apply live_set_other); (case hb => first | omega | (simp; done))) | with_reducible apply live_set_same | (focus (simp; done))))); obtain ⟨p1a, e1a, f1a⟩ := id L1a) | (go_at_call 29; refine (dda_dom _ _ _ _ _).mono ?_; rw [HP.out]; rintro e w2 ⟨rfl, rfl⟩))
    all_goals go_wp2_with fail
    all_goals go_ret
    all_goals refine ⟨rfl, ?_⟩
    all_goals (repeat' (first | with_reducible exact Below.refl _ _ | with_reducible refine Below.drew ?_ | with_reducible refine below_drewN ?_ _ | with_reducible refine Below.alloc ?_ ?_ _ | with_reducible refine Below.setCell ?_ ?_ _ | with_reducible refine Below.trans ?_ (Below.mono (by with_reducible assumption) ?_) | (simp; done) | (simp; omega) | omega))

end Go.Proofs.Ytkiadcgdmeebmaa

/- Plain facts on motions: a pulse is 0 or the sign of its count; after k ticks -/
namespace Go.Proofs.Ytkiadcgdmeebmaa
set_option linter.unusedVariables false

def sg (x : Int) : Int := if 0 < x then 1 else if x < 0 then -1 else 0

theorem at_step (n i x : Int) (hn : 1 ≤ n) (hx : ab x ≤ n) : (2 * i * ab x + n) / (2 * n) ≤ (2 * (i + 1) * ab x + n) / (2 * n) ∧ (2 * (i + 1) * ab x + n) / (2 * n) ≤ (2 * i * ab x + n) / (2 * n) + 1 := by
  have hab : 0 ≤ ab x := by unfold ab; omega
  have e : 2 * (i + 1) * ab x = 2 * i * ab x + 2 * ab x := by rw [Int.mul_add, Int.add_mul]; omega
  rw [e]
  generalize 2 * i * ab x = y
  constructor
  · exact Int.ediv_le_ediv (by omega) (by omega)
  · have h3 : (y + 2 * ab x + n) / (2 * n) ≤ (y + n + 1 * (2 * n)) / (2 * n) := Int.ediv_le_ediv (by omega) (by omega)
    rw [Int.add_mul_ediv_right _ _ (by omega)] at h3
    exact h3
theorem pu_one_in (n i x : Int) (hn : 1 ≤ n) (h0 : 0 ≤ i) (h1 : i < n) (hx : ab x ≤ n) : -1 ≤ puM n (i + 1) x ∧ puM n (i + 1) x ≤ 1 := by
  have hs := at_step n i x hn hx
  have c0 : atClamp n (i + 1) = i + 1 := by unfold atClamp; omega
  have c1 : atClamp n i = i := by unfold atClamp; omega
  unfold puM
  rw [if_neg (by omega), show i + 1 - 1 = i from by omega]
  unfold atM
  rw [if_neg (by omega), if_neg (by omega), c0, c1]
  unfold atI
  generalize (2 * i * ab x + n) / (2 * n) = p at *
  generalize (2 * (i + 1) * ab x + n) / (2 * n) = q at *
  split <;> omega
theorem pu_next (n i x : Int) (h0 : 0 ≤ i) (h1 : i < n) : atM n i x + puM n (i + 1) x = atM n (i + 1) x := by
  unfold puM
  rw [if_neg (by omega), show i + 1 - 1 = i from by omega]
  omega
theorem dom_le (a b c d : Int) (h : ddaValid a b c d = true) : ab a ≤ ddaDom a b c d ∧ ab b ≤ ddaDom a b c d ∧ ab c ≤ ddaDom a b c d ∧ ab d ≤ ddaDom a b c d := by
  unfold ddaDom; rw [if_pos h]; unfold dom4; omega
theorem atM_none (n x : Int) (hn : 1 ≤ n) : atM n 0 x = 0 := by
  unfold atM; rw [if_neg (by omega), show atClamp n 0 = 0 from by unfold atClamp; omega, atI_none n x hn]
theorem atM_full (n x : Int) (hn : 1 ≤ n) : atM n n x = x := by
  unfold atM; rw [if_neg (by omega), show atClamp n n = n from by unfold atClamp; omega, atI_full n x hn]

section
variable (n ac en cr ex t : Int)

/-- The interval of step i, for a valid block and possible ticks. -/
theorem plW_ivl (i : Int) (t0 : 1 ≤ t) (t1 : t ≤ 1048576) (i0 : 1 ≤ i) (i1 : i ≤ n) (a0 : 1 ≤ ac) (a1 : ac ≤ 16777216) (c0 : 1 ≤ cr) (c1 : cr ≤ 1099511627776) (e0 : 0 ≤ en) (x0 : 0 ≤ ex) (n1 : n ≤ 16777216) :
    plW n ac en cr ex i t = ivl (sqI n ac en cr ex i) t ∧ 1 ≤ plW n ac en cr ex i t ∧ plW n ac en cr ex i t ≤ 1048576 := by
  have hq := sqI_in n ac en cr ex i a0 a1 c0 c1 e0 x0 n1 i0 i1
  have hi := ivl_in (sqI n ac en cr ex i) t hq.1 (by omega) t0
  have e : plW n ac en cr ex i t = ivl (sqI n ac en cr ex i) t := by
    unfold plW sqV ivV; rw [if_neg (by omega), if_neg (by omega)]
  rw [e]
  exact ⟨rfl, hi.1, by omega⟩

/-- The time at which step i ends. -/
def tEnd (i : Int) : Int := durS n ac en cr ex t i.toNat
theorem tEnd_next (i : Int) (t0 : 1 ≤ t) (t1 : t ≤ 1048576) (i0 : 0 ≤ i) (i1 : i < n) (a0 : 1 ≤ ac) (a1 : ac ≤ 16777216) (c0 : 1 ≤ cr) (c1 : cr ≤ 1099511627776) (e0 : 0 ≤ en) (x0 : 0 ≤ ex) (n1 : n ≤ 16777216) :
    tEnd n ac en cr ex t (i + 1) = tEnd n ac en cr ex t i + plW n ac en cr ex (i + 1) t := by
  obtain ⟨k, rfl⟩ := Int.eq_ofNat_of_zero_le i0
  rw [(plW_ivl n ac en cr ex t ((k : Int) + 1) t0 t1 (by omega) (by omega) a0 a1 c0 c1 e0 x0 n1).1]
  unfold tEnd
  rw [show ((k : Int) + 1).toNat = k + 1 from by omega, Int.toNat_natCast, durS]
theorem tEnd_mono (t0 : 1 ≤ t) (t1 : t ≤ 1048576) (a0 : 1 ≤ ac) (a1 : ac ≤ 16777216) (c0 : 1 ≤ cr) (c1 : cr ≤ 1099511627776) (e0 : 0 ≤ en) (x0 : 0 ≤ ex) (n1 : n ≤ 16777216) :
    ∀ (j : Nat) (i : Int), 0 ≤ i → i + j ≤ n → tEnd n ac en cr ex t i + j ≤ tEnd n ac en cr ex t (i + j)
  | 0, i, _, _ => by simp
  | j + 1, i, h0, h1 => by
    have h := tEnd_mono t0 t1 a0 a1 c0 c1 e0 x0 n1 j i h0 (by omega)
    have e := tEnd_next n ac en cr ex t (i + j) t0 t1 (by omega) (by omega) a0 a1 c0 c1 e0 x0 n1
    have w := (plW_ivl n ac en cr ex t (i + j + 1) t0 t1 (by omega) (by omega) a0 a1 c0 c1 e0 x0 n1).2.1
    rw [show i + ((j + 1 : Nat) : Int) = i + j + 1 from by omega, e]
    omega

/-- What is known of a motion after k ticks. -/
def MInv (k dn wt : Int) : Prop :=
  (0 ≤ dn ∧ dn < n ∧ 1 ≤ wt ∧ wt ≤ plW n ac en cr ex (dn + 1) t ∧ k + wt = tEnd n ac en cr ex t (dn + 1)) ∨ (dn = n ∧ wt = 0 ∧ tEnd n ac en cr ex t n ≤ k)

theorem minv_start (n0 : 1 ≤ n) (t0 : 1 ≤ t) (t1 : t ≤ 1048576) (a0 : 1 ≤ ac) (a1 : ac ≤ 16777216) (c0 : 1 ≤ cr) (c1 : cr ≤ 1099511627776) (e0 : 0 ≤ en) (x0 : 0 ≤ ex) (n1 : n ≤ 16777216) :
    MInv n ac en cr ex t 0 0 (plW n ac en cr ex 1 t) := by
  left
  have w := (plW_ivl n ac en cr ex t 1 t0 t1 (by omega) (by omega) a0 a1 c0 c1 e0 x0 n1).2
  have e := tEnd_next n ac en cr ex t 0 t0 t1 (by omega) (by omega) a0 a1 c0 c1 e0 x0 n1
  have z : tEnd n ac en cr ex t 0 = 0 := rfl
  rw [show (0 : Int) + 1 = 1 from rfl] at *
  exact ⟨by omega, by omega, by omega, by omega, by omega⟩

theorem minv_on (k dn wt : Int) (h : MInv n ac en cr ex t k dn wt) : (plOn n ac en cr ex dn wt t = true ∧ 0 ≤ dn ∧ dn < n ∧ 1 ≤ wt) ∨ (plOn n ac en cr ex dn wt t = false ∧ dn = n ∧ wt = 0) := by
  rcases h with ⟨h1, h2, h3, h4, h5⟩ | ⟨h1, h2, h3⟩
  · left
    exact ⟨by unfold plOn; simp; omega, h1, h2, h3⟩
  · right
    exact ⟨by unfold plOn; simp; omega, h1, h2⟩

theorem minv_tick (k dn wt : Int) (h : MInv n ac en cr ex t k dn wt) (n0 : 1 ≤ n) (t0 : 1 ≤ t) (t1 : t ≤ 1048576) (a0 : 1 ≤ ac) (a1 : ac ≤ 16777216) (c0 : 1 ≤ cr) (c1 : cr ≤ 1099511627776) (e0 : 0 ≤ en) (x0 : 0 ≤ ex) (n1 : n ≤ 16777216) :
    MInv n ac en cr ex t (k + 1) (tkDn n ac en cr ex dn wt t) (tkWt n ac en cr ex dn wt t) := by
  have ho := minv_on n ac en cr ex t k dn wt h
  unfold tkDn tkWt
  rcases ho with ⟨ho, h1, h2, h3⟩ | ⟨ho, h1, h2⟩
  · rcases h with ⟨_, _, _, h4, h5⟩ | ⟨h4, _⟩
    · rw [ho]
      by_cases hw : 1 < wt
      · left
        rw [if_neg (by omega), if_pos rfl, if_pos hw]
        exact ⟨h1, h2, by omega, by omega, by omega⟩
      · have e1 : wt = 1 := by omega
        subst e1
        rw [if_pos ⟨rfl, by omega⟩, if_pos rfl, if_neg hw]
        unfold plNext
        by_cases hl : dn + 1 = n
        · right
          rw [if_pos hl]
          rw [hl] at h5
          exact ⟨hl, rfl, by omega⟩
        · left
          rw [if_neg hl]
          have w := (plW_ivl n ac en cr ex t (dn + 1 + 1) t0 t1 (by omega) (by omega) a0 a1 c0 c1 e0 x0 n1).2
          have e := tEnd_next n ac en cr ex t (dn + 1) t0 t1 (by omega) (by omega) a0 a1 c0 c1 e0 x0 n1
          exact ⟨by omega, by omega, by omega, by omega, by omega⟩
    · omega
  · rcases h with ⟨_, h4, _⟩ | ⟨_, _, h5⟩
    · omega
    · rw [ho]
      right
      rw [if_neg (by simp), if_neg (by simp)]
      exact ⟨h1, h2, by omega⟩

/-- Before the block's duration the motion runs, and at its end it has ended. -/
theorem minv_runs (k dn wt : Int) (h : MInv n ac en cr ex t k dn wt) (hk : k < tEnd n ac en cr ex t n) : plOn n ac en cr ex dn wt t = true ∧ 0 ≤ dn ∧ dn < n ∧ 1 ≤ wt := by
  rcases h with ⟨h1, h2, h3, h4, h5⟩ | ⟨h1, h2, h3⟩
  · exact ⟨by unfold plOn; simp; omega, h1, h2, h3⟩
  · omega
theorem minv_end (k dn wt : Int) (h : MInv n ac en cr ex t k dn wt) (hk : tEnd n ac en cr ex t n ≤ k) (t0 : 1 ≤ t) (t1 : t ≤ 1048576) (a0 : 1 ≤ ac) (a1 : ac ≤ 16777216) (c0 : 1 ≤ cr) (c1 : cr ≤ 1099511627776) (e0 : 0 ≤ en) (x0 : 0 ≤ ex) (n1 : n ≤ 16777216) :
    dn = n ∧ wt = 0 := by
  rcases h with ⟨h1, h2, h3, h4, h5⟩ | ⟨h1, h2, h3⟩
  · have hm := tEnd_mono n ac en cr ex t t0 t1 a0 a1 c0 c1 e0 x0 n1 (n - (dn + 1)).toNat (dn + 1) (by omega) (by omega)
    rw [show dn + 1 + ((n - (dn + 1)).toNat : Int) = n from by omega] at hm
    omega
  · exact ⟨h1, h2⟩

theorem tk_sum (dn wt x : Int) (h : plOn n ac en cr ex dn wt t = true) : atM n dn x + tkPu n ac en cr ex dn wt t x = atM n (tkDn n ac en cr ex dn wt t) x := by
  have h2 := h
  simp [plOn] at h2
  unfold tkPu tkDn
  rw [h]
  by_cases hw : 1 < wt
  · rw [if_neg (by omega), if_neg (by omega)]; omega
  · rw [if_pos ⟨rfl, hw⟩, if_pos ⟨rfl, hw⟩]
    exact pu_next n dn x (by omega) (by omega)
theorem tk_pu_in (dn wt x : Int) (hn : 1 ≤ n) (hx : ab x ≤ n) : -1 ≤ tkPu n ac en cr ex dn wt t x ∧ tkPu n ac en cr ex dn wt t x ≤ 1 := by
  unfold tkPu
  split
  · rename_i h
    have h2 := h.1
    simp [plOn] at h2
    exact pu_one_in n dn x hn (by omega) (by omega) hx
  · omega
theorem tk_dn_in (dn wt : Int) (h : plOn n ac en cr ex dn wt t = true) : 0 ≤ tkDn n ac en cr ex dn wt t ∧ tkDn n ac en cr ex dn wt t ≤ n := by
  have h2 := h
  simp [plOn] at h2
  unfold tkDn
  split <;> omega
end
end Go.Proofs.Ytkiadcgdmeebmaa

namespace Go.Proofs.Ytkiadcgdmeebmaa.topPulses
open Go.ChangeShapes Go.WideShapes Go.ChangeAt Go.RowKit
set_option linter.unusedVariables false

attribute [local go_sem] cell_past1 cell_past2 cell_past3 cell_past4 froz_past1 froz_past2 froz_past3
attribute [local go_sem ↓] loadM_in loadB_in

def ORel (f : Nat → Int) (x : Bool) (t : Int) (h : Nat → Nat → Int) (q : Nat → Int) (N : Nat) (a : Option Addr) (AT SU : Nat) (w : World) (s11 s12 : Value) (wx : World) : Prop :=
  ∃ (i : Nat) (K : Int), s11 = .int .i64 K ∧ s12 = .int .i64 i ∧ i ≤ N ∧ 0 ≤ K ∧ K ≤ 4000 ∧ Live wx SU #[.int .i64 (sumTo (fun k => h k 0) i), .int .i64 (sumTo (fun k => h k 1) i), .int .i64 (sumTo (fun k => h k 2) i), .int .i64 (sumTo (fun k => h k 3) i)] ∧ Live wx AT #[.int .i64 (q 0), .int .i64 (q 1), .int .i64 (q 2), .int .i64 (q 3)] ∧ Live wx w.heap.size (mach f x t) ∧ BlkS wx a N h ∧ Below w.heap.size w wx
def IRel (f : Nat → Int) (x : Bool) (t : Int) (h : Nat → Nat → Int) (q : Nat → Int) (N : Nat) (a : Option Addr) (AT SU X : Nat) (i : Nat) (D : Int) (w : World) (s11 : Value) (wx : World) : Prop :=
  ∃ K dn wt : Int, s11 = .int .i64 K ∧ 0 ≤ K ∧ K ≤ 4000 ∧ 0 ≤ dn ∧ dn ≤ D ∧ Live wx X #[.int .i64 (h i 0), .int .i64 (h i 1), .int .i64 (h i 2), .int .i64 (h i 3), .int .i64 (h i 4), .int .i64 (h i 5), .int .i64 (h i 6), .int .i64 (h i 7), .int .i64 dn, .int .i64 wt] ∧ Live wx SU #[.int .i64 (sumTo (fun k => h k 0) i + atM D dn (h i 0)), .int .i64 (sumTo (fun k => h k 1) i + atM D dn (h i 1)), .int .i64 (sumTo (fun k => h k 2) i + atM D dn (h i 2)), .int .i64 (sumTo (fun k => h k 3) i + atM D dn (h i 3))] ∧ Live wx AT #[.int .i64 (q 0), .int .i64 (q 1), .int .i64 (q 2), .int .i64 (q 3)] ∧ Live wx w.heap.size (mach f x t) ∧ BlkS wx a N h ∧ Below w.heap.size w wx
theorem sumTo_in (g : Nat → Int) (n : Nat) (hg : ∀ k, k < n → -3200 ≤ g k ∧ g k ≤ 3200) : ∀ i, i ≤ n → -(3200 * (i : Int)) ≤ sumTo g i ∧ sumTo g i ≤ 3200 * (i : Int)
  | 0, _ => by simp [sumTo]
  | i + 1, hi => by
    have h1 := sumTo_in g n hg i (by omega)
    have h2 := hg i (by omega)
    rw [sumTo]
    omega
theorem tick_sum (n ac en cr ex dn wt t x : Int) : atM n dn x + tkPu n ac en cr ex dn wt t x = atM n (tkDn n ac en cr ex dn wt t) x := by
  cases hr : plOn n ac en cr ex dn wt t
  · unfold tkPu tkDn
    rw [hr, if_neg (by simp), if_neg (by simp)]
    omega
  · exact tk_sum n ac en cr ex t dn wt x hr
theorem tick_dn (n ac en cr ex dn wt t : Int) (h0 : 0 ≤ dn) (h1 : dn ≤ n) : 0 ≤ tkDn n ac en cr ex dn wt t ∧ tkDn n ac en cr ex dn wt t ≤ n := by
  cases hr : plOn n ac en cr ex dn wt t
  · unfold tkDn
    rw [hr, if_neg (by simp)]
    exact ⟨h0, h1⟩
  · exact tk_dn_in n ac en cr ex t dn wt hr
theorem at_in (n y x : Int) (n0 : 1 ≤ n) (n1 : n ≤ 16777216) (h0 : 0 ≤ y) (h1 : y ≤ n) (hx : ab x ≤ n) : -16777216 ≤ atM n y x ∧ atM n y x ≤ 16777216 := by
  unfold atM
  rw [if_neg (by omega)]
  have e : atClamp n y = y := by unfold atClamp; omega
  rw [e]
  refine atI_le n y x n0 h0 h1 ?_
  unfold ab at hx
  omega
theorem blkS_low {w w1 : World} {B ba oa N : Nat} {h : Nat → Nat → Int} (hb : Below B w w1) (hlt : ba < B) (hs : w.heap.size ≤ w1.heap.size) (hB : BlkS w (some ⟨ba, oa, none⟩) N h) : BlkS w1 (some ⟨ba, oa, none⟩) N h := fun h0 => by
  obtain ⟨b, off, e, hl, hc⟩ := hB h0
  cases e
  exact ⟨_, _, rfl, Nat.lt_of_lt_of_le hl hs, fun k hk o ho => (hb.cell (p := ⟨ba, _, none⟩) hlt).trans (hc k hk o ho)⟩
theorem plnG_low (g : Nat → Nat → Int) (z : Nat → Int) (en : Int) (n k i o : Nat) (h : o < 4) : plnG g z en n k i o = g i o := by
  unfold plnG; rw [if_neg (fun h => by omega), if_neg (fun h => by omega)]
theorem keep11 {wr wx : World} {M ba oa N i : Nat} {f : Nat → Int} {x : Bool} {t : Int} {h : Nat → Nat → Int} (L : Live wr M (mach f x t)) (hB : BlkS wr (some ⟨ba, oa, none⟩) N h) (hi : i < N) (hb : Below wr.heap.size wr wx) : wx.rangeAt ba (oa + i * 8) (blkA h i).toList ∧ wx.cell? ⟨M, 29, none⟩ = some (.int .i64 t) :=
  ⟨blkS_rng (blkS_below hb (Nat.le_refl _) hB) i hi, (live_below hb L).2.1 29⟩

set_option maxRecDepth 100000 in
set_option maxHeartbeats 8000000 in
theorem walk (f : Nat → Int) (x : Bool) (t fd : Int) (p : Nat → Nat → Int) (sl : Option Addr) (n cl : Nat) (w : World) (hn : n ≤ 9223372036854775807) (hfd : -9223372036854775808 ≤ fd ∧ fd ≤ 9223372036854775807) (hl : VecS w sl n p) :
    Calls Try.prog 4 #[.agg (mach f x t), .slice sl n cl, .int .i64 fd] w fun e w' => e = .returned (.bool true) ∧ Below w.heap.size w w' := by
  have KMV := Lib.hid top_moved
  have KSH := Lib.hid (fun w hl => top_short p sl n cl w hn hl)
  have KSL := Lib.hid (fun w => top_slow f x t w)
  have HL := Lib.hid hl
  have HFD := Lib.hid hfd
  clear hl hfd
  go_enter Try.func4, Try.ntmps4
  go_upto_region 1 with (fail)
  refine gen_world (fun wx => Live wx w.heap.size (mach f x t) ∧ Below w.heap.size w wx) ?_ ?_
  · exact ⟨live_new _ _ rfl, by (repeat' (first | with_reducible exact Below.refl _ _ | with_reducible refine Below.drew ?_ | with_reducible refine below_drewN ?_ _ | with_reducible refine Below.alloc ?_ ?_ _ | with_reducible refine Below.setCell ?_ ?_ _ | with_reducible refine Below.trans ?_ (Below.mono (by with_reducible assumption) ?_) | (simp; done) | (simp; omega) | omega))⟩
  rintro w0 ⟨L, hb⟩
  have hbs := hb.size
  have lm := loadM_run (live_rangeAll L)
  have HV0 := Lib.hid (vecS_below hb (Nat.le_refl _) HL.out)
  go_upto_region 3 with (first | (go_at_call 5; (with_reducible refine (KSH.out _ HV0.out).mono ?_); rintro e w1 ⟨⟨r1, rfl, hr1⟩, hb1⟩; have z1 := hb1.size; (try simp at z1); have L1 := live_below hb1 L; have lm1 := loadM_run (live_rangeAll L1); have HR1 := Lib.hid hr1; clear hr1; cases r1) | (go_at_call 6; (with_reducible refine (KSL.out _).mono ?_); rintro e w2 ⟨⟨r2, rfl, hr2⟩, hb2⟩; have z2 := hb2.size; (try simp at z2); have L2 := live_below hb2 L1; have HR2 := Lib.hid hr2; clear hr2; cases r2) | (go_at_call 7; (with_reducible refine (KMV.out _).mono ?_); rintro e wm ⟨rfl, hbm⟩; have zm := hbm.size; (try simp at zm)))
  · go_ret
    refine ⟨rfl, ?_⟩
    (repeat' (first | with_reducible exact Below.refl _ _ | with_reducible refine Below.drew ?_ | with_reducible refine below_drewN ?_ _ | with_reducible refine Below.alloc ?_ ?_ _ | with_reducible refine Below.setCell ?_ ?_ _ | with_reducible refine Below.trans ?_ (Below.mono (by with_reducible assumption) ?_) | (simp; done) | (simp; omega) | omega))
  · go_ret
    refine ⟨rfl, ?_⟩
    (repeat' (first | with_reducible exact Below.refl _ _ | with_reducible refine Below.drew ?_ | with_reducible refine below_drewN ?_ _ | with_reducible refine Below.alloc ?_ ?_ _ | with_reducible refine Below.setCell ?_ ?_ _ | with_reducible refine Below.trans ?_ (Below.mono (by with_reducible assumption) ?_) | (simp; done) | (simp; omega) | omega))
  have hnear := HR1.out trivial
  have hslow := HR2.out trivial
  refine gen_world (fun wx => Live wx w.heap.size (mach f x t) ∧ VecS wx sl n p ∧ Below w.heap.size w wx) ?_ ?_
  · exact ⟨L2, vecS_below (B := w.heap.size) (by (repeat' (first | with_reducible exact Below.refl _ _ | with_reducible refine Below.drew ?_ | with_reducible refine below_drewN ?_ _ | with_reducible refine Below.alloc ?_ ?_ _ | with_reducible refine Below.setCell ?_ ?_ _ | with_reducible refine Below.trans ?_ (Below.mono (by with_reducible assumption) ?_) | (simp; done) | (simp; omega) | omega))) (Nat.le_refl _) HL.out, by (repeat' (first | with_reducible exact Below.refl _ _ | with_reducible refine Below.drew ?_ | with_reducible refine below_drewN ?_ _ | with_reducible refine Below.alloc ?_ ?_ _ | with_reducible refine Below.setCell ?_ ?_ _ | with_reducible refine Below.trans ?_ (Below.mono (by with_reducible assumption) ?_) | (simp; done) | (simp; omega) | omega))⟩
  clear L hb hbs lm HV0 hb1 z1 L1 lm1 HR1 hb2 z2 L2 HR2 HL KSH KSL
  rintro w3 ⟨L, hV, hb⟩
  have hbs := hb.size
  have p0 := L.1
  have lm := loadM_run (live_rangeAll L)
  have HV := Lib.hid hV
  clear hV
  by_cases hv : kinValid f t = true
  case neg =>
    have KP := Lib.hid (fun w => top_planned_no f x t fd sl n cl w (by simpa using hv))
    go_wp2_with (first | (go_at_call 8; (with_reducible refine (KP.out _).mono ?_); rintro e w4 ⟨rfl, hb4⟩; have z4 := hb4.size; (try simp at z4)) | (go_at_call 7; (with_reducible refine (KMV.out _).mono ?_); rintro e wm ⟨rfl, hbm⟩; have zm := hbm.size; (try simp at zm)))
    go_ret
    refine ⟨rfl, ?_⟩
    (repeat' (first | with_reducible exact Below.refl _ _ | with_reducible refine Below.drew ?_ | with_reducible refine below_drewN ?_ _ | with_reducible refine Below.alloc ?_ ?_ _ | with_reducible refine Below.setCell ?_ ?_ _ | with_reducible refine Below.trans ?_ (Below.mono (by with_reducible assumption) ?_) | (simp; done) | (simp; omega) | omega))
  by_cases hE : plnE (wG f x t fd p n) (wZ f x t fd p n) 0 (wN f x t p n) (wN f x t p n) = 0
  case neg =>
    have KP : Hid (∀ w, VecS w sl n p → Calls Try.prog 8 #[.agg (mach f x t), .slice sl n cl, .int .i64 fd] w fun e w' => ∃ a cap, e = .returned (.tuple #[.slice a 0 cap, .agg #[.int .i64 (wAt f x t p n 0), .int .i64 (wAt f x t p n 1), .int .i64 (wAt f x t p n 2), .int .i64 (wAt f x t p n 3)], .bool false]) ∧ Below w.heap.size w w') := Lib.hid (fun w hl => (top_planned f x t fd p sl n cl w hv (hslow hv) hnear HFD.out hl).mono (fun e w' h => plan_no h hE))
    clear hE hnear hslow hv
    go_wp2_with (first | (go_at_call 8; (with_reducible refine (KP.out _ HV.out).mono ?_); rintro e w4 ⟨a4, cap4, rfl, hb4⟩; have z4 := hb4.size; (try simp at z4)) | (go_at_call 7; (with_reducible refine (KMV.out _).mono ?_); rintro e wm ⟨rfl, hbm⟩; have zm := hbm.size; (try simp at zm)))
    go_ret
    refine ⟨rfl, ?_⟩
    (repeat' (first | with_reducible exact Below.refl _ _ | with_reducible refine Below.drew ?_ | with_reducible refine below_drewN ?_ _ | with_reducible refine Below.alloc ?_ ?_ _ | with_reducible refine Below.setCell ?_ ?_ _ | with_reducible refine Below.trans ?_ (Below.mono (by with_reducible assumption) ?_) | (simp; done) | (simp; omega) | omega))
  have KP : Hid (∀ w, VecS w sl n p → Calls Try.prog 8 #[.agg (mach f x t), .slice sl n cl, .int .i64 fd] w fun e w' => ∃ a cap, e = .returned (.tuple #[.slice a (wN f x t p n) cap, .agg #[.int .i64 (wAt f x t p n 0), .int .i64 (wAt f x t p n 1), .int .i64 (wAt f x t p n 2), .int .i64 (wAt f x t p n 3)], .bool true]) ∧ BlkS w' a (wN f x t p n) (plnG (wG f x t fd p n) (wZ f x t fd p n) 0 (wN f x t p n) (wN f x t p n)) ∧ Below w.heap.size w w') := Lib.hid (fun w hl => (top_planned f x t fd p sl n cl w hv (hslow hv) hnear HFD.out hl).mono (fun e w' h => plan_yes h hE))
  have hT := top_ok f x t fd p n hv (hslow hv) hnear hE
  have hN12 : wN f x t p n ≤ 12 := Nat.le_trans (wN_le f x t p n) hnear.1
  have hJ : ∀ j, j < 4 → 0 ≤ f (7 * j + 4) ∧ f (7 * j + 4) ≤ 1048576 := fun j hj => (acc_facts f t hv j hj).2.2
  have hW : ∀ j, j < 4 → sumTo (fun i => plnG (wG f x t fd p n) (wZ f x t fd p n) 0 (wN f x t p n) (wN f x t p n) i j) (wN f x t p n) = wAt f x t p n j := fun j hj => (sumTo_congr _ _ _ (fun i hi => plnG_low _ _ _ _ _ i j hj)).trans (w_sum f x t fd p hv j hj n)
  have hPB : possB t = true := by
    have h := hv
    unfold kinValid at h
    simp only [Bool.and_eq_true] at h
    exact h.2.2.2.2
  generalize wAt f x t p n = q at *
  generalize plnG (wG f x t fd p n) (wZ f x t fd p n) 0 (wN f x t p n) (wN f x t p n) = h at *
  generalize wN f x t p n = N at *
  have HT := Lib.hid hT
  have HJ := Lib.hid hJ
  have HW := Lib.hid hW
  have HPB := Lib.hid hPB
  clear hT hJ hW hPB hE hnear hslow hv
  go_upto_region 6 with (go_at_call 8; (with_reducible refine (KP.out _ HV.out).mono ?_); rintro e w4 ⟨a4, cap4, rfl, hB4, hb4⟩; have z4 := hb4.size; (try simp at z4); have L4 := live_below hb4 L; have HB4 := Lib.hid hB4; clear hB4)
  refine gen_world (fun wx => ∃ AT, AT = w4.heap.size ∧ w.heap.size < AT ∧ (0 < N → ∃ b off, a4 = some ⟨b, off, none⟩ ∧ b < AT) ∧ Live wx AT #[.int .i64 (q 0), .int .i64 (q 1), .int .i64 (q 2), .int .i64 (q 3)] ∧ Live wx w.heap.size (mach f x t) ∧ BlkS wx a4 N h ∧ Below w.heap.size w wx) ?_ ?_
  · exact ⟨_, rfl, (by have := L4.1; omega), (fun h0 => by obtain ⟨b, off, e, hl, _⟩ := HB4.out h0; exact ⟨b, off, e, hl⟩), by (repeat (first | with_reducible assumption | ((with_reducible apply live_new) <;> (first | with_reducible rfl | (focus (simp; done)))) | with_reducible apply live_alloc | with_reducible apply live_drew | with_reducible apply live_drewN | with_reducible apply live_put10 | with_reducible apply live_put8 | with_reducible apply live_put4 | ((with_reducible apply live_put10_other); (case hb => first | omega | (simp; done))) | ((with_reducible apply live_put8_other); (case hb => first | omega | (simp; done))) | ((with_reducible apply live_put4_other); (case hb => first | omega | (simp; done))) | ((with_reducible apply live_set_other); (case hb => first | omega | (simp; done))) | (focus (simp; done)))), by (repeat (first | with_reducible assumption | ((with_reducible apply live_new) <;> (first | with_reducible rfl | (focus (simp; done)))) | with_reducible apply live_alloc | with_reducible apply live_drew | with_reducible apply live_drewN | with_reducible apply live_put10 | with_reducible apply live_put8 | with_reducible apply live_put4 | ((with_reducible apply live_put10_other); (case hb => first | omega | (simp; done))) | ((with_reducible apply live_put8_other); (case hb => first | omega | (simp; done))) | ((with_reducible apply live_put4_other); (case hb => first | omega | (simp; done))) | ((with_reducible apply live_set_other); (case hb => first | omega | (simp; done))) | (focus (simp; done)))), blkS_below (B := w4.heap.size) (by (repeat' (first | with_reducible exact Below.refl _ _ | with_reducible refine Below.drew ?_ | with_reducible refine below_drewN ?_ _ | with_reducible refine Below.alloc ?_ ?_ _ | with_reducible refine Below.setCell ?_ ?_ _ | with_reducible refine Below.trans ?_ (Below.mono (by with_reducible assumption) ?_) | (simp; done) | (simp; omega) | omega))) (Nat.le_refl _) HB4.out, by (repeat' (first | with_reducible exact Below.refl _ _ | with_reducible refine Below.drew ?_ | with_reducible refine below_drewN ?_ _ | with_reducible refine Below.alloc ?_ ?_ _ | with_reducible refine Below.setCell ?_ ?_ _ | with_reducible refine Below.trans ?_ (Below.mono (by with_reducible assumption) ?_) | (simp; done) | (simp; omega) | omega))⟩
  clear L hb hbs p0 lm HV KP hb4 z4 L4 HB4
  rintro w5 ⟨AT, hAT, hMA, hBA, LA, L, hB, hb⟩
  rw [← hAT]
  clear hAT
  have hbs := hb.size
  have pA := LA.1
  have pM := L.1
  go_upto_region 7 with (fail)
  refine gen_world (fun wx => ∃ SU, SU = w5.heap.size ∧ AT < SU ∧ Live wx SU #[.int .i64 0, .int .i64 0, .int .i64 0, .int .i64 0] ∧ Live wx AT #[.int .i64 (q 0), .int .i64 (q 1), .int .i64 (q 2), .int .i64 (q 3)] ∧ Live wx w.heap.size (mach f x t) ∧ BlkS wx a4 N h ∧ Below w.heap.size w wx) ?_ ?_
  · exact ⟨_, rfl, LA.1, by (repeat (first | with_reducible assumption | ((with_reducible apply live_new) <;> (first | with_reducible rfl | (focus (simp; done)))) | with_reducible apply live_alloc | with_reducible apply live_drew | with_reducible apply live_drewN | with_reducible apply live_put10 | with_reducible apply live_put8 | with_reducible apply live_put4 | ((with_reducible apply live_put10_other); (case hb => first | omega | (simp; done))) | ((with_reducible apply live_put8_other); (case hb => first | omega | (simp; done))) | ((with_reducible apply live_put4_other); (case hb => first | omega | (simp; done))) | ((with_reducible apply live_set_other); (case hb => first | omega | (simp; done))) | (focus (simp; done)))), by (repeat (first | with_reducible assumption | ((with_reducible apply live_new) <;> (first | with_reducible rfl | (focus (simp; done)))) | with_reducible apply live_alloc | with_reducible apply live_drew | with_reducible apply live_drewN | with_reducible apply live_put10 | with_reducible apply live_put8 | with_reducible apply live_put4 | ((with_reducible apply live_put10_other); (case hb => first | omega | (simp; done))) | ((with_reducible apply live_put8_other); (case hb => first | omega | (simp; done))) | ((with_reducible apply live_put4_other); (case hb => first | omega | (simp; done))) | ((with_reducible apply live_set_other); (case hb => first | omega | (simp; done))) | (focus (simp; done)))), by (repeat (first | with_reducible assumption | ((with_reducible apply live_new) <;> (first | with_reducible rfl | (focus (simp; done)))) | with_reducible apply live_alloc | with_reducible apply live_drew | with_reducible apply live_drewN | with_reducible apply live_put10 | with_reducible apply live_put8 | with_reducible apply live_put4 | ((with_reducible apply live_put10_other); (case hb => first | omega | (simp; done))) | ((with_reducible apply live_put8_other); (case hb => first | omega | (simp; done))) | ((with_reducible apply live_put4_other); (case hb => first | omega | (simp; done))) | ((with_reducible apply live_set_other); (case hb => first | omega | (simp; done))) | (focus (simp; done)))), blkS_below (B := w5.heap.size) (by (repeat' (first | with_reducible exact Below.refl _ _ | with_reducible refine Below.drew ?_ | with_reducible refine below_drewN ?_ _ | with_reducible refine Below.alloc ?_ ?_ _ | with_reducible refine Below.setCell ?_ ?_ _ | with_reducible refine Below.trans ?_ (Below.mono (by with_reducible assumption) ?_) | (simp; done) | (simp; omega) | omega))) (Nat.le_refl _) hB, by (repeat' (first | with_reducible exact Below.refl _ _ | with_reducible refine Below.drew ?_ | with_reducible refine below_drewN ?_ _ | with_reducible refine Below.alloc ?_ ?_ _ | with_reducible refine Below.setCell ?_ ?_ _ | with_reducible refine Below.trans ?_ (Below.mono (by with_reducible assumption) ?_) | (simp; done) | (simp; omega) | omega))⟩
  clear LA L hB hb hbs pA pM
  rintro w6 ⟨SU, hSU, hAS, LS, LA, L, hB, hb⟩
  rw [← hSU]
  clear hSU
  go_wp2_with fail
  go_loopw [11, 12] (ORel f x t h q N a4 AT SU w) (fun _ i _ => N - (intOf i).toNat)
  case atStart => exact ⟨0, 0, rfl, rfl, by omega, by omega, by omega, LS, LA, L, hB, hb⟩
  case round =>
    clear LS LA L hB hb
    obtain ⟨i, K, rfl, rfl, hi, K0, K1, LS, LA, L, hB, hb⟩ := hrel
    have hbs := hb.size
    have p0 := L.1
    have HB := Lib.hid hB
    by_cases hlt : i < N
    · obtain ⟨ba, oa, rfl, hlta⟩ := hBA (by omega)
      clear hB
      obtain ⟨hbv, ⟨d0, d1⟩, hcc, _, _⟩ := HT.out.1 i hlt
      obtain ⟨D, hD⟩ : ∃ D, D = gD h i := ⟨_, rfl⟩
      rw [← hD] at d0 d1
      have hN : blkN (h i 0) (h i 1) (h i 2) (h i 3) (h i 4) (h i 5) (h i 6) (h i 7) = D := by rw [hD]; unfold blkN; exact if_pos hbv
      obtain ⟨hsn, e0, e1, x0, x1⟩ := bval_in h i hbv
      have hdm : ∀ j, j < 4 → ab (h i j) ≤ D := fun j hj => by
        have hs := hsn
        unfold bsnd blkSound at hs
        rw [Bool.and_eq_true] at hs
        have h2 := dom_ge _ _ _ _ hs.1 j hj
        rw [limC_at h i j hj] at h2
        rw [hD]
        exact h2
      obtain ⟨W1, hW1⟩ : ∃ W1, W1 = plW D (h i 4) (h i 5) (h i 6) (h i 7) 1 t := ⟨_, rfl⟩
      have KST : Hid (∀ w, Calls Try.prog 12 #[.agg (blkA h i), .int .i64 t] w fun e w' => e = .returned (.tuple #[.agg #[.int .i64 (h i 0), .int .i64 (h i 1), .int .i64 (h i 2), .int .i64 (h i 3), .int .i64 (h i 4), .int .i64 (h i 5), .int .i64 (h i 6), .int .i64 (h i 7), .int .i64 0, .int .i64 W1], .int .i64 0]) ∧ Below w.heap.size w w') := Lib.hid (fun w => by
        have hr := pulse_start_ok (h i 0) (h i 1) (h i 2) (h i 3) (h i 4) (h i 5) (h i 6) (h i 7) t w hbv HPB.out
        rw [hN, ← hW1] at hr
        exact hr)
      have HN := Lib.hid hN
      have HCC := Lib.hid hcc
      have HDM := Lib.hid hdm
      have hZ : ∀ y, atM D 0 y = 0 := fun y => atM_none D y d0
      have hF : ∀ y, atM D D y = y := fun y => atM_full D y d0
      have HZ := Lib.hid hZ
      have HF := Lib.hid hF
      clear hbv hsn e0 e1 x0 x1 hdm hcc hN hD hW1 hZ hF
      have j0 : decide ((i : Int) < (N : Int)) = true := by simp; omega
      have j1 : (i : Int) < (N : Int) := by omega
      have j2 : (0 : Int) ≤ (i : Int) := by omega
      have lb : ∀ w' : World, w'.rangeAt ba (oa + i * 8) (blkA h i).toList → (loadB (.pointer (some ⟨ba, oa + i * 8, none⟩))).run Try.prog w' = .ok (.agg (blkA h i)) w' := fun w' h => loadB_run h
      go_upto_region 11 with (fail)
      go_cut [13, 14] (fun s13 s14 wx => ∃ X : Nat, s13 = .pointer (some ⟨X, 0, none⟩) ∧ s14 = .int .i64 0 ∧ wr.heap.size ≤ X ∧ Live wx X #[.int .i64 (h i 0), .int .i64 (h i 1), .int .i64 (h i 2), .int .i64 (h i 3), .int .i64 (h i 4), .int .i64 (h i 5), .int .i64 (h i 6), .int .i64 (h i 7), .int .i64 0, .int .i64 W1] ∧ Below wr.heap.size wr wx)
      case first =>
        go_region_held3 (fun w' => w'.rangeAt ba (oa + i * 8) (blkA h i).toList ∧ w'.cell? ⟨w.heap.size, 29, none⟩ = some (.int .i64 t)) (first | (focus (((with_reducible apply keep11 L HB.out hlt) <;> (repeat' (first | with_reducible exact Below.refl _ _ | with_reducible refine Below.drew ?_ | with_reducible refine below_drewN ?_ _ | with_reducible refine Below.alloc ?_ ?_ _ | with_reducible refine Below.setCell ?_ ?_ _ | with_reducible refine Below.trans ?_ (Below.mono (by with_reducible assumption) ?_) | (simp; done) | (simp; omega) | omega))); done)) | go_keep)
          ((go_at_call 12; (with_reducible refine (KST.out _).mono ?_); rintro e w1 ⟨rfl, hb1⟩; have z1 := hb1.size; (try simp at z1); (try ((apply live_take (b := wr.heap.size) hb1); (· (repeat (first | with_reducible assumption | ((with_reducible apply live_new) <;> (first | with_reducible rfl | (focus (simp; done)))) | with_reducible apply live_alloc | with_reducible apply live_drew | with_reducible apply live_drewN | ((with_reducible apply live_set_other); (case hb => first | omega | (simp; done))) | with_reducible apply live_set_same | (focus (simp; done))))); (intro L1m; obtain ⟨p1m, e1m, f1m⟩ := id L1m)))))
        all_goals (try go_wp2_with fail)
        all_goals go_meet
        all_goals refine ⟨_, rfl, rfl, ?_, ?_, ?_⟩
        all_goals first | omega | (focus ((repeat (first | with_reducible assumption | ((with_reducible apply live_new) <;> (first | with_reducible rfl | (focus (simp; done)))) | with_reducible apply live_alloc | with_reducible apply live_drew | with_reducible apply live_drewN | with_reducible apply live_put10 | with_reducible apply live_put8 | with_reducible apply live_put4 | ((with_reducible apply live_put10_other); (case hb => first | omega | (simp; done))) | ((with_reducible apply live_put8_other); (case hb => first | omega | (simp; done))) | ((with_reducible apply live_put4_other); (case hb => first | omega | (simp; done))) | ((with_reducible apply live_set_other); (case hb => first | omega | (simp; done))) | (focus (simp; done)))); done)) | (focus (((apply live_conv); (· (repeat (first | with_reducible assumption | ((with_reducible apply live_new) <;> (first | with_reducible rfl | (focus (simp; done)))) | with_reducible apply live_alloc | with_reducible apply live_drew | with_reducible apply live_drewN | ((with_reducible apply live_set_other); (case hb => first | omega | (simp; done))) | with_reducible apply live_set_same | (focus (simp; done))))); (· first | rfl | (simp; done))); done)) | (repeat' (first | with_reducible exact Below.refl _ _ | with_reducible refine Below.drew ?_ | with_reducible refine below_drewN ?_ _ | with_reducible refine Below.alloc ?_ ?_ _ | with_reducible refine Below.setCell ?_ ?_ _ | with_reducible refine Below.trans ?_ (Below.mono (by with_reducible assumption) ?_) | (simp; done) | (simp; omega) | omega))
      case rest =>
      obtain ⟨X, rfl, rfl, hX, LX, hbr⟩ := hcut
      have hSX : SU < X := by have := LS.1; omega
      refine gen_world (fun wx => Live wx X #[.int .i64 (h i 0), .int .i64 (h i 1), .int .i64 (h i 2), .int .i64 (h i 3), .int .i64 (h i 4), .int .i64 (h i 5), .int .i64 (h i 6), .int .i64 (h i 7), .int .i64 0, .int .i64 W1] ∧ Live wx SU #[.int .i64 (sumTo (fun k => h k 0) i + atM D 0 (h i 0)), .int .i64 (sumTo (fun k => h k 1) i + atM D 0 (h i 1)), .int .i64 (sumTo (fun k => h k 2) i + atM D 0 (h i 2)), .int .i64 (sumTo (fun k => h k 3) i + atM D 0 (h i 3))] ∧ Live wx AT #[.int .i64 (q 0), .int .i64 (q 1), .int .i64 (q 2), .int .i64 (q 3)] ∧ Live wx w.heap.size (mach f x t) ∧ BlkS wx (some ⟨ba, oa, none⟩) N h ∧ Below w.heap.size w wx) ?_ ?_
      · exact ⟨LX, by simp only [HZ.out, Int.add_zero]; exact live_below hbr LS, live_below hbr LA, live_below hbr L, blkS_below hbr (Nat.le_refl _) HB.out, hb.trans (hbr.mono hbs)⟩
      clear LX LS LA L HB hb hbs p0 hX hbr lb j0 j1 j2 KST HZ
      rintro w8 ⟨LX, LS, LA, L, hB, hb⟩
      go_wp2_with fail
      go_loopw [11] (IRel f x t h q N (some ⟨ba, oa, none⟩) AT SU X i D w) (fun K _ => (4001 - intOf K).toNat)
      case atStart => exact ⟨K, 0, W1, rfl, K0, K1, by omega, by omega, LX, LS, LA, L, hB, hb⟩
      case round =>
        clear LX LS LA L hB hb K0 K1
        obtain ⟨K, dn, wt, rfl, K0, K1, dn0, dn1, LX, LS, LA, L, hB, hb⟩ := hrel
        have hbs := hb.size
        have p0 := L.1
        have pA := LA.1
        have pS := LS.1
        have HB := Lib.hid hB
        clear hB
        obtain ⟨pX, eX, fX⟩ := id LX
        by_cases hE : dn = D
        · subst hE
          have KEN : Hid (∀ w, Calls Try.prog 13 #[.agg #[.int .i64 (h i 0), .int .i64 (h i 1), .int .i64 (h i 2), .int .i64 (h i 3), .int .i64 (h i 4), .int .i64 (h i 5), .int .i64 (h i 6), .int .i64 (h i 7), .int .i64 dn, .int .i64 wt]] w fun e w' => e = .returned (.bool true) ∧ Below w.heap.size w w') := Lib.hid (fun w => by
            have hr := pulse_ended (h i 0) (h i 1) (h i 2) (h i 3) (h i 4) (h i 5) (h i 6) (h i 7) dn wt w
            rw [HN.out, show enB dn dn = true from by unfold enB; exact decide_eq_true ⟨d0, rfl⟩] at hr
            exact hr)
          have LSn : Live wr SU #[.int .i64 (sumTo (fun k => h k 0) (i + 1)), .int .i64 (sumTo (fun k => h k 1) (i + 1)), .int .i64 (sumTo (fun k => h k 2) (i + 1)), .int .i64 (sumTo (fun k => h k 3) (i + 1))] := by
            have hs := LS
            rw [HF.out, HF.out, HF.out, HF.out] at hs
            exact hs
          clear LS
          have n1 : IntKind.i64.wrap ((i : Int) + 1) = ((i + 1 : Nat) : Int) := IntWalk.i64_in _ (by omega)
          go_wp2_with (go_at_call 13; (with_reducible refine (KEN.out _).mono ?_); rintro e w3 ⟨rfl, hb3⟩; have z3 := hb3.size; (try simp at z3); have L3a := live_below hb3 (b := w.heap.size) (by (repeat (first | with_reducible assumption | ((with_reducible apply live_new) <;> (first | with_reducible rfl | (focus (simp; done)))) | with_reducible apply live_alloc | with_reducible apply live_drew | with_reducible apply live_drewN | ((with_reducible apply live_set_other); (case hb => first | omega | (simp; done))) | with_reducible apply live_set_same | (focus (simp; done))))); obtain ⟨p3a, e3a, f3a⟩ := id L3a; have L3b := live_below hb3 (b := SU) (by (repeat (first | with_reducible assumption | ((with_reducible apply live_new) <;> (first | with_reducible rfl | (focus (simp; done)))) | with_reducible apply live_alloc | with_reducible apply live_drew | with_reducible apply live_drewN | ((with_reducible apply live_set_other); (case hb => first | omega | (simp; done))) | with_reducible apply live_set_same | (focus (simp; done))))); obtain ⟨p3b, e3b, f3b⟩ := id L3b; have L3c := live_below hb3 (b := AT) (by (repeat (first | with_reducible assumption | ((with_reducible apply live_new) <;> (first | with_reducible rfl | (focus (simp; done)))) | with_reducible apply live_alloc | with_reducible apply live_drew | with_reducible apply live_drewN | ((with_reducible apply live_set_other); (case hb => first | omega | (simp; done))) | with_reducible apply live_set_same | (focus (simp; done))))); obtain ⟨p3c, e3c, f3c⟩ := id L3c; clear e3a e3b e3c)
          clear n1
          go_roundw
          case rel => exact ⟨i + 1, K, rfl, by go_num, by omega, K0, K1, L3b, L3c, L3a, blkS_below hb3 (Nat.le_refl _) HB.out, by (repeat' (first | with_reducible exact Below.refl _ _ | with_reducible refine Below.drew ?_ | with_reducible refine below_drewN ?_ _ | with_reducible refine Below.alloc ?_ ?_ _ | with_reducible refine Below.setCell ?_ ?_ _ | with_reducible refine Below.trans ?_ (Below.mono (by with_reducible assumption) ?_) | (simp; done) | (simp; omega) | omega))⟩
          case measure => first | (simp [intOf]; done) | (simp [intOf]; omega)
        · have KEN : Hid (∀ w, Calls Try.prog 13 #[.agg #[.int .i64 (h i 0), .int .i64 (h i 1), .int .i64 (h i 2), .int .i64 (h i 3), .int .i64 (h i 4), .int .i64 (h i 5), .int .i64 (h i 6), .int .i64 (h i 7), .int .i64 dn, .int .i64 wt]] w fun e w' => e = .returned (.bool false) ∧ Below w.heap.size w w') := Lib.hid (fun w => by
            have hr := pulse_ended (h i 0) (h i 1) (h i 2) (h i 3) (h i 4) (h i 5) (h i 6) (h i 7) dn wt w
            rw [HN.out, show enB D dn = false from by unfold enB; exact decide_eq_false (fun h0 => hE h0.2)] at hr
            exact hr)
          have hs0 := fun j (hj : j < 4) => tick_sum D (h i 4) (h i 5) (h i 6) (h i 7) dn wt t (h i j)
          obtain ⟨hx0, hx1⟩ := tick_dn D (h i 4) (h i 5) (h i 6) (h i 7) dn wt t dn0 dn1
          have hpu := fun j (hj : j < 4) => tk_pu_in D (h i 4) (h i 5) (h i 6) (h i 7) t dn wt (h i j) d0 (HDM.out j hj)
          have hat := fun j (hj : j < 4) => at_in D dn (h i j) d0 (by omega) dn0 dn1 (HDM.out j hj)
          have hsm := fun j (hj : j < 4) => sumTo_in (fun k => h k j) N (fun k hk => (HT.out.1 k hk).2.2.1 j hj) i hi
          have htk := fun w => pulse_tick (h i 0) (h i 1) (h i 2) (h i 3) (h i 4) (h i 5) (h i 6) (h i 7) dn wt t w
          rw [HN.out] at htk
          obtain ⟨dn', hdn'⟩ : ∃ y, y = tkDn D (h i 4) (h i 5) (h i 6) (h i 7) dn wt t := ⟨_, rfl⟩
          obtain ⟨wt', hwt'⟩ : ∃ y, y = tkWt D (h i 4) (h i 5) (h i 6) (h i 7) dn wt t := ⟨_, rfl⟩
          obtain ⟨pu, hpu'⟩ : ∃ y : Nat → Int, ∀ j, j < 4 → y j = tkPu D (h i 4) (h i 5) (h i 6) (h i 7) dn wt t (h i j) := ⟨fun j => tkPu D (h i 4) (h i 5) (h i 6) (h i 7) dn wt t (h i j), fun j _ => rfl⟩
          obtain ⟨ou, hou⟩ : ∃ y : Nat → Int, ∀ j, j < 4 → y j = sumTo (fun k => h k j) i + atM D dn (h i j) := ⟨fun j => sumTo (fun k => h k j) i + atM D dn (h i j), fun j _ => rfl⟩
          obtain ⟨na, hna⟩ : ∃ y : Nat → Int, ∀ j, j < 4 → y j = 0 - pu j := ⟨fun j => 0 - pu j, fun j _ => rfl⟩
          obtain ⟨nu, hnu⟩ : ∃ y : Nat → Int, ∀ j, j < 4 → y j = ou j - na j := ⟨fun j => ou j - na j, fun j _ => rfl⟩
          have hbd : ∀ j, j < 4 → (-1 ≤ pu j ∧ pu j ≤ 1) ∧ (-20000000 ≤ ou j ∧ ou j ≤ 20000000) ∧ (-1 ≤ na j ∧ na j ≤ 1) := fun j hj => by
            have b1 := hpu j hj
            have b2 := hat j hj
            have b3 := hsm j hj
            have b4 := hpu' j hj
            have b5 := hou j hj
            have b6 := hna j hj
            omega
          have hnw : ∀ j, j < 4 → nu j = sumTo (fun k => h k j) i + atM D dn' (h i j) := fun j hj => by
            have b1 := hs0 j hj
            rw [← hpu' j hj, ← hdn'] at b1
            have b2 := hou j hj
            have b3 := hna j hj
            have b4 := hnu j hj
            omega
          have KTK : Hid (∀ w, Calls Try.prog 14 #[.agg #[.int .i64 (h i 0), .int .i64 (h i 1), .int .i64 (h i 2), .int .i64 (h i 3), .int .i64 (h i 4), .int .i64 (h i 5), .int .i64 (h i 6), .int .i64 (h i 7), .int .i64 dn, .int .i64 wt], .int .i64 t] w fun e w' => e = .returned (.tuple #[.agg #[.int .i64 (h i 0), .int .i64 (h i 1), .int .i64 (h i 2), .int .i64 (h i 3), .int .i64 (h i 4), .int .i64 (h i 5), .int .i64 (h i 6), .int .i64 (h i 7), .int .i64 dn', .int .i64 wt'], .agg #[.int .i64 (pu 0), .int .i64 (pu 1), .int .i64 (pu 2), .int .i64 (pu 3)]]) ∧ Below w.heap.size w w') := Lib.hid (fun w => by
            have hr := htk w
            rw [← hdn', ← hwt', ← hpu' 0 (by omega), ← hpu' 1 (by omega), ← hpu' 2 (by omega), ← hpu' 3 (by omega)] at hr
            exact hr)
          have KS1 : Hid (∀ w, Calls Try.prog 15 #[.agg #[.int .i64 0, .int .i64 0, .int .i64 0, .int .i64 0], .agg #[.int .i64 (pu 0), .int .i64 (pu 1), .int .i64 (pu 2), .int .i64 (pu 3)]] w fun e w' => e = .returned (.agg #[.int .i64 (na 0), .int .i64 (na 1), .int .i64 (na 2), .int .i64 (na 3)]) ∧ Below w.heap.size w w') := Lib.hid (fun w => by
            obtain ⟨c0, _, _⟩ := hbd 0 (by omega)
            obtain ⟨c1, _, _⟩ := hbd 1 (by omega)
            obtain ⟨c2, _, _⟩ := hbd 2 (by omega)
            obtain ⟨c3, _, _⟩ := hbd 3 (by omega)
            rw [hna 0 (by omega), hna 1 (by omega), hna 2 (by omega), hna 3 (by omega)]
            exact top_sub _ _ _ _ _ _ _ _ w (by omega) (by omega) (by omega) (by omega) (by omega) (by omega) (by omega) (by omega))
          have KS2 : Hid (∀ w, Calls Try.prog 15 #[.agg #[.int .i64 (ou 0), .int .i64 (ou 1), .int .i64 (ou 2), .int .i64 (ou 3)], .agg #[.int .i64 (na 0), .int .i64 (na 1), .int .i64 (na 2), .int .i64 (na 3)]] w fun e w' => e = .returned (.agg #[.int .i64 (nu 0), .int .i64 (nu 1), .int .i64 (nu 2), .int .i64 (nu 3)]) ∧ Below w.heap.size w w') := Lib.hid (fun w => by
            obtain ⟨_, c0, g0⟩ := hbd 0 (by omega)
            obtain ⟨_, c1, g1⟩ := hbd 1 (by omega)
            obtain ⟨_, c2, g2⟩ := hbd 2 (by omega)
            obtain ⟨_, c3, g3⟩ := hbd 3 (by omega)
            rw [hnu 0 (by omega), hnu 1 (by omega), hnu 2 (by omega), hnu 3 (by omega)]
            exact top_sub _ _ _ _ _ _ _ _ w (by omega) (by omega) (by omega) (by omega) (by omega) (by omega) (by omega) (by omega))
          rw [← hou 0 (by omega), ← hou 1 (by omega), ← hou 2 (by omega), ← hou 3 (by omega)] at LS
          have HNW := Lib.hid hnw
          have HX0 := Lib.hid hx0
          have HX1 := Lib.hid hx1
          rw [← hdn'] at HX0 HX1
          clear hs0 hx0 hx1 hpu hat hsm htk hdn' hwt' hpu' hou hna hnu hbd hnw hE
          have m29 : wr.cell? ⟨w.heap.size, 29, none⟩ = some (.int .i64 t) := L.2.1 29
          go_upto_region 17 with (first | (go_at_call 13; (with_reducible refine (KEN.out _).mono ?_); rintro e w3 ⟨rfl, hb3⟩; have z3 := hb3.size; (try simp at z3); have L3a := live_below hb3 (b := X) (by (repeat (first | with_reducible assumption | ((with_reducible apply live_new) <;> (first | with_reducible rfl | (focus (simp; done)))) | with_reducible apply live_alloc | with_reducible apply live_drew | with_reducible apply live_drewN | ((with_reducible apply live_set_other); (case hb => first | omega | (simp; done))) | with_reducible apply live_set_same | (focus (simp; done))))); obtain ⟨p3a, e3a, f3a⟩ := id L3a; have L3b := live_below hb3 (b := w.heap.size) (by (repeat (first | with_reducible assumption | ((with_reducible apply live_new) <;> (first | with_reducible rfl | (focus (simp; done)))) | with_reducible apply live_alloc | with_reducible apply live_drew | with_reducible apply live_drewN | ((with_reducible apply live_set_other); (case hb => first | omega | (simp; done))) | with_reducible apply live_set_same | (focus (simp; done))))); obtain ⟨p3b, e3b, f3b⟩ := id L3b; have L3c := live_below hb3 (b := SU) (by (repeat (first | with_reducible assumption | ((with_reducible apply live_new) <;> (first | with_reducible rfl | (focus (simp; done)))) | with_reducible apply live_alloc | with_reducible apply live_drew | with_reducible apply live_drewN | ((with_reducible apply live_set_other); (case hb => first | omega | (simp; done))) | with_reducible apply live_set_same | (focus (simp; done))))); obtain ⟨p3c, e3c, f3c⟩ := id L3c; have L3d := live_below hb3 (b := AT) (by (repeat (first | with_reducible assumption | ((with_reducible apply live_new) <;> (first | with_reducible rfl | (focus (simp; done)))) | with_reducible apply live_alloc | with_reducible apply live_drew | with_reducible apply live_drewN | ((with_reducible apply live_set_other); (case hb => first | omega | (simp; done))) | with_reducible apply live_set_same | (focus (simp; done))))); obtain ⟨p3d, e3d, f3d⟩ := id L3d; clear e3b e3c e3d; have m3 : w3.cell? ⟨w.heap.size, 29, none⟩ = some (.int .i64 t) := L3b.2.1 29) | (go_at_call 14; (with_reducible refine (KTK.out _).mono ?_); rintro e w5 ⟨rfl, hb5⟩; have z5 := hb5.size; (try simp at z5); have L5a := live_below hb5 (b := X) (by (repeat (first | with_reducible assumption | ((with_reducible apply live_new) <;> (first | with_reducible rfl | (focus (simp; done)))) | with_reducible apply live_alloc | with_reducible apply live_drew | with_reducible apply live_drewN | ((with_reducible apply live_set_other); (case hb => first | omega | (simp; done))) | with_reducible apply live_set_same | (focus (simp; done))))); obtain ⟨p5a, e5a, f5a⟩ := id L5a; have L5b := live_below hb5 (b := w.heap.size) (by (repeat (first | with_reducible assumption | ((with_reducible apply live_new) <;> (first | with_reducible rfl | (focus (simp; done)))) | with_reducible apply live_alloc | with_reducible apply live_drew | with_reducible apply live_drewN | ((with_reducible apply live_set_other); (case hb => first | omega | (simp; done))) | with_reducible apply live_set_same | (focus (simp; done))))); obtain ⟨p5b, e5b, f5b⟩ := id L5b; have L5c := live_below hb5 (b := SU) (by (repeat (first | with_reducible assumption | ((with_reducible apply live_new) <;> (first | with_reducible rfl | (focus (simp; done)))) | with_reducible apply live_alloc | with_reducible apply live_drew | with_reducible apply live_drewN | ((with_reducible apply live_set_other); (case hb => first | omega | (simp; done))) | with_reducible apply live_set_same | (focus (simp; done))))); obtain ⟨p5c, e5c, f5c⟩ := id L5c; have L5d := live_below hb5 (b := AT) (by (repeat (first | with_reducible assumption | ((with_reducible apply live_new) <;> (first | with_reducible rfl | (focus (simp; done)))) | with_reducible apply live_alloc | with_reducible apply live_drew | with_reducible apply live_drewN | ((with_reducible apply live_set_other); (case hb => first | omega | (simp; done))) | with_reducible apply live_set_same | (focus (simp; done))))); obtain ⟨p5d, e5d, f5d⟩ := id L5d; clear e5b e5c e5d))
          refine gen_world (fun wx => ∃ PB, PB = w5.heap.size + 1 ∧ X < PB ∧ Live wx PB #[.int .i64 (pu 0), .int .i64 (pu 1), .int .i64 (pu 2), .int .i64 (pu 3)] ∧ Live wx X #[.int .i64 (h i 0), .int .i64 (h i 1), .int .i64 (h i 2), .int .i64 (h i 3), .int .i64 (h i 4), .int .i64 (h i 5), .int .i64 (h i 6), .int .i64 (h i 7), .int .i64 dn', .int .i64 wt'] ∧ Live wx SU #[.int .i64 (ou 0), .int .i64 (ou 1), .int .i64 (ou 2), .int .i64 (ou 3)] ∧ Live wx AT #[.int .i64 (q 0), .int .i64 (q 1), .int .i64 (q 2), .int .i64 (q 3)] ∧ Live wx w.heap.size (mach f x t) ∧ BlkS wx (some ⟨ba, oa, none⟩) N h ∧ Below w.heap.size w wx) ?_ ?_
          · exact ⟨_, rfl, by omega, by (repeat (first | with_reducible assumption | ((with_reducible apply live_new) <;> (first | with_reducible rfl | (focus (simp; done)))) | with_reducible apply live_alloc | with_reducible apply live_drew | with_reducible apply live_drewN | with_reducible apply live_put10 | with_reducible apply live_put8 | with_reducible apply live_put4 | ((with_reducible apply live_put10_other); (case hb => first | omega | (simp; done))) | ((with_reducible apply live_put8_other); (case hb => first | omega | (simp; done))) | ((with_reducible apply live_put4_other); (case hb => first | omega | (simp; done))) | ((with_reducible apply live_set_other); (case hb => first | omega | (simp; done))) | (focus (simp; done)))), by (repeat (first | with_reducible assumption | ((with_reducible apply live_new) <;> (first | with_reducible rfl | (focus (simp; done)))) | with_reducible apply live_alloc | with_reducible apply live_drew | with_reducible apply live_drewN | with_reducible apply live_put10 | with_reducible apply live_put8 | with_reducible apply live_put4 | ((with_reducible apply live_put10_other); (case hb => first | omega | (simp; done))) | ((with_reducible apply live_put8_other); (case hb => first | omega | (simp; done))) | ((with_reducible apply live_put4_other); (case hb => first | omega | (simp; done))) | ((with_reducible apply live_set_other); (case hb => first | omega | (simp; done))) | (focus (simp; done)))), by (repeat (first | with_reducible assumption | ((with_reducible apply live_new) <;> (first | with_reducible rfl | (focus (simp; done)))) | with_reducible apply live_alloc | with_reducible apply live_drew | with_reducible apply live_drewN | with_reducible apply live_put10 | with_reducible apply live_put8 | with_reducible apply live_put4 | ((with_reducible apply live_put10_other); (case hb => first | omega | (simp; done))) | ((with_reducible apply live_put8_other); (case hb => first | omega | (simp; done))) | ((with_reducible apply live_put4_other); (case hb => first | omega | (simp; done))) | ((with_reducible apply live_set_other); (case hb => first | omega | (simp; done))) | (focus (simp; done)))), by (repeat (first | with_reducible assumption | ((with_reducible apply live_new) <;> (first | with_reducible rfl | (focus (simp; done)))) | with_reducible apply live_alloc | with_reducible apply live_drew | with_reducible apply live_drewN | with_reducible apply live_put10 | with_reducible apply live_put8 | with_reducible apply live_put4 | ((with_reducible apply live_put10_other); (case hb => first | omega | (simp; done))) | ((with_reducible apply live_put8_other); (case hb => first | omega | (simp; done))) | ((with_reducible apply live_put4_other); (case hb => first | omega | (simp; done))) | ((with_reducible apply live_set_other); (case hb => first | omega | (simp; done))) | (focus (simp; done)))), by (repeat (first | with_reducible assumption | ((with_reducible apply live_new) <;> (first | with_reducible rfl | (focus (simp; done)))) | with_reducible apply live_alloc | with_reducible apply live_drew | with_reducible apply live_drewN | with_reducible apply live_put10 | with_reducible apply live_put8 | with_reducible apply live_put4 | ((with_reducible apply live_put10_other); (case hb => first | omega | (simp; done))) | ((with_reducible apply live_put8_other); (case hb => first | omega | (simp; done))) | ((with_reducible apply live_put4_other); (case hb => first | omega | (simp; done))) | ((with_reducible apply live_set_other); (case hb => first | omega | (simp; done))) | (focus (simp; done)))), blkS_low (B := AT) (by (repeat' (first | with_reducible exact Below.refl _ _ | with_reducible refine Below.drew ?_ | with_reducible refine below_drewN ?_ _ | with_reducible refine Below.alloc ?_ ?_ _ | with_reducible refine Below.setCell ?_ ?_ _ | with_reducible refine Below.trans ?_ (Below.mono (by with_reducible assumption) ?_) | (simp; done) | (simp; omega) | omega))) hlta (by simp; omega) HB.out, by (repeat' (first | with_reducible exact Below.refl _ _ | with_reducible refine Below.drew ?_ | with_reducible refine below_drewN ?_ _ | with_reducible refine Below.alloc ?_ ?_ _ | with_reducible refine Below.setCell ?_ ?_ _ | with_reducible refine Below.trans ?_ (Below.mono (by with_reducible assumption) ?_) | (simp; done) | (simp; omega) | omega))⟩
          clear LX pX eX fX LS pS LA pA L p0 HB hb hbs m29 hb3 z3 L3a p3a e3a f3a L3b p3b f3b L3c p3c f3c L3d p3d f3d m3 hb5 z5 L5a p5a e5a f5a L5b p5b f5b L5c p5c f5c L5d p5d f5d KEN KTK
          rintro wy ⟨PB, hPB2, hXP, LP, LX, LS, LA, L, hB, hb⟩
          rw [← hPB2]
          clear hPB2
          have hbs := hb.size
          have p0 := L.1
          have pA := LA.1
          have pS := LS.1
          have pX := LX.1
          have pP := LP.1
          have HB := Lib.hid hB
          clear hB
          obtain ⟨q0, q1, q2, q3⟩ := live_four LS
          obtain ⟨r0, r1, r2, r3⟩ := live_four LP
          refine wp_region_noPanic ?_
          refine wp_region_held_drew (S := (fun w' => w'.cell? ⟨PB, 0, none⟩ = some (.int .i64 (pu 0)) ∧ w'.cell? ⟨PB, 1, none⟩ = some (.int .i64 (pu 1)) ∧ w'.cell? ⟨PB, 2, none⟩ = some (.int .i64 (pu 2)) ∧ w'.cell? ⟨PB, 3, none⟩ = some (.int .i64 (pu 3)))) (by kernel_rfl) ?_ (fun hHeld => ?_)
          · (try dsimp only); (focus ((with_reducible apply live_four) <;> ((repeat (first | with_reducible assumption | ((with_reducible apply live_new) <;> (first | with_reducible rfl | (focus (simp; done)))) | with_reducible apply live_alloc | with_reducible apply live_drew | with_reducible apply live_drewN | ((with_reducible apply live_set_other); (case hb => first | omega | (simp; done))) | with_reducible apply live_set_same | (focus (simp; done)))); done)))
          refine wpAnyH_take (i := 1) (oi := ?z1oi) (v := ?z1v) ?z1hi (by kernel_rfl) (by kernel_rfl) (by kernel_rfl) (fun _ _ _ h => h) (Or.inl ⟨?z1hw, ?z1hy⟩) hHeld ?z1rest
          case z1hi => (simp only [List.getElem?_toArray, List.getElem?_cons_succ, List.getElem?_cons_zero]; exact rfl)
          case z1hw => rfl
          case z1hy => (intro w hSw; (try dsimp only at hSw); go_simp; (try with_reducible rfl))
          (try simp only [Act.put, List.setIfInBounds_toArray, List.set_cons_zero, List.set_cons_succ])
          refine wpAnyH_take (i := 2) (oi := ?z2oi) (v := ?z2v) ?z2hi (by kernel_rfl) (by kernel_rfl) (by kernel_rfl) (fun _ _ _ h => h) (Or.inl ⟨?z2hw, ?z2hy⟩) hHeld ?z2rest
          case z2hi => (simp only [List.getElem?_toArray, List.getElem?_cons_succ, List.getElem?_cons_zero]; exact rfl)
          case z2hw => rfl
          case z2hy => (intro w hSw; (try dsimp only at hSw); go_simp; (try with_reducible rfl))
          (try simp only [Act.put, List.setIfInBounds_toArray, List.set_cons_zero, List.set_cons_succ])
          refine wpAnyH_ready (rs := [0, 3]) (by kernel_rfl) (by simp) ?_
          refine AllReadyH.cons (o := ?z3oi) ?z3hi (fun K hK => ?_) ?_
          case z3hi => (simp only [List.getElem?_toArray, List.getElem?_cons_zero]; exact rfl)
          · go_simp
            skip
            refine hK.out _ _ ?_ (fun hHeld => ?_)
            · (try dsimp only); (focus ((with_reducible apply live_four) <;> ((repeat (first | with_reducible assumption | ((with_reducible apply live_new) <;> (first | with_reducible rfl | (focus (simp; done)))) | with_reducible apply live_alloc | with_reducible apply live_drew | with_reducible apply live_drewN | ((with_reducible apply live_set_other); (case hb => first | omega | (simp; done))) | with_reducible apply live_set_same | (focus (simp; done)))); done)))
            clear hK K
            (try simp only [Act.put, List.setIfInBounds_toArray, List.set_cons_zero, List.set_cons_succ])
            refine wpAnyH_ready (rs := [3]) (by kernel_rfl) (by simp) ?_
            refine AllReadyH.cons (o := ?z4oi) ?z4hi (fun K hK => ?_) AllReadyH.nil
            case z4hi => (simp only [List.getElem?_toArray, List.getElem?_cons_succ, List.getElem?_cons_zero]; exact rfl)
            go_simp
            (go_at_call 15; (with_reducible refine (KS1.out _).mono ?_); rintro e w7 ⟨rfl, hb7⟩; have z7 := hb7.size; (try simp at z7); have L7a := live_below hb7 (b := SU) (by (repeat (first | with_reducible assumption | ((with_reducible apply live_new) <;> (first | with_reducible rfl | (focus (simp; done)))) | with_reducible apply live_alloc | with_reducible apply live_drew | with_reducible apply live_drewN | ((with_reducible apply live_set_other); (case hb => first | omega | (simp; done))) | with_reducible apply live_set_same | (focus (simp; done))))); obtain ⟨p7a, e7a, f7a⟩ := id L7a; have L7b := live_below hb7 (b := PB) (by (repeat (first | with_reducible assumption | ((with_reducible apply live_new) <;> (first | with_reducible rfl | (focus (simp; done)))) | with_reducible apply live_alloc | with_reducible apply live_drew | with_reducible apply live_drewN | ((with_reducible apply live_set_other); (case hb => first | omega | (simp; done))) | with_reducible apply live_set_same | (focus (simp; done))))); obtain ⟨p7b, e7b, f7b⟩ := id L7b; have L7c := live_below hb7 (b := X) (by (repeat (first | with_reducible assumption | ((with_reducible apply live_new) <;> (first | with_reducible rfl | (focus (simp; done)))) | with_reducible apply live_alloc | with_reducible apply live_drew | with_reducible apply live_drewN | ((with_reducible apply live_set_other); (case hb => first | omega | (simp; done))) | with_reducible apply live_set_same | (focus (simp; done))))); obtain ⟨p7c, e7c, f7c⟩ := id L7c; have L7d := live_below hb7 (b := AT) (by (repeat (first | with_reducible assumption | ((with_reducible apply live_new) <;> (first | with_reducible rfl | (focus (simp; done)))) | with_reducible apply live_alloc | with_reducible apply live_drew | with_reducible apply live_drewN | ((with_reducible apply live_set_other); (case hb => first | omega | (simp; done))) | with_reducible apply live_set_same | (focus (simp; done))))); obtain ⟨p7d, e7d, f7d⟩ := id L7d; have L7e := live_below hb7 (b := w.heap.size) (by (repeat (first | with_reducible assumption | ((with_reducible apply live_new) <;> (first | with_reducible rfl | (focus (simp; done)))) | with_reducible apply live_alloc | with_reducible apply live_drew | with_reducible apply live_drewN | ((with_reducible apply live_set_other); (case hb => first | omega | (simp; done))) | with_reducible apply live_set_same | (focus (simp; done))))); obtain ⟨p7e, e7e, f7e⟩ := id L7e; clear e7a e7b e7c e7d e7e; obtain ⟨q70, q71, q72, q73⟩ := live_four L7a)
            refine hK.out _ _ ?_ (fun hHeld => ?_)
            · (try dsimp only); (focus ((with_reducible apply live_four) <;> ((repeat (first | with_reducible assumption | ((with_reducible apply live_new) <;> (first | with_reducible rfl | (focus (simp; done)))) | with_reducible apply live_alloc | with_reducible apply live_drew | with_reducible apply live_drewN | ((with_reducible apply live_set_other); (case hb => first | omega | (simp; done))) | with_reducible apply live_set_same | (focus (simp; done)))); done)))
            clear hK K
            (try simp only [Act.put, List.setIfInBounds_toArray, List.set_cons_zero, List.set_cons_succ])
            refine wpAnyH_ready (rs := [4]) (by kernel_rfl) (by simp) ?_
            refine AllReadyH.cons (o := ?z5oi) ?z5hi (fun K hK => ?_) AllReadyH.nil
            case z5hi => (simp only [List.getElem?_toArray, List.getElem?_cons_succ, List.getElem?_cons_zero]; exact rfl)
            go_simp
            (go_at_call 15; (with_reducible refine (KS2.out _).mono ?_); rintro e w8 ⟨rfl, hb8⟩; have z8 := hb8.size; (try simp at z8); have L8a := live_below hb8 (b := SU) (by (repeat (first | with_reducible assumption | ((with_reducible apply live_new) <;> (first | with_reducible rfl | (focus (simp; done)))) | with_reducible apply live_alloc | with_reducible apply live_drew | with_reducible apply live_drewN | ((with_reducible apply live_set_other); (case hb => first | omega | (simp; done))) | with_reducible apply live_set_same | (focus (simp; done))))); obtain ⟨p8a, e8a, f8a⟩ := id L8a; have L8b := live_below hb8 (b := PB) (by (repeat (first | with_reducible assumption | ((with_reducible apply live_new) <;> (first | with_reducible rfl | (focus (simp; done)))) | with_reducible apply live_alloc | with_reducible apply live_drew | with_reducible apply live_drewN | ((with_reducible apply live_set_other); (case hb => first | omega | (simp; done))) | with_reducible apply live_set_same | (focus (simp; done))))); obtain ⟨p8b, e8b, f8b⟩ := id L8b; have L8c := live_below hb8 (b := X) (by (repeat (first | with_reducible assumption | ((with_reducible apply live_new) <;> (first | with_reducible rfl | (focus (simp; done)))) | with_reducible apply live_alloc | with_reducible apply live_drew | with_reducible apply live_drewN | ((with_reducible apply live_set_other); (case hb => first | omega | (simp; done))) | with_reducible apply live_set_same | (focus (simp; done))))); obtain ⟨p8c, e8c, f8c⟩ := id L8c; have L8d := live_below hb8 (b := AT) (by (repeat (first | with_reducible assumption | ((with_reducible apply live_new) <;> (first | with_reducible rfl | (focus (simp; done)))) | with_reducible apply live_alloc | with_reducible apply live_drew | with_reducible apply live_drewN | ((with_reducible apply live_set_other); (case hb => first | omega | (simp; done))) | with_reducible apply live_set_same | (focus (simp; done))))); obtain ⟨p8d, e8d, f8d⟩ := id L8d; have L8e := live_below hb8 (b := w.heap.size) (by (repeat (first | with_reducible assumption | ((with_reducible apply live_new) <;> (first | with_reducible rfl | (focus (simp; done)))) | with_reducible apply live_alloc | with_reducible apply live_drew | with_reducible apply live_drewN | ((with_reducible apply live_set_other); (case hb => first | omega | (simp; done))) | with_reducible apply live_set_same | (focus (simp; done))))); obtain ⟨p8e, e8e, f8e⟩ := id L8e; clear e8a e8b e8c e8d e8e; obtain ⟨q80, q81, q82, q83⟩ := live_four L8a)
            refine hK.out _ _ ?_ (fun hHeld => ?_)
            · (try dsimp only); (focus ((with_reducible apply live_four) <;> ((repeat (first | with_reducible assumption | ((with_reducible apply live_new) <;> (first | with_reducible rfl | (focus (simp; done)))) | with_reducible apply live_alloc | with_reducible apply live_drew | with_reducible apply live_drewN | ((with_reducible apply live_set_other); (case hb => first | omega | (simp; done))) | with_reducible apply live_set_same | (focus (simp; done)))); done)))
            clear hK K
            (try simp only [Act.put, List.setIfInBounds_toArray, List.set_cons_zero, List.set_cons_succ])
            refine wpAnyH_ready (rs := [5]) (by kernel_rfl) (by simp) ?_
            refine AllReadyH.cons (o := ?z6oi) ?z6hi (fun K hK => ?_) AllReadyH.nil
            case z6hi => (simp only [List.getElem?_toArray, List.getElem?_cons_succ, List.getElem?_cons_zero]; exact rfl)
            go_simp
            skip
            refine hK.out _ _ ?_ (fun hHeld => ?_)
            · (try dsimp only); (focus ((with_reducible apply live_four) <;> ((repeat (first | with_reducible assumption | ((with_reducible apply live_new) <;> (first | with_reducible rfl | (focus (simp; done)))) | with_reducible apply live_alloc | with_reducible apply live_drew | with_reducible apply live_drewN | ((with_reducible apply live_set_other); (case hb => first | omega | (simp; done))) | with_reducible apply live_set_same | (focus (simp; done)))); done)))
            clear hK K
            (try simp only [Act.put, List.setIfInBounds_toArray, List.set_cons_zero, List.set_cons_succ])
            refine wpAnyH_done (by kernel_rfl) ?_ _
            refine NoPanic.normal ?_
            refine gen_world (fun wx => Live wx X #[.int .i64 (h i 0), .int .i64 (h i 1), .int .i64 (h i 2), .int .i64 (h i 3), .int .i64 (h i 4), .int .i64 (h i 5), .int .i64 (h i 6), .int .i64 (h i 7), .int .i64 dn', .int .i64 wt'] ∧ Live wx SU #[.int .i64 (nu 0), .int .i64 (nu 1), .int .i64 (nu 2), .int .i64 (nu 3)] ∧ Live wx AT #[.int .i64 (q 0), .int .i64 (q 1), .int .i64 (q 2), .int .i64 (q 3)] ∧ Live wx w.heap.size (mach f x t) ∧ BlkS wx (some ⟨ba, oa, none⟩) N h ∧ Below w.heap.size w wx) ⟨by (repeat (first | with_reducible assumption | ((with_reducible apply live_new) <;> (first | with_reducible rfl | (focus (simp; done)))) | with_reducible apply live_alloc | with_reducible apply live_drew | with_reducible apply live_drewN | with_reducible apply live_put10 | with_reducible apply live_put8 | with_reducible apply live_put4 | ((with_reducible apply live_put10_other); (case hb => first | omega | (simp; done))) | ((with_reducible apply live_put8_other); (case hb => first | omega | (simp; done))) | ((with_reducible apply live_put4_other); (case hb => first | omega | (simp; done))) | ((with_reducible apply live_set_other); (case hb => first | omega | (simp; done))) | (focus (simp; done)))), by (repeat (first | with_reducible assumption | ((with_reducible apply live_new) <;> (first | with_reducible rfl | (focus (simp; done)))) | with_reducible apply live_alloc | with_reducible apply live_drew | with_reducible apply live_drewN | with_reducible apply live_put10 | with_reducible apply live_put8 | with_reducible apply live_put4 | ((with_reducible apply live_put10_other); (case hb => first | omega | (simp; done))) | ((with_reducible apply live_put8_other); (case hb => first | omega | (simp; done))) | ((with_reducible apply live_put4_other); (case hb => first | omega | (simp; done))) | ((with_reducible apply live_set_other); (case hb => first | omega | (simp; done))) | (focus (simp; done)))), by (repeat (first | with_reducible assumption | ((with_reducible apply live_new) <;> (first | with_reducible rfl | (focus (simp; done)))) | with_reducible apply live_alloc | with_reducible apply live_drew | with_reducible apply live_drewN | with_reducible apply live_put10 | with_reducible apply live_put8 | with_reducible apply live_put4 | ((with_reducible apply live_put10_other); (case hb => first | omega | (simp; done))) | ((with_reducible apply live_put8_other); (case hb => first | omega | (simp; done))) | ((with_reducible apply live_put4_other); (case hb => first | omega | (simp; done))) | ((with_reducible apply live_set_other); (case hb => first | omega | (simp; done))) | (focus (simp; done)))), by (repeat (first | with_reducible assumption | ((with_reducible apply live_new) <;> (first | with_reducible rfl | (focus (simp; done)))) | with_reducible apply live_alloc | with_reducible apply live_drew | with_reducible apply live_drewN | with_reducible apply live_put10 | with_reducible apply live_put8 | with_reducible apply live_put4 | ((with_reducible apply live_put10_other); (case hb => first | omega | (simp; done))) | ((with_reducible apply live_put8_other); (case hb => first | omega | (simp; done))) | ((with_reducible apply live_put4_other); (case hb => first | omega | (simp; done))) | ((with_reducible apply live_set_other); (case hb => first | omega | (simp; done))) | (focus (simp; done)))), blkS_low (B := AT) (by (repeat' (first | with_reducible exact Below.refl _ _ | with_reducible refine Below.drew ?_ | with_reducible refine below_drewN ?_ _ | with_reducible refine Below.alloc ?_ ?_ _ | with_reducible refine Below.setCell ?_ ?_ _ | with_reducible refine Below.trans ?_ (Below.mono (by with_reducible assumption) ?_) | (simp; done) | (simp; omega) | omega))) hlta (by simp; omega) HB.out, by (repeat' (first | with_reducible exact Below.refl _ _ | with_reducible refine Below.drew ?_ | with_reducible refine below_drewN ?_ _ | with_reducible refine Below.alloc ?_ ?_ _ | with_reducible refine Below.setCell ?_ ?_ _ | with_reducible refine Below.trans ?_ (Below.mono (by with_reducible assumption) ?_) | (simp; done) | (simp; omega) | omega))⟩ ?_
            clear LX pX LS pS LA pA L p0 HB hb hbs hb7 z7 L7a p7a f7a L7b p7b f7b L7c p7c f7c L7d p7d f7d L7e p7e f7e hb8 z8 L8a p8a f8a L8b p8b f8b L8c p8c f8c L8d p8d f8d L8e p8e f8e q0 q1 q2 q3 r0 r1 r2 r3 q70 q71 q72 q73 q80 q81 q82 q83 KS1 KS2 LP pP hHeld
            rintro wz ⟨LX, LS, LA, L, hB, hb⟩
            rw [HNW.out 0 (by omega), HNW.out 1 (by omega), HNW.out 2 (by omega), HNW.out 3 (by omega)] at LS
            have hbs := hb.size
            have k1 : IntKind.i64.wrap (K + 1) = K + 1 := IntWalk.i64_in _ (by omega)
            by_cases h4 : 4000 < K + 1
            · have b0 : decide (4000 < K + 1) = true := decide_eq_true h4
              go_wp2_with (go_at_call 7; (with_reducible refine (KMV.out _).mono ?_); rintro e wm ⟨rfl, hbm⟩; have zm := hbm.size; (try simp at zm))
              go_ret
              refine ⟨rfl, ?_⟩
              (repeat' (first | with_reducible exact Below.refl _ _ | with_reducible refine Below.drew ?_ | with_reducible refine below_drewN ?_ _ | with_reducible refine Below.alloc ?_ ?_ _ | with_reducible refine Below.setCell ?_ ?_ _ | with_reducible refine Below.trans ?_ (Below.mono (by with_reducible assumption) ?_) | (simp; done) | (simp; omega) | omega))
            · have b0 : decide (4000 < K + 1) = false := decide_eq_false h4
              go_wp2_with fail
              go_roundw
              case rel => exact ⟨K + 1, dn', wt', by go_num, by omega, by omega, HX0.out, HX1.out, LX, LS, LA, L, hB, hb⟩
              case measure => first | (simp [intOf]; done) | (simp [intOf]; omega)
          refine AllReadyH.cons (o := ?z7oi) ?z7hi (fun K hK => ?_) AllReadyH.nil
          case z7hi => (simp only [List.getElem?_toArray, List.getElem?_cons_succ, List.getElem?_cons_zero]; exact rfl)
          go_simp
          (go_at_call 15; (with_reducible refine (KS1.out _).mono ?_); rintro e w7 ⟨rfl, hb7⟩; have z7 := hb7.size; (try simp at z7); have L7a := live_below hb7 (b := SU) (by (repeat (first | with_reducible assumption | ((with_reducible apply live_new) <;> (first | with_reducible rfl | (focus (simp; done)))) | with_reducible apply live_alloc | with_reducible apply live_drew | with_reducible apply live_drewN | ((with_reducible apply live_set_other); (case hb => first | omega | (simp; done))) | with_reducible apply live_set_same | (focus (simp; done))))); obtain ⟨p7a, e7a, f7a⟩ := id L7a; have L7b := live_below hb7 (b := PB) (by (repeat (first | with_reducible assumption | ((with_reducible apply live_new) <;> (first | with_reducible rfl | (focus (simp; done)))) | with_reducible apply live_alloc | with_reducible apply live_drew | with_reducible apply live_drewN | ((with_reducible apply live_set_other); (case hb => first | omega | (simp; done))) | with_reducible apply live_set_same | (focus (simp; done))))); obtain ⟨p7b, e7b, f7b⟩ := id L7b; have L7c := live_below hb7 (b := X) (by (repeat (first | with_reducible assumption | ((with_reducible apply live_new) <;> (first | with_reducible rfl | (focus (simp; done)))) | with_reducible apply live_alloc | with_reducible apply live_drew | with_reducible apply live_drewN | ((with_reducible apply live_set_other); (case hb => first | omega | (simp; done))) | with_reducible apply live_set_same | (focus (simp; done))))); obtain ⟨p7c, e7c, f7c⟩ := id L7c; have L7d := live_below hb7 (b := AT) (by (repeat (first | with_reducible assumption | ((with_reducible apply live_new) <;> (first | with_reducible rfl | (focus (simp; done)))) | with_reducible apply live_alloc | with_reducible apply live_drew | with_reducible apply live_drewN | ((with_reducible apply live_set_other); (case hb => first | omega | (simp; done))) | with_reducible apply live_set_same | (focus (simp; done))))); obtain ⟨p7d, e7d, f7d⟩ := id L7d; have L7e := live_below hb7 (b := w.heap.size) (by (repeat (first | with_reducible assumption | ((with_reducible apply live_new) <;> (first | with_reducible rfl | (focus (simp; done)))) | with_reducible apply live_alloc | with_reducible apply live_drew | with_reducible apply live_drewN | ((with_reducible apply live_set_other); (case hb => first | omega | (simp; done))) | with_reducible apply live_set_same | (focus (simp; done))))); obtain ⟨p7e, e7e, f7e⟩ := id L7e; clear e7a e7b e7c e7d e7e; obtain ⟨q70, q71, q72, q73⟩ := live_four L7a)
          refine hK.out _ _ ?_ (fun hHeld => ?_)
          · (try dsimp only); (focus ((with_reducible apply live_four) <;> ((repeat (first | with_reducible assumption | ((with_reducible apply live_new) <;> (first | with_reducible rfl | (focus (simp; done)))) | with_reducible apply live_alloc | with_reducible apply live_drew | with_reducible apply live_drewN | ((with_reducible apply live_set_other); (case hb => first | omega | (simp; done))) | with_reducible apply live_set_same | (focus (simp; done)))); done)))
          clear hK K
          (try simp only [Act.put, List.setIfInBounds_toArray, List.set_cons_zero, List.set_cons_succ])
          refine wpAnyH_ready (rs := [0]) (by kernel_rfl) (by simp) ?_
          refine AllReadyH.cons (o := ?z8oi) ?z8hi (fun K hK => ?_) AllReadyH.nil
          case z8hi => (simp only [List.getElem?_toArray, List.getElem?_cons_zero]; exact rfl)
          go_simp
          skip
          refine hK.out _ _ ?_ (fun hHeld => ?_)
          · (try dsimp only); (focus ((with_reducible apply live_four) <;> ((repeat (first | with_reducible assumption | ((with_reducible apply live_new) <;> (first | with_reducible rfl | (focus (simp; done)))) | with_reducible apply live_alloc | with_reducible apply live_drew | with_reducible apply live_drewN | ((with_reducible apply live_set_other); (case hb => first | omega | (simp; done))) | with_reducible apply live_set_same | (focus (simp; done)))); done)))
          clear hK K
          (try simp only [Act.put, List.setIfInBounds_toArray, List.set_cons_zero, List.set_cons_succ])
          refine wpAnyH_ready (rs := [4]) (by kernel_rfl) (by simp) ?_
          refine AllReadyH.cons (o := ?z9oi) ?z9hi (fun K hK => ?_) AllReadyH.nil
          case z9hi => (simp only [List.getElem?_toArray, List.getElem?_cons_succ, List.getElem?_cons_zero]; exact rfl)
          go_simp
          (go_at_call 15; (with_reducible refine (KS2.out _).mono ?_); rintro e w8 ⟨rfl, hb8⟩; have z8 := hb8.size; (try simp at z8); have L8a := live_below hb8 (b := SU) (by (repeat (first | with_reducible assumption | ((with_reducible apply live_new) <;> (first | with_reducible rfl | (focus (simp; done)))) | with_reducible apply live_alloc | with_reducible apply live_drew | with_reducible apply live_drewN | ((with_reducible apply live_set_other); (case hb => first | omega | (simp; done))) | with_reducible apply live_set_same | (focus (simp; done))))); obtain ⟨p8a, e8a, f8a⟩ := id L8a; have L8b := live_below hb8 (b := PB) (by (repeat (first | with_reducible assumption | ((with_reducible apply live_new) <;> (first | with_reducible rfl | (focus (simp; done)))) | with_reducible apply live_alloc | with_reducible apply live_drew | with_reducible apply live_drewN | ((with_reducible apply live_set_other); (case hb => first | omega | (simp; done))) | with_reducible apply live_set_same | (focus (simp; done))))); obtain ⟨p8b, e8b, f8b⟩ := id L8b; have L8c := live_below hb8 (b := X) (by (repeat (first | with_reducible assumption | ((with_reducible apply live_new) <;> (first | with_reducible rfl | (focus (simp; done)))) | with_reducible apply live_alloc | with_reducible apply live_drew | with_reducible apply live_drewN | ((with_reducible apply live_set_other); (case hb => first | omega | (simp; done))) | with_reducible apply live_set_same | (focus (simp; done))))); obtain ⟨p8c, e8c, f8c⟩ := id L8c; have L8d := live_below hb8 (b := AT) (by (repeat (first | with_reducible assumption | ((with_reducible apply live_new) <;> (first | with_reducible rfl | (focus (simp; done)))) | with_reducible apply live_alloc | with_reducible apply live_drew | with_reducible apply live_drewN | ((with_reducible apply live_set_other); (case hb => first | omega | (simp; done))) | with_reducible apply live_set_same | (focus (simp; done))))); obtain ⟨p8d, e8d, f8d⟩ := id L8d; have L8e := live_below hb8 (b := w.heap.size) (by (repeat (first | with_reducible assumption | ((with_reducible apply live_new) <;> (first | with_reducible rfl | (focus (simp; done)))) | with_reducible apply live_alloc | with_reducible apply live_drew | with_reducible apply live_drewN | ((with_reducible apply live_set_other); (case hb => first | omega | (simp; done))) | with_reducible apply live_set_same | (focus (simp; done))))); obtain ⟨p8e, e8e, f8e⟩ := id L8e; clear e8a e8b e8c e8d e8e; obtain ⟨q80, q81, q82, q83⟩ := live_four L8a)
          refine hK.out _ _ ?_ (fun hHeld => ?_)
          · (try dsimp only); (focus ((with_reducible apply live_four) <;> ((repeat (first | with_reducible assumption | ((with_reducible apply live_new) <;> (first | with_reducible rfl | (focus (simp; done)))) | with_reducible apply live_alloc | with_reducible apply live_drew | with_reducible apply live_drewN | ((with_reducible apply live_set_other); (case hb => first | omega | (simp; done))) | with_reducible apply live_set_same | (focus (simp; done)))); done)))
          clear hK K
          (try simp only [Act.put, List.setIfInBounds_toArray, List.set_cons_zero, List.set_cons_succ])
          refine wpAnyH_ready (rs := [5]) (by kernel_rfl) (by simp) ?_
          refine AllReadyH.cons (o := ?z10oi) ?z10hi (fun K hK => ?_) AllReadyH.nil
          case z10hi => (simp only [List.getElem?_toArray, List.getElem?_cons_succ, List.getElem?_cons_zero]; exact rfl)
          go_simp
          skip
          refine hK.out _ _ ?_ (fun hHeld => ?_)
          · (try dsimp only); (focus ((with_reducible apply live_four) <;> ((repeat (first | with_reducible assumption | ((with_reducible apply live_new) <;> (first | with_reducible rfl | (focus (simp; done)))) | with_reducible apply live_alloc | with_reducible apply live_drew | with_reducible apply live_drewN | ((with_reducible apply live_set_other); (case hb => first | omega | (simp; done))) | with_reducible apply live_set_same | (focus (simp; done)))); done)))
          clear hK K
          (try simp only [Act.put, List.setIfInBounds_toArray, List.set_cons_zero, List.set_cons_succ])
          refine wpAnyH_done (by kernel_rfl) ?_ _
          refine NoPanic.normal ?_
          refine gen_world (fun wx => Live wx X #[.int .i64 (h i 0), .int .i64 (h i 1), .int .i64 (h i 2), .int .i64 (h i 3), .int .i64 (h i 4), .int .i64 (h i 5), .int .i64 (h i 6), .int .i64 (h i 7), .int .i64 dn', .int .i64 wt'] ∧ Live wx SU #[.int .i64 (nu 0), .int .i64 (nu 1), .int .i64 (nu 2), .int .i64 (nu 3)] ∧ Live wx AT #[.int .i64 (q 0), .int .i64 (q 1), .int .i64 (q 2), .int .i64 (q 3)] ∧ Live wx w.heap.size (mach f x t) ∧ BlkS wx (some ⟨ba, oa, none⟩) N h ∧ Below w.heap.size w wx) ⟨by (repeat (first | with_reducible assumption | ((with_reducible apply live_new) <;> (first | with_reducible rfl | (focus (simp; done)))) | with_reducible apply live_alloc | with_reducible apply live_drew | with_reducible apply live_drewN | with_reducible apply live_put10 | with_reducible apply live_put8 | with_reducible apply live_put4 | ((with_reducible apply live_put10_other); (case hb => first | omega | (simp; done))) | ((with_reducible apply live_put8_other); (case hb => first | omega | (simp; done))) | ((with_reducible apply live_put4_other); (case hb => first | omega | (simp; done))) | ((with_reducible apply live_set_other); (case hb => first | omega | (simp; done))) | (focus (simp; done)))), by (repeat (first | with_reducible assumption | ((with_reducible apply live_new) <;> (first | with_reducible rfl | (focus (simp; done)))) | with_reducible apply live_alloc | with_reducible apply live_drew | with_reducible apply live_drewN | with_reducible apply live_put10 | with_reducible apply live_put8 | with_reducible apply live_put4 | ((with_reducible apply live_put10_other); (case hb => first | omega | (simp; done))) | ((with_reducible apply live_put8_other); (case hb => first | omega | (simp; done))) | ((with_reducible apply live_put4_other); (case hb => first | omega | (simp; done))) | ((with_reducible apply live_set_other); (case hb => first | omega | (simp; done))) | (focus (simp; done)))), by (repeat (first | with_reducible assumption | ((with_reducible apply live_new) <;> (first | with_reducible rfl | (focus (simp; done)))) | with_reducible apply live_alloc | with_reducible apply live_drew | with_reducible apply live_drewN | with_reducible apply live_put10 | with_reducible apply live_put8 | with_reducible apply live_put4 | ((with_reducible apply live_put10_other); (case hb => first | omega | (simp; done))) | ((with_reducible apply live_put8_other); (case hb => first | omega | (simp; done))) | ((with_reducible apply live_put4_other); (case hb => first | omega | (simp; done))) | ((with_reducible apply live_set_other); (case hb => first | omega | (simp; done))) | (focus (simp; done)))), by (repeat (first | with_reducible assumption | ((with_reducible apply live_new) <;> (first | with_reducible rfl | (focus (simp; done)))) | with_reducible apply live_alloc | with_reducible apply live_drew | with_reducible apply live_drewN | with_reducible apply live_put10 | with_reducible apply live_put8 | with_reducible apply live_put4 | ((with_reducible apply live_put10_other); (case hb => first | omega | (simp; done))) | ((with_reducible apply live_put8_other); (case hb => first | omega | (simp; done))) | ((with_reducible apply live_put4_other); (case hb => first | omega | (simp; done))) | ((with_reducible apply live_set_other); (case hb => first | omega | (simp; done))) | (focus (simp; done)))), blkS_low (B := AT) (by (repeat' (first | with_reducible exact Below.refl _ _ | with_reducible refine Below.drew ?_ | with_reducible refine below_drewN ?_ _ | with_reducible refine Below.alloc ?_ ?_ _ | with_reducible refine Below.setCell ?_ ?_ _ | with_reducible refine Below.trans ?_ (Below.mono (by with_reducible assumption) ?_) | (simp; done) | (simp; omega) | omega))) hlta (by simp; omega) HB.out, by (repeat' (first | with_reducible exact Below.refl _ _ | with_reducible refine Below.drew ?_ | with_reducible refine below_drewN ?_ _ | with_reducible refine Below.alloc ?_ ?_ _ | with_reducible refine Below.setCell ?_ ?_ _ | with_reducible refine Below.trans ?_ (Below.mono (by with_reducible assumption) ?_) | (simp; done) | (simp; omega) | omega))⟩ ?_
          clear LX pX LS pS LA pA L p0 HB hb hbs hb7 z7 L7a p7a f7a L7b p7b f7b L7c p7c f7c L7d p7d f7d L7e p7e f7e hb8 z8 L8a p8a f8a L8b p8b f8b L8c p8c f8c L8d p8d f8d L8e p8e f8e q0 q1 q2 q3 r0 r1 r2 r3 q70 q71 q72 q73 q80 q81 q82 q83 KS1 KS2 LP pP hHeld
          rintro wz ⟨LX, LS, LA, L, hB, hb⟩
          rw [HNW.out 0 (by omega), HNW.out 1 (by omega), HNW.out 2 (by omega), HNW.out 3 (by omega)] at LS
          have hbs := hb.size
          have k1 : IntKind.i64.wrap (K + 1) = K + 1 := IntWalk.i64_in _ (by omega)
          by_cases h4 : 4000 < K + 1
          · have b0 : decide (4000 < K + 1) = true := decide_eq_true h4
            go_wp2_with (go_at_call 7; (with_reducible refine (KMV.out _).mono ?_); rintro e wm ⟨rfl, hbm⟩; have zm := hbm.size; (try simp at zm))
            go_ret
            refine ⟨rfl, ?_⟩
            (repeat' (first | with_reducible exact Below.refl _ _ | with_reducible refine Below.drew ?_ | with_reducible refine below_drewN ?_ _ | with_reducible refine Below.alloc ?_ ?_ _ | with_reducible refine Below.setCell ?_ ?_ _ | with_reducible refine Below.trans ?_ (Below.mono (by with_reducible assumption) ?_) | (simp; done) | (simp; omega) | omega))
          · have b0 : decide (4000 < K + 1) = false := decide_eq_false h4
            go_wp2_with fail
            go_roundw
            case rel => exact ⟨K + 1, dn', wt', by go_num, by omega, by omega, HX0.out, HX1.out, LX, LS, LA, L, hB, hb⟩
            case measure => first | (simp [intOf]; done) | (simp [intOf]; omega)
    · obtain rfl : i = N := by omega
      have hW := HW.out
      rw [hW 0 (by omega), hW 1 (by omega), hW 2 (by omega), hW 3 (by omega)] at LS
      have j0 : decide ((i : Int) < (i : Int)) = false := by simp
      have hq : ∀ (x y z u : Int) (w : World), (binOp .eql 32 (.agg #[.int .i64 x, .int .i64 y, .int .i64 z, .int .i64 u]) (.agg #[.int .i64 x, .int .i64 y, .int .i64 z, .int .i64 u])).run Try.prog w = .ok (.bool true) w := fun x y z u w => by
        rw [arr_eql]; simp [same4]
      obtain ⟨q0, q1, q2, q3⟩ := live_four LS
      obtain ⟨r0, r1, r2, r3⟩ := live_four LA
      clear hW
      go_wp2_with (go_at_call 7; (with_reducible refine (KMV.out _).mono ?_); rintro e wm ⟨rfl, hbm⟩; have zm := hbm.size; (try simp at zm))
      go_ret
      refine ⟨rfl, ?_⟩
      (repeat' (first | with_reducible exact Below.refl _ _ | with_reducible refine Below.drew ?_ | with_reducible refine below_drewN ?_ _ | with_reducible refine Below.alloc ?_ ?_ _ | with_reducible refine Below.setCell ?_ ?_ _ | with_reducible refine Below.trans ?_ (Below.mono (by with_reducible assumption) ?_) | (simp; done) | (simp; omega) | omega))

theorem walk2 (f : Nat → Int) (x : Bool) (t : Int) (p : Nat → Nat → Int) (sl : Option Addr) (n cl : Nat) (fd : Int) (w : World) (hn : n ≤ 9223372036854775807) (hl : VecS w sl n p) (hfd : -9223372036854775808 ≤ fd ∧ fd ≤ 9223372036854775807) :
    Calls Try.prog 4 #[.agg (mach f x t), .slice sl n cl, .int .i64 fd] w fun e w' => e = .returned (.bool true) ∧ Below w.heap.size w w' := walk f x t fd p sl n cl w hn hfd hl

set_option maxRecDepth 100000 in
theorem lifted (os : Os) (started : os.Started) (H : Type) (enc : TypeId × Value → H) :
    ReturnsInHanded {} Try.checked os 4 .any (Rows.topPulsesSpec.pre6 enc Try.prog Try.f4 Rows.topPulsesRow.domain false) (Rows.topPulsesSpec.post enc Try.prog Try.f4 false true false false) := by
  refine returnsInHanded_of_change (C := Try.checked) own started (by kernel_rfl) Try.func4
    (ChangeSpec.witness6 (enc := enc) (C := Try.checked) false ⟨#[], #[.agg #[.int .i64 0, .int .i64 0, .int .i64 0, .int .i64 0, .int .i64 0, .int .i64 0, .int .i64 0, .int .i64 0, .int .i64 0, .int .i64 0, .int .i64 0, .int .i64 0, .int .i64 0, .int .i64 0, .int .i64 0, .int .i64 0, .int .i64 0, .int .i64 0, .int .i64 0, .int .i64 0, .int .i64 0, .int .i64 0, .int .i64 0, .int .i64 0, .int .i64 0, .int .i64 0, .int .i64 0, .int .i64 0, .bool false, .int .i64 0], .slice none 0 0, .int .i64 0], []⟩ 8 (by kernel_rfl) (by kernel_rfl) (by kernel_rfl) (by kernel_rfl)) ?_
  intro W base args ds gs before hval0 hW _ _
  have hval : ∀ (j : Nat) t v, Try.f4.params[j]? = some t → args[j]? = some v → Value.okWide Try.prog W .any base t v := hval0
  have hW' := hW
  obtain ⟨p, q, hA0, hV, rfl, _, _⟩ := hW
  have hA : DataW.TrodAll enc Try.prog W 0 (fun _ => true) true Try.f4.params.toList args.toList ds p := hA0
  rw [Try.params4] at hA hval
  obtain ⟨v0, v1, v2, d0, d1, d2, p0, p1, p2, rfl, rfl, rfl, h0, h1, h2⟩ := trodAll_three hA
  clear hA hA0 hval0
  obtain ⟨f0, x0, t0, bf0, bt0, rfl⟩ := mach_open (hval 0 26 v0 rfl rfl)
  obtain ⟨s1, l1, c1, g1, rfl, bl1, bs1⟩ := vecs_open (hval 1 27 v1 rfl rfl) h1
  obtain ⟨a2, rfl, ba2⟩ := int_open Try.underlying3 (hval 2 3 v2 rfl rfl)
  exact (walk2 f0 x0 t0 g1 s1 l1 c1 a2 W bl1 bs1 ba2).mono fun e W' ⟨he, hb⟩ => ⟨_, he, law_post laidOut (by kernel_rfl) rfl (fun _ => rfl) rfl Try.underlying4 hW' hb⟩

theorem holds : Rows.TopPulsesSaid :=
  OpenClaim.holds_of_wide 4 Try.f4 rfl rfl rfl rfl rfl rfl rfl ⟨rfl, rfl, rfl, rfl, rfl⟩ rfl rfl rfl rfl rfl (by kernel_rfl) Try.func4 (by kernel_rfl)
    (of_decide_eq_true (by kernel_rfl)) (by unfold Func.isWrapper; rw [if_neg (of_decide_eq_false (by kernel_rfl))]; exact ⟨rfl, rfl⟩)
    (fun os started H enc _ => lifted os started H enc)

#print axioms holds
end Go.Proofs.Ytkiadcgdmeebmaa.topPulses
