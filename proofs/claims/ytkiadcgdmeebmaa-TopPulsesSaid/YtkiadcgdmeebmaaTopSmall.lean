/- The small helpers of the laws of the top: sub, axis, simple, short, slow -/
import Derived.Handy
import Derived.RegionTactic
import Derived.BigRegion
import Derived.Lib.Hide
import Derived.Test.YtkiadcgdmeebmaaKit6
import Derived.Test.YtkiadcgdmeebmaaKinOpen
import Derived.Test.YtkiadcgdmeebmaaTopKit
import Derived.Test.YtkiadcgdmeebmaaTopPlain
namespace Go.Proofs.Ytkiadcgdmeebmaa
open Go.RowKit
set_option linter.unusedVariables false

attribute [local go_sem] cell_past1 cell_past2 cell_past3 cell_past4 froz_past1 froz_past2 froz_past3

set_option maxRecDepth 100000 in
set_option maxHeartbeats 4000000 in
theorem top_sub (a b c d a' b' c' d' : Int) (w : World) (h0 : -1152921504606846976 ≤ a ∧ a ≤ 1152921504606846976) (h1 : -1152921504606846976 ≤ b ∧ b ≤ 1152921504606846976) (h2 : -1152921504606846976 ≤ c ∧ c ≤ 1152921504606846976) (h3 : -1152921504606846976 ≤ d ∧ d ≤ 1152921504606846976)
    (g0 : -1152921504606846976 ≤ a' ∧ a' ≤ 1152921504606846976) (g1 : -1152921504606846976 ≤ b' ∧ b' ≤ 1152921504606846976) (g2 : -1152921504606846976 ≤ c' ∧ c' ≤ 1152921504606846976) (g3 : -1152921504606846976 ≤ d' ∧ d' ≤ 1152921504606846976) :
    Calls Try.prog 15 #[.agg #[.int .i64 a, .int .i64 b, .int .i64 c, .int .i64 d], .agg #[.int .i64 a', .int .i64 b', .int .i64 c', .int .i64 d']] w fun e w' => e = .returned (.agg #[.int .i64 (a - a'), .int .i64 (b - b'), .int .i64 (c - c'), .int .i64 (d - d')]) ∧ Below w.heap.size w w' := by
  have v0 : IntKind.i64.wrap (a - a') = a - a' := IntWalk.i64_in _ (by omega)
  have v1 : IntKind.i64.wrap (b - b') = b - b' := IntWalk.i64_in _ (by omega)
  have v2 : IntKind.i64.wrap (c - c') = c - c' := IntWalk.i64_in _ (by omega)
  have v3 : IntKind.i64.wrap (d - d') = d - d' := IntWalk.i64_in _ (by omega)
  have x0 : RowKit.wrap64 (a - a') = a - a' := by unfold RowKit.wrap64; omega
  have x1 : RowKit.wrap64 (b - b') = b - b' := by unfold RowKit.wrap64; omega
  have x2 : RowKit.wrap64 (c - c') = c - c' := by unfold RowKit.wrap64; omega
  have x3 : RowKit.wrap64 (d - d') = d - d' := by unfold RowKit.wrap64; omega
  clear h0 h1 h2 h3 g0 g1 g2 g3
  go_enter Try.func15, Try.ntmps15
  go_wp2
  refine wp_loop_rounds 5 ?_
  iterate 4
    rw [rounds_succ]
    go_wp2
    go_region
    go_wp2
  rw [rounds_succ]
  go_wp2
  refine bodyPost_ret (v := .agg #[.int .i64 (a - a'), .int .i64 (b - b'), .int .i64 (c - c'), .int .i64 (d - d')]) (by simp [results, Try.results15, go_sem]) rfl ⟨rfl, ?_⟩
  (repeat' (first | with_reducible exact Below.refl _ _ | with_reducible refine Below.drew ?_ | with_reducible refine below_drewN ?_ _ | with_reducible refine Below.alloc ?_ ?_ _ | with_reducible refine Below.setCell ?_ ?_ _ | with_reducible refine Below.trans ?_ (Below.mono (by with_reducible assumption) ?_) | (simp; done) | (simp; omega) | omega))

set_option maxRecDepth 100000 in
set_option maxHeartbeats 4000000 in
theorem top_axis (w : World) : Calls Try.prog 32 #[] w fun e w' => e = .returned (.agg #[.int .i64 1, .int .i64 1, .int .i64 1000, .int .i64 50, .int .i64 10, .int .i64 (-1000), .int .i64 1000]) ∧ Below w.heap.size w w' := by
  go_enter Try.func32, Try.ntmps32
  go_wp2
  refine bodyPost_ret (v := .agg #[.int .i64 1, .int .i64 1, .int .i64 1000, .int .i64 50, .int .i64 10, .int .i64 (-1000), .int .i64 1000]) (by simp [results, Try.results32, go_sem]) rfl ⟨rfl, ?_⟩
  (repeat' (first | with_reducible exact Below.refl _ _ | with_reducible refine Below.drew ?_ | with_reducible refine below_drewN ?_ _ | with_reducible refine Below.alloc ?_ ?_ _ | with_reducible refine Below.setCell ?_ ?_ _ | with_reducible refine Below.trans ?_ (Below.mono (by with_reducible assumption) ?_) | (simp; done) | (simp; omega) | omega))

def zeroM0 : Array Value := mach (fun _ => 0) false 0
theorem alloc_M0 (w : World) : (Instr.alloc 26 true (.tuple #[])).run Try.prog w = .ok (.pointer (some ⟨w.heap.size, 0, none⟩)) (w.alloc (.cells zeroM0 26)) := by kernel_rfl
def axF (i : Nat) : Int := if i % 7 = 0 then 1 else if i % 7 = 1 then 1 else if i % 7 = 2 then 1000 else if i % 7 = 3 then 50 else if i % 7 = 4 then 10 else if i % 7 = 5 then -1000 else 1000
set_option maxRecDepth 100000 in
set_option maxHeartbeats 4000000 in
theorem top_simple (w : World) : Calls Try.prog 16 #[] w fun e w' => e = .returned (.agg (mach axF false 100)) ∧ Below w.heap.size w w' := by
  have KA := Lib.hid top_axis
  go_enter Try.func16, Try.ntmps16
  go_upto_region 1 with (with_reducible refine wpList_alloc_in (ty := 26) zeroM0 (alloc_M0 _) ?_)
  refine gen_world (fun wx => Live wx w.heap.size zeroM0 ∧ Below w.heap.size w wx) ?_ ?_
  · exact ⟨live_new _ _ rfl, by (repeat' (first | with_reducible exact Below.refl _ _ | with_reducible refine Below.drew ?_ | with_reducible refine below_drewN ?_ _ | with_reducible refine Below.alloc ?_ ?_ _ | with_reducible refine Below.setCell ?_ ?_ _ | with_reducible refine Below.trans ?_ (Below.mono (by with_reducible assumption) ?_) | (simp; done) | (simp; omega) | omega))⟩
  rintro wx ⟨L, hb⟩
  have p0 := L.1
  go_wp2_with (first | (go_at_call 32; (with_reducible refine (KA.out _).mono ?_); rintro e w1 ⟨rfl, hb1⟩; have z1 := hb1.size; (try simp at z1); have L1a := live_below hb1 (b := w.heap.size) (by (repeat (first | with_reducible assumption | ((with_reducible apply live_new) <;> (first | with_reducible rfl | (focus (simp; done)))) | with_reducible apply live_alloc | with_reducible apply live_drew | with_reducible apply live_drewN | ((with_reducible apply live_set_other); (case hb => first | omega | (simp; done))) | with_reducible apply live_set_same | (focus (simp; done))))); obtain ⟨p1a, e1a, f1a⟩ := id L1a; clear e1a) | ((with_reducible refine wpList_build_in (ty := 26) (mach axF false 100) ?_ ?_); (· kernel_rfl)) | ((with_reducible refine wpList_store_in (ty := 26) w.heap.size 0 (mach axF false 100) ?_ ?_ ?_ ?_ (mach_one _ _ _) ?_); (· rfl); (· rfl); (· exact live_there (c := zeroM0) (by (repeat (first | with_reducible assumption | ((with_reducible apply live_new) <;> (first | with_reducible rfl | (focus (simp; done)))) | with_reducible apply live_alloc | with_reducible apply live_drew | with_reducible apply live_drewN | ((with_reducible apply live_set_other); (case hb => first | omega | (simp; done))) | with_reducible apply live_set_same | (focus (simp; done))))) 0 30 (by decide)); (· kernel_rfl); refine gen_world (fun wx => Live wx w.heap.size (mach axF false 100) ∧ Below w.heap.size w wx) ⟨live_whole (c := zeroM0) (by (repeat (first | with_reducible assumption | ((with_reducible apply live_new) <;> (first | with_reducible rfl | (focus (simp; done)))) | with_reducible apply live_alloc | with_reducible apply live_drew | with_reducible apply live_drewN | ((with_reducible apply live_set_other); (case hb => first | omega | (simp; done))) | with_reducible apply live_set_same | (focus (simp; done))))) _ rfl, by (repeat' (first | with_reducible refine below_setCells (by omega) _ _ _ ?_ | with_reducible exact Below.refl _ _ | with_reducible refine Below.drew ?_ | with_reducible refine below_drewN ?_ _ | with_reducible refine Below.alloc ?_ ?_ _ | with_reducible refine Below.setCell ?_ ?_ _ | with_reducible refine Below.trans ?_ (Below.mono (by with_reducible assumption) ?_) | (simp; done) | (simp; omega) | omega))⟩ ?_; rintro wz ⟨Lz, hbz⟩))
  exact bodyPost_ret (v := .agg (mach axF false 100)) (results_cell_mid rfl _ _ w.heap.size _ _ rfl Lz Try.underlying26 rfl (by kernel_rfl)) rfl ⟨rfl, hbz⟩

/-- A call that answers true only if P holds. -/
def TrueIf (P : Prop) (w : World) (e : Ending) (w' : World) : Prop := (∃ r, e = .returned (.bool r) ∧ (r = true → P)) ∧ Below w.heap.size w w'
def SRel (p : Nat → Nat → Int) (n : Nat) (w : World) (s3 : Value) (wx : World) : Prop :=
  ∃ k : Nat, s3 = .int .i64 k ∧ k ≤ n ∧ k ≤ 13 ∧ (∀ j, j < k → ∀ o, o < 3 → -40 ≤ p j o ∧ p j o ≤ 40) ∧ Below w.heap.size w wx
set_option maxRecDepth 100000 in
set_option maxHeartbeats 4000000 in
theorem top_short (p : Nat → Nat → Int) (sl : Option Addr) (n cl : Nat) (w : World) (hn : n ≤ 9223372036854775807) (hl : VecS w sl n p) :
    Calls Try.prog 5 #[.slice sl n cl] w (TrueIf (Near p n) w) := by
  have HL := Lib.hid hl
  clear hl
  go_enter Try.func5, Try.ntmps5
  go_wp2
  go_loopw [3] (SRel p n w) (fun i _ => n - (intOf i).toNat)
  case atStart => exact ⟨0, rfl, by omega, by omega, fun j hj => absurd hj (by omega), Below.refl _ _⟩
  case round =>
    obtain ⟨k, rfl, hk, hk2, hin, hb⟩ := hrel
    have hbs := hb.size
    have HIN := Lib.hid hin
    clear hin
    by_cases hlt : k < n ∧ k < 13
    · obtain ⟨hlt, hlt2⟩ := hlt
      obtain ⟨b, off, rfl, hltb, _⟩ := HL.out (by omega)
      have j0 : decide ((k : Int) < (n : Int)) = true := by simp; omega
      have j1 : (k : Int) < (n : Int) := by omega
      have j2 : decide ((k : Int) < 13) = true := by simp; omega
      have hl' := vecS_below hb (Nat.le_refl _) HL.out
      have c0 := vecS_cell hl' k 0 hlt (by omega)
      have c1 := vecS_cell hl' k 1 hlt (by omega)
      have c2 := vecS_cell hl' k 2 hlt (by omega)
      have hx1 : b < wr.heap.size := by omega
      rw [Nat.add_zero] at c0
      clear hl'
      have fin : ∀ w' : World, Below wr.heap.size wr w' → Below w.heap.size w w' := fun w' h => hb.trans (h.mono hbs)
      by_cases a0 : p k 0 < -40
      · have b0 : decide (p k 0 < -40) = true := decide_eq_true a0
        go_wp2
        all_goals go_ret
        all_goals refine ⟨⟨_, rfl, fun h => by cases h⟩, ?_⟩
        all_goals (repeat' (first | with_reducible exact Below.refl _ _ | with_reducible refine Below.drew ?_ | with_reducible refine below_drewN ?_ _ | with_reducible refine Below.alloc ?_ ?_ _ | with_reducible refine Below.setCell ?_ ?_ _ | with_reducible refine Below.trans ?_ (Below.mono (by with_reducible assumption) ?_) | (simp; done) | (simp; omega) | omega))
      have b0 : decide (p k 0 < -40) = false := decide_eq_false a0
      by_cases a1 : 40 < p k 0
      · have b1 : decide (40 < p k 0) = true := decide_eq_true a1
        go_wp2
        all_goals go_ret
        all_goals refine ⟨⟨_, rfl, fun h => by cases h⟩, ?_⟩
        all_goals (repeat' (first | with_reducible exact Below.refl _ _ | with_reducible refine Below.drew ?_ | with_reducible refine below_drewN ?_ _ | with_reducible refine Below.alloc ?_ ?_ _ | with_reducible refine Below.setCell ?_ ?_ _ | with_reducible refine Below.trans ?_ (Below.mono (by with_reducible assumption) ?_) | (simp; done) | (simp; omega) | omega))
      have b1 : decide (40 < p k 0) = false := decide_eq_false a1
      by_cases a2 : p k 1 < -40
      · have b2 : decide (p k 1 < -40) = true := decide_eq_true a2
        go_wp2
        all_goals go_ret
        all_goals refine ⟨⟨_, rfl, fun h => by cases h⟩, ?_⟩
        all_goals (repeat' (first | with_reducible exact Below.refl _ _ | with_reducible refine Below.drew ?_ | with_reducible refine below_drewN ?_ _ | with_reducible refine Below.alloc ?_ ?_ _ | with_reducible refine Below.setCell ?_ ?_ _ | with_reducible refine Below.trans ?_ (Below.mono (by with_reducible assumption) ?_) | (simp; done) | (simp; omega) | omega))
      have b2 : decide (p k 1 < -40) = false := decide_eq_false a2
      by_cases a3 : 40 < p k 1
      · have b3 : decide (40 < p k 1) = true := decide_eq_true a3
        go_wp2
        all_goals go_ret
        all_goals refine ⟨⟨_, rfl, fun h => by cases h⟩, ?_⟩
        all_goals (repeat' (first | with_reducible exact Below.refl _ _ | with_reducible refine Below.drew ?_ | with_reducible refine below_drewN ?_ _ | with_reducible refine Below.alloc ?_ ?_ _ | with_reducible refine Below.setCell ?_ ?_ _ | with_reducible refine Below.trans ?_ (Below.mono (by with_reducible assumption) ?_) | (simp; done) | (simp; omega) | omega))
      have b3 : decide (40 < p k 1) = false := decide_eq_false a3
      by_cases a4 : p k 2 < -40
      · have b4 : decide (p k 2 < -40) = true := decide_eq_true a4
        go_wp2
        all_goals go_ret
        all_goals refine ⟨⟨_, rfl, fun h => by cases h⟩, ?_⟩
        all_goals (repeat' (first | with_reducible exact Below.refl _ _ | with_reducible refine Below.drew ?_ | with_reducible refine below_drewN ?_ _ | with_reducible refine Below.alloc ?_ ?_ _ | with_reducible refine Below.setCell ?_ ?_ _ | with_reducible refine Below.trans ?_ (Below.mono (by with_reducible assumption) ?_) | (simp; done) | (simp; omega) | omega))
      have b4 : decide (p k 2 < -40) = false := decide_eq_false a4
      by_cases a5 : 40 < p k 2
      · have b5 : decide (40 < p k 2) = true := decide_eq_true a5
        go_wp2
        all_goals go_ret
        all_goals refine ⟨⟨_, rfl, fun h => by cases h⟩, ?_⟩
        all_goals (repeat' (first | with_reducible exact Below.refl _ _ | with_reducible refine Below.drew ?_ | with_reducible refine below_drewN ?_ _ | with_reducible refine Below.alloc ?_ ?_ _ | with_reducible refine Below.setCell ?_ ?_ _ | with_reducible refine Below.trans ?_ (Below.mono (by with_reducible assumption) ?_) | (simp; done) | (simp; omega) | omega))
      have b5 : decide (40 < p k 2) = false := decide_eq_false a5
      go_wp2
      all_goals go_roundw
      case rel =>
        refine ⟨k + 1, by go_num, by omega, by omega, fun j hj o ho => ?_, by (repeat' (first | with_reducible exact Below.refl _ _ | with_reducible refine Below.drew ?_ | with_reducible refine below_drewN ?_ _ | with_reducible refine Below.alloc ?_ ?_ _ | with_reducible refine Below.setCell ?_ ?_ _ | with_reducible refine Below.trans ?_ (Below.mono (by with_reducible assumption) ?_) | (simp; done) | (simp; omega) | omega))⟩
        by_cases e : j = k
        · subst e
          rcases (by omega : o = 0 ∨ o = 1 ∨ o = 2) with rfl | rfl | rfl <;> omega
        · exact HIN.out j (by omega) o ho
      case measure => first | (simp [intOf]; done) | (simp [intOf]; omega)
    · by_cases h1 : k < n
      · have j0 : decide ((k : Int) < (n : Int)) = true := by simp; omega
        have j1 : (k : Int) < (n : Int) := by omega
        have j2 : decide ((k : Int) < 13) = false := by simp; omega
        have j3 : decide ((n : Int) ≤ 12) = false := by simp; omega
        go_wp2
        go_ret
        exact ⟨⟨_, rfl, fun h => by cases h⟩, hb⟩
      · have j0 : decide ((k : Int) < (n : Int)) = false := by simp; omega
        obtain rfl : k = n := by omega
        have j0' : decide ((k : Int) < (k : Int)) = false := by simp
        go_wp2
        go_ret
        refine ⟨⟨_, rfl, fun h => ?_⟩, hb⟩
        have h12 : k ≤ 12 := by
          have := of_decide_eq_true h
          omega
        exact ⟨h12, HIN.out⟩

/-- The cells of axis k. -/
theorem live_axis {w : World} {b : Nat} {f : Nat → Int} {x : Bool} {t : Int} (L : Live w b (mach f x t)) (i : Nat) (h : i < 28) : w.cell? ⟨b, i, none⟩ = some (.int .i64 (f i)) := by
  rw [L.2.1 i, mach_getf f x t i h]
def Slow0 (f : Nat → Int) (n : Nat) : Prop := ∀ k, k < n → 1 ≤ f (7 * k + 1) ∧ f (7 * k) ≤ 65536 ∧ f (7 * k) ≤ RowKit.wrap64 (20 * f (7 * k + 1))
theorem slow_of (f : Nat → Int) (t : Int) (h : Slow0 f 4) (hv : kinValid f t = true) : Slow f := fun k hk => by
  obtain ⟨h1, h2, h3⟩ := h k hk
  have ha := ax_ok f k (kin_axes f t hv k hk)
  refine ⟨h1, h2, ?_⟩
  rw [show RowKit.wrap64 (20 * f (7 * k + 1)) = 20 * f (7 * k + 1) from by unfold RowKit.wrap64; omega] at h3
  exact h3
def SlRel (f : Nat → Int) (x : Bool) (t : Int) (w : World) (s3 : Value) (wx : World) : Prop :=
  ∃ k : Nat, s3 = .int .i64 k ∧ k ≤ 4 ∧ Slow0 f k ∧ Live wx w.heap.size (mach f x t) ∧ Below w.heap.size w wx
set_option maxRecDepth 100000 in
set_option maxHeartbeats 4000000 in
theorem top_slow (f : Nat → Int) (x : Bool) (t : Int) (w : World) :
    Calls Try.prog 6 #[.agg (mach f x t)] w (TrueIf (kinValid f t = true → Slow f) w) := by
  go_enter Try.func6, Try.ntmps6
  go_upto_region 1 with (fail)
  refine gen_world (fun wx => Live wx w.heap.size (mach f x t) ∧ Below w.heap.size w wx) ?_ ?_
  · exact ⟨live_new _ _ rfl, by (repeat' (first | with_reducible exact Below.refl _ _ | with_reducible refine Below.drew ?_ | with_reducible refine below_drewN ?_ _ | with_reducible refine Below.alloc ?_ ?_ _ | with_reducible refine Below.setCell ?_ ?_ _ | with_reducible refine Below.trans ?_ (Below.mono (by with_reducible assumption) ?_) | (simp; done) | (simp; omega) | omega))⟩
  rintro wx ⟨L, hb⟩
  go_wp2
  go_loopw [3] (SlRel f x t w) (fun i _ => 4 - (intOf i).toNat)
  case atStart => exact ⟨0, rfl, by omega, fun k hk => absurd hk (by omega), L, hb⟩
  case round =>
    clear L hb
    obtain ⟨k, rfl, hk, hsl, L, hb⟩ := hrel
    have hbs := hb.size
    have p0 := L.1
    have HS := Lib.hid hsl
    clear hsl
    by_cases hlt : k < 4
    · have j0 : decide ((k : Int) < 4) = true := by simp; omega
      have j1 : (k : Int) < 4 := by omega
      have c0 := live_axis L (k * 7) (by omega)
      have c1 := live_axis L (k * 7 + 1) (by omega)
      have c2 := live_axis L (k * 7 + 2) (by omega)
      have c3 := live_axis L (k * 7 + 3) (by omega)
      have c4 := live_axis L (k * 7 + 4) (by omega)
      have c5 := live_axis L (k * 7 + 5) (by omega)
      have c6 := live_axis L (k * 7 + 6) (by omega)
      by_cases a0 : f (k * 7 + 1) < 1
      · have b0 : decide (f (k * 7 + 1) < 1) = true := decide_eq_true a0
        go_wp2
        all_goals go_ret
        all_goals refine ⟨⟨_, rfl, fun h => by cases h⟩, ?_⟩
        all_goals (repeat' (first | with_reducible exact Below.refl _ _ | with_reducible refine Below.drew ?_ | with_reducible refine below_drewN ?_ _ | with_reducible refine Below.alloc ?_ ?_ _ | with_reducible refine Below.setCell ?_ ?_ _ | with_reducible refine Below.trans ?_ (Below.mono (by with_reducible assumption) ?_) | (simp; done) | (simp; omega) | omega))
      have b0 : decide (f (k * 7 + 1) < 1) = false := decide_eq_false a0
      by_cases a1 : 65536 < f (k * 7)
      · have b1 : decide (65536 < f (k * 7)) = true := decide_eq_true a1
        go_wp2
        all_goals go_ret
        all_goals refine ⟨⟨_, rfl, fun h => by cases h⟩, ?_⟩
        all_goals (repeat' (first | with_reducible exact Below.refl _ _ | with_reducible refine Below.drew ?_ | with_reducible refine below_drewN ?_ _ | with_reducible refine Below.alloc ?_ ?_ _ | with_reducible refine Below.setCell ?_ ?_ _ | with_reducible refine Below.trans ?_ (Below.mono (by with_reducible assumption) ?_) | (simp; done) | (simp; omega) | omega))
      have b1 : decide (65536 < f (k * 7)) = false := decide_eq_false a1
      by_cases a2 : RowKit.wrap64 (20 * f (k * 7 + 1)) < f (k * 7)
      · have b2 : decide (RowKit.wrap64 (20 * f (k * 7 + 1)) < f (k * 7)) = true := decide_eq_true a2
        go_wp2
        all_goals go_ret
        all_goals refine ⟨⟨_, rfl, fun h => by cases h⟩, ?_⟩
        all_goals (repeat' (first | with_reducible exact Below.refl _ _ | with_reducible refine Below.drew ?_ | with_reducible refine below_drewN ?_ _ | with_reducible refine Below.alloc ?_ ?_ _ | with_reducible refine Below.setCell ?_ ?_ _ | with_reducible refine Below.trans ?_ (Below.mono (by with_reducible assumption) ?_) | (simp; done) | (simp; omega) | omega))
      have b2 : decide (RowKit.wrap64 (20 * f (k * 7 + 1)) < f (k * 7)) = false := decide_eq_false a2
      go_wp2
      all_goals go_roundw
      case rel =>
        refine ⟨k + 1, by go_num, by omega, fun j hj => ?_, by (repeat (first | with_reducible assumption | ((with_reducible apply live_new) <;> (first | with_reducible rfl | (focus (simp; done)))) | with_reducible apply live_alloc | with_reducible apply live_drew | with_reducible apply live_drewN | ((with_reducible apply live_set_other); (case hb => first | omega | (simp; done))) | with_reducible apply live_set_same | (focus (simp; done)))), by (repeat' (first | with_reducible exact Below.refl _ _ | with_reducible refine Below.drew ?_ | with_reducible refine below_drewN ?_ _ | with_reducible refine Below.alloc ?_ ?_ _ | with_reducible refine Below.setCell ?_ ?_ _ | with_reducible refine Below.trans ?_ (Below.mono (by with_reducible assumption) ?_) | (simp; done) | (simp; omega) | omega))⟩
        by_cases e : j = k
        · subst e
          rw [show 7 * j = j * 7 by omega]
          omega
        · exact HS.out j (by omega)
      case measure => first | (simp [intOf]; done) | (simp [intOf]; omega)
    · obtain rfl : k = 4 := by omega
      go_wp2
      go_ret
      exact ⟨⟨_, rfl, fun _ hv => slow_of f t HS.out hv⟩, hb⟩
end Go.Proofs.Ytkiadcgdmeebmaa
