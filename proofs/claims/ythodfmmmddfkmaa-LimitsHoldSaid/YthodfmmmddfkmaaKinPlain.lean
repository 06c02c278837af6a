/- What plain of the laws of chapter 41 returns: a machine whose axes all have the same steps per unit -/
import Derived.Outline
import Derived.Handy
import Derived.Test.YthodfmmmddfkmaaKit6
import Derived.Test.YthodfmmmddfkmaaKinMach
namespace Go.Proofs.Ythodfmmmddfkmaa
open Go.RowKit
set_option linter.unusedVariables false

attribute [local go_sem] cell_past1 cell_past2 cell_past3 cell_past4 froz_past1 froz_past2 froz_past3

/-- The cells of the machine behind so many rounds. -/
def plF (n d : Int) (k : Nat) (i : Nat) : Int := if i < 7 * k then (match i % 7 with | 0 => n | 1 => d | 2 => 100 | 3 => 1000 | 4 => 10 | 5 => -100 | _ => 1000) else 0
def zeroM : Array Value := mach (fun _ => 0) false 0
theorem ints7_one (a b c d e g h : Int) : (#[.int .i64 a, .int .i64 b, .int .i64 c, .int .i64 d, .int .i64 e, .int .i64 g, .int .i64 h] : Array Value).all (·.oneCell') = true := by simp [Value.oneCell']
theorem alloc_M (w : World) : (Instr.alloc 26 true (.tuple #[])).run Try.prog w = .ok (.pointer (some ⟨w.heap.size, 0, none⟩)) (w.alloc (.cells zeroM 26)) := by kernel_rfl

set_option maxRecDepth 100000 in
set_option maxHeartbeats 4000000 in
theorem law41_plain (n d : Int) (w : World) : Calls Try.prog 41 #[.int .i64 n, .int .i64 d] w fun e w' => e = .returned (.agg (mach (plF n d 4) false 1000)) ∧ Below w.heap.size w w' := by
  go_enter Try.func41, Try.ntmps41
  go_upto_region 1 with (with_reducible refine wpList_alloc_in (ty := 26) zeroM (alloc_M _) ?_)
  refine gen_world (fun wx => Live wx w.heap.size zeroM ∧ wx.heap.size = w.heap.size + 1 ∧ Below w.heap.size w wx) ?_ ?_
  · exact ⟨live_new _ _ rfl, by simp, by (repeat' (first | with_reducible exact Below.refl _ _ | with_reducible refine Below.drew ?_ | with_reducible refine below_drewN ?_ _ | with_reducible refine Below.alloc ?_ ?_ _ | with_reducible refine Below.setCell ?_ ?_ _ | with_reducible refine Below.trans ?_ (Below.mono (by with_reducible assumption) ?_) | (simp; done) | (simp; omega) | omega))⟩
  rintro w0 ⟨L0, z0, hb0⟩
  go_upto_region 2 with (first | ((with_reducible refine wpList_build_in (ty := 26) (mach (fun _ => 0) false 1000) ?_ ?_); (· kernel_rfl)) | ((with_reducible refine wpList_alloc_in (ty := 26) zeroM (alloc_M _) ?_); rw [z0]) | ((with_reducible refine wpList_store_in (ty := 26) (w.heap.size + 1) 0 (mach (fun _ => 0) false 1000) ?_ ?_ ?_ ?_ (mach_one _ _ _) ?_); (· rfl); (· rfl); (· exact live_there (c := zeroM) (live_new _ _ z0) 0 30 (by decide)); (· kernel_rfl)))
  refine gen_world (fun wx => Live wx w.heap.size zeroM ∧ Live wx (w.heap.size + 1) (mach (plF n d 0) false 1000) ∧ Below w.heap.size w wx) ?_ ?_
  · refine ⟨live_cells_other (live_alloc L0 _) _ _ (by omega), live_conv (live_whole (live_new _ _ z0) _ rfl) rfl, below_setCells (by omega) _ _ _ (hb0.alloc (by omega) _)⟩
  rintro wa ⟨La, Lb, hba⟩
  obtain ⟨B, hB⟩ : ∃ B, B = w.heap.size + 1 := ⟨_, rfl⟩
  have hB0 : w.heap.size < B := by omega
  rw [← hB] at Lb ⊢
  clear hB z0 hb0 L0

  go_wp2_with fail
  refine wp_loop_rounds 5 ?_
  rw [rounds_succ]
  go_upto_region 6 with ((with_reducible refine wpList_store_in (ty := 23) B 0 #[.int .i64 n, .int .i64 d, .int .i64 100, .int .i64 1000, .int .i64 10, .int .i64 (-100), .int .i64 1000] ?_ ?_ ?_ ?_ (ints7_one _ _ _ _ _ _ _) ?_); (· rfl); (· rfl); (· exact live_there Lb 0 7 (show 0 + 7 ≤ 30 by decide)); (· kernel_rfl))
  refine gen_world (fun wx => Live wx w.heap.size zeroM ∧ Live wx B (mach (plF n d 1) false 1000) ∧ Below w.heap.size w wx) ?_ ?_
  · refine ⟨live_cells_other La _ _ (by omega), live_conv (live_cells Lb 0 [.int .i64 n, .int .i64 d, .int .i64 100, .int .i64 1000, .int .i64 10, .int .i64 (-100), .int .i64 1000] (show 0 + 7 ≤ 30 by decide)) rfl, below_setCells (by omega) _ _ _ hba⟩
  clear La Lb hba
  rintro wa ⟨La, Lb, hba⟩

  go_wp2_with fail
  rw [rounds_succ]
  go_upto_region 6 with ((with_reducible refine wpList_store_in (ty := 23) B 7 #[.int .i64 n, .int .i64 d, .int .i64 100, .int .i64 1000, .int .i64 10, .int .i64 (-100), .int .i64 1000] ?_ ?_ ?_ ?_ (ints7_one _ _ _ _ _ _ _) ?_); (· rfl); (· rfl); (· exact live_there Lb 7 7 (show 7 + 7 ≤ 30 by decide)); (· kernel_rfl))
  refine gen_world (fun wx => Live wx w.heap.size zeroM ∧ Live wx B (mach (plF n d 2) false 1000) ∧ Below w.heap.size w wx) ?_ ?_
  · refine ⟨live_cells_other La _ _ (by omega), live_conv (live_cells Lb 7 [.int .i64 n, .int .i64 d, .int .i64 100, .int .i64 1000, .int .i64 10, .int .i64 (-100), .int .i64 1000] (show 7 + 7 ≤ 30 by decide)) rfl, below_setCells (by omega) _ _ _ hba⟩
  clear La Lb hba
  rintro wa ⟨La, Lb, hba⟩

  go_wp2_with fail
  rw [rounds_succ]
  go_upto_region 6 with ((with_reducible refine wpList_store_in (ty := 23) B 14 #[.int .i64 n, .int .i64 d, .int .i64 100, .int .i64 1000, .int .i64 10, .int .i64 (-100), .int .i64 1000] ?_ ?_ ?_ ?_ (ints7_one _ _ _ _ _ _ _) ?_); (· rfl); (· rfl); (· exact live_there Lb 14 7 (show 14 + 7 ≤ 30 by decide)); (· kernel_rfl))
  refine gen_world (fun wx => Live wx w.heap.size zeroM ∧ Live wx B (mach (plF n d 3) false 1000) ∧ Below w.heap.size w wx) ?_ ?_
  · refine ⟨live_cells_other La _ _ (by omega), live_conv (live_cells Lb 14 [.int .i64 n, .int .i64 d, .int .i64 100, .int .i64 1000, .int .i64 10, .int .i64 (-100), .int .i64 1000] (show 14 + 7 ≤ 30 by decide)) rfl, below_setCells (by omega) _ _ _ hba⟩
  clear La Lb hba
  rintro wa ⟨La, Lb, hba⟩

  go_wp2_with fail
  rw [rounds_succ]
  go_upto_region 6 with ((with_reducible refine wpList_store_in (ty := 23) B 21 #[.int .i64 n, .int .i64 d, .int .i64 100, .int .i64 1000, .int .i64 10, .int .i64 (-100), .int .i64 1000] ?_ ?_ ?_ ?_ (ints7_one _ _ _ _ _ _ _) ?_); (· rfl); (· rfl); (· exact live_there Lb 21 7 (show 21 + 7 ≤ 30 by decide)); (· kernel_rfl))
  refine gen_world (fun wx => Live wx w.heap.size zeroM ∧ Live wx B (mach (plF n d 4) false 1000) ∧ Below w.heap.size w wx) ?_ ?_
  · refine ⟨live_cells_other La _ _ (by omega), live_conv (live_cells Lb 21 [.int .i64 n, .int .i64 d, .int .i64 100, .int .i64 1000, .int .i64 10, .int .i64 (-100), .int .i64 1000] (show 21 + 7 ≤ 30 by decide)) rfl, below_setCells (by omega) _ _ _ hba⟩
  clear La Lb hba
  rintro wa ⟨La, Lb, hba⟩

  go_wp2_with fail
  rw [rounds_succ]

  go_wp2_with (first | ((with_reducible refine wpList_load_in (ty := 26) B 0 (mach (plF n d 4) false 1000) ?_ (live_rangeAll Lb) Try.underlying26 ?_ ?_ ?_); (· rfl); (· rfl); (· kernel_rfl)) | ((with_reducible refine wpList_store_in (ty := 26) w.heap.size 0 (mach (plF n d 4) false 1000) ?_ ?_ ?_ ?_ (mach_one _ _ _) ?_); (· rfl); (· rfl); (· exact live_there La 0 30 (by decide)); (· kernel_rfl); refine gen_world (fun wx => Live wx w.heap.size (mach (plF n d 4) false 1000) ∧ Below w.heap.size w wx) ⟨live_whole La _ rfl, below_setCells (Nat.le_refl _) _ _ _ hba⟩ ?_; clear La Lb hba; rintro wz ⟨Lz, hbz⟩))
  exact bodyPost_ret (v := .agg (mach (plF n d 4) false 1000)) (results_cell_mid rfl _ _ w.heap.size _ _ rfl Lz Try.underlying26 rfl (by kernel_rfl)) rfl ⟨rfl, hbz⟩
end Go.Proofs.Ythodfmmmddfkmaa
