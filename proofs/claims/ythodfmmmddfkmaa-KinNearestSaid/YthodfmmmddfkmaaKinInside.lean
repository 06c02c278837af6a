/- What Inside returns, in the program and in the reference, for all machines and positions -/
import Derived.Outline
import Derived.Handy
import Derived.Test.YthodfmmmddfkmaaKit6
import Derived.Test.YthodfmmmddfkmaaKinMach
namespace Go.Proofs.Ythodfmmmddfkmaa
open Go.RowKit
set_option linter.unusedVariables false

attribute [local go_sem] cell_past1 cell_past2 cell_past3 cell_past4 froz_past1 froz_past2 froz_past3

def insB (f : Nat → Int) (t a b c : Int) : Bool := decide (f 5 ≤ a ∧ a ≤ f 6 ∧ f 12 ≤ b ∧ b ≤ f 13 ∧ f 19 ≤ c ∧ c ≤ f 20) && kinValid f t
theorem three_idx (a b c : Int) :
    (∀ w, (Instr.index 56 (.agg #[.int .i64 a, .int .i64 b, .int .i64 c]) (.int .i64 0)).run Try.prog w = .ok (.int .i64 a) w) ∧
    (∀ w, (Instr.index 56 (.agg #[.int .i64 a, .int .i64 b, .int .i64 c]) (.int .i64 1)).run Try.prog w = .ok (.int .i64 b) w) ∧
    (∀ w, (Instr.index 56 (.agg #[.int .i64 a, .int .i64 b, .int .i64 c]) (.int .i64 2)).run Try.prog w = .ok (.int .i64 c) w) :=
  ⟨fun _ => by kernel_rfl, fun _ => by kernel_rfl, fun _ => by kernel_rfl⟩

set_option maxRecDepth 100000 in
set_option maxHeartbeats 4000000 in
theorem kin_inside (f : Nat → Int) (x : Bool) (t a b c : Int) (w : World) :
    Calls Try.prog 16 #[.agg (mach f x t), .agg #[.int .i64 a, .int .i64 b, .int .i64 c]] w fun e w' => e = .returned (.bool (insB f t a b c)) ∧ Below w.heap.size w w' := by
  obtain ⟨j0, j1, j2⟩ := three_idx a b c
  go_enter Try.func16, Try.ntmps16
  go_upto_region 1 with (fail)
  refine gen_world (fun wx => Live wx w.heap.size (mach f x t) ∧ Live wx (w.heap.size + 1) #[.int .i64 a, .int .i64 b, .int .i64 c] ∧ Below w.heap.size w wx) ?_ ?_
  · refine ⟨live_alloc (live_new _ _ rfl) _, live_new _ _ (by simp), ?_⟩
    (repeat' (first | with_reducible exact Below.refl _ _ | with_reducible refine Below.drew ?_ | with_reducible refine below_drewN ?_ _ | with_reducible refine Below.alloc ?_ ?_ _ | with_reducible refine Below.setCell ?_ ?_ _ | with_reducible refine Below.trans ?_ (Below.mono (by with_reducible assumption) ?_) | (simp; done) | (simp; omega) | omega))
  rintro wx ⟨L, L1, hb⟩
  obtain ⟨q0, q1, q2⟩ : wx.cell? ⟨w.heap.size + 1, 0, none⟩ = some (.int .i64 a) ∧ wx.cell? ⟨w.heap.size + 1, 1, none⟩ = some (.int .i64 b) ∧ wx.cell? ⟨w.heap.size + 1, 2, none⟩ = some (.int .i64 c) := ⟨L1.2.1 0, L1.2.1 1, L1.2.1 2⟩
  have c5 := L.2.1 5
  have c6 := L.2.1 6
  have c12 := L.2.1 12
  have c13 := L.2.1 13
  have c19 := L.2.1 19
  have c20 := L.2.1 20
  rw [mach_5] at c5
  rw [mach_6] at c6
  rw [mach_12] at c12
  rw [mach_13] at c13
  rw [mach_19] at c19
  rw [mach_20] at c20
  go_wp2_with fail
  refine wp_loop_rounds 4 ?_
  iterate 4
    all_goals (try (rw [rounds_succ]; go_wp2_with (first | (((with_reducible refine wpList_load_in (ty := 26) w.heap.size 0 (mach f x t) ?_ (live_rangeAll L) Try.underlying26 ?_ ?_ ?_); (· rfl); (· rfl); (· kernel_rfl))) | (go_at_call 14; refine (kin_valid_m _ _ _ _).mono ?_; rintro e w1 ⟨rfl, hb1⟩; have z1 := hb1.size; (try simp at z1)))))
  all_goals go_ret
  all_goals refine ⟨ret_bool ?_, ?_⟩
  all_goals first | exact hb | exact hb.trans (hb1.mono (by have := hb.size; omega)) | (clear j0 j1 j2; unfold insB; cases kinValid f t <;> simp <;> omega)

set_option maxRecDepth 100000 in
theorem ref41_in (a b c d e g h n : Int) (w : World) : Calls Try.prog 40 #[.agg #[.int .i64 a, .int .i64 b, .int .i64 c, .int .i64 d, .int .i64 e, .int .i64 g, .int .i64 h], .int .i64 n] w fun e w' => e = .returned (.bool (decide (g ≤ n ∧ n ≤ h))) ∧ Below w.heap.size w w' := by
  go_enter Try.func40, Try.ntmps40
  go_wp2
  all_goals go_ret
  all_goals refine ⟨ret_bool ?_, ?_⟩
  all_goals first | (repeat' (first | with_reducible exact Below.refl _ _ | with_reducible refine Below.drew ?_ | with_reducible refine below_drewN ?_ _ | with_reducible refine Below.alloc ?_ ?_ _ | with_reducible refine Below.setCell ?_ ?_ _ | with_reducible refine Below.trans ?_ (Below.mono (by with_reducible assumption) ?_) | (simp; done) | (simp; omega) | omega)) | skip
  all_goals (rw [Bool.eq_iff_iff]; simp; try omega)

def inB (g h n : Int) : Bool := decide (g ≤ n ∧ n ≤ h)
set_option maxRecDepth 100000 in
theorem ref41_inB (a b c d e g h n : Int) (w : World) : Calls Try.prog 40 #[.agg #[.int .i64 a, .int .i64 b, .int .i64 c, .int .i64 d, .int .i64 e, .int .i64 g, .int .i64 h], .int .i64 n] w fun e w' => e = .returned (.bool (inB g h n)) ∧ Below w.heap.size w w' := ref41_in a b c d e g h n w
theorem ins_in (f : Nat → Int) (t a b c : Int) : insB f t a b c = (kinValid f t && (inB (f 5) (f 6) a && (inB (f 12) (f 13) b && inB (f 19) (f 20) c))) := by
  unfold insB inB
  cases kinValid f t <;> rw [Bool.eq_iff_iff] <;> simp <;> omega
set_option maxRecDepth 100000 in
set_option maxHeartbeats 4000000 in
theorem ref41_inside (f : Nat → Int) (x : Bool) (t a b c : Int) (w : World) :
    Calls Try.prog 17 #[.agg (mach f x t), .agg #[.int .i64 a, .int .i64 b, .int .i64 c]] w fun e w' => e = .returned (.bool (insB f t a b c)) ∧ Below w.heap.size w w' := by
  rw [ins_in]
  generalize hz : kinValid f t = z
  generalize hz0 : inB (f 5) (f 6) a = z0
  generalize hz1 : inB (f 12) (f 13) b = z1
  generalize hz2 : inB (f 19) (f 20) c = z2
  have HZ := Lib.hid hz
  have HZ0 := Lib.hid hz0
  have HZ1 := Lib.hid hz1
  have HZ2 := Lib.hid hz2
  clear hz hz0 hz1 hz2
  go_enter Try.func17, Try.ntmps17
  go_upto_region 1 with (fail)
  refine gen_world (fun wx => Live wx w.heap.size (mach f x t) ∧ Live wx (w.heap.size + 1) #[.int .i64 a, .int .i64 b, .int .i64 c] ∧ Below w.heap.size w wx) ?_ ?_
  · refine ⟨live_alloc (live_new _ _ rfl) _, live_new _ _ (by simp), ?_⟩
    (repeat' (first | with_reducible exact Below.refl _ _ | with_reducible refine Below.drew ?_ | with_reducible refine below_drewN ?_ _ | with_reducible refine Below.alloc ?_ ?_ _ | with_reducible refine Below.setCell ?_ ?_ _ | with_reducible refine Below.trans ?_ (Below.mono (by with_reducible assumption) ?_) | (simp; done) | (simp; omega) | omega))
  rintro wx ⟨L, L1, hb⟩
  have p0 := L.1
  have p1 := L1.1
  cases z
  case' true => cases z0
  case' true.true => cases z1
  all_goals
    go_wp2_with (first | (((with_reducible refine wpList_load_in (ty := 26) w.heap.size 0 (mach f x t) ?_ (live_rangeAll L) Try.underlying26 ?_ ?_ ?_); (· rfl); (· rfl); (· kernel_rfl))) | (go_at_call 15; refine (ref41_valid_m _ _ _ _).mono ?_; rw [HZ.out]; rintro e w1 ⟨rfl, hb1⟩; have z1 := hb1.size; (try simp at z1); have L1a := live_below hb1 (b := w.heap.size) (by (repeat (first | with_reducible assumption | ((with_reducible apply live_new) <;> (first | with_reducible rfl | (focus (simp; done)))) | with_reducible apply live_alloc | with_reducible apply live_drew | with_reducible apply live_drewN | ((with_reducible apply live_set_other); (case hb => first | omega | (simp; done))) | with_reducible apply live_set_same | (focus (simp; done))))); obtain ⟨p1a, e1a, f1a⟩ := id L1a; have L1b := live_below hb1 (b := w.heap.size + 1) (by (repeat (first | with_reducible assumption | ((with_reducible apply live_new) <;> (first | with_reducible rfl | (focus (simp; done)))) | with_reducible apply live_alloc | with_reducible apply live_drew | with_reducible apply live_drewN | ((with_reducible apply live_set_other); (case hb => first | omega | (simp; done))) | with_reducible apply live_set_same | (focus (simp; done))))); obtain ⟨p1b, e1b, f1b⟩ := id L1b; clear e1a f1a; obtain ⟨r0, r1, r2, r3, r4, r5, r6⟩ := mach_ax0 f x t L1a) | (go_at_call 40; ((with_reducible refine (ref41_inB _ _ _ _ _ (f 5) (f 6) a _).mono ?_); rw [HZ0.out]; rintro e w2 ⟨rfl, hb2⟩; have z2 := hb2.size; (try simp at z2); have L2a := live_below hb2 (b := w.heap.size) (by (repeat (first | with_reducible assumption | ((with_reducible apply live_new) <;> (first | with_reducible rfl | (focus (simp; done)))) | with_reducible apply live_alloc | with_reducible apply live_drew | with_reducible apply live_drewN | ((with_reducible apply live_set_other); (case hb => first | omega | (simp; done))) | with_reducible apply live_set_same | (focus (simp; done))))); obtain ⟨p2a, e2a, f2a⟩ := id L2a; have L2b := live_below hb2 (b := w.heap.size + 1) (by (repeat (first | with_reducible assumption | ((with_reducible apply live_new) <;> (first | with_reducible rfl | (focus (simp; done)))) | with_reducible apply live_alloc | with_reducible apply live_drew | with_reducible apply live_drewN | ((with_reducible apply live_set_other); (case hb => first | omega | (simp; done))) | with_reducible apply live_set_same | (focus (simp; done))))); obtain ⟨p2b, e2b, f2b⟩ := id L2b; clear e2a f2a; obtain ⟨r0, r1, r2, r3, r4, r5, r6⟩ := mach_ax1 f x t L2a)) | (go_at_call 40; ((with_reducible refine (ref41_inB _ _ _ _ _ (f 12) (f 13) b _).mono ?_); rw [HZ1.out]; rintro e w3 ⟨rfl, hb3⟩; have z3 := hb3.size; (try simp at z3); have L3a := live_below hb3 (b := w.heap.size) (by (repeat (first | with_reducible assumption | ((with_reducible apply live_new) <;> (first | with_reducible rfl | (focus (simp; done)))) | with_reducible apply live_alloc | with_reducible apply live_drew | with_reducible apply live_drewN | ((with_reducible apply live_set_other); (case hb => first | omega | (simp; done))) | with_reducible apply live_set_same | (focus (simp; done))))); obtain ⟨p3a, e3a, f3a⟩ := id L3a; have L3b := live_below hb3 (b := w.heap.size + 1) (by (repeat (first | with_reducible assumption | ((with_reducible apply live_new) <;> (first | with_reducible rfl | (focus (simp; done)))) | with_reducible apply live_alloc | with_reducible apply live_drew | with_reducible apply live_drewN | ((with_reducible apply live_set_other); (case hb => first | omega | (simp; done))) | with_reducible apply live_set_same | (focus (simp; done))))); obtain ⟨p3b, e3b, f3b⟩ := id L3b; clear e3a f3a; obtain ⟨r0, r1, r2, r3, r4, r5, r6⟩ := mach_ax2 f x t L3a)) | (go_at_call 40; ((with_reducible refine (ref41_inB _ _ _ _ _ (f 19) (f 20) c _).mono ?_); rw [HZ2.out]; rintro e w4 ⟨rfl, hb4⟩; have z4 := hb4.size; (try simp at z4); have L4a := live_below hb4 (b := w.heap.size) (by (repeat (first | with_reducible assumption | ((with_reducible apply live_new) <;> (first | with_reducible rfl | (focus (simp; done)))) | with_reducible apply live_alloc | with_reducible apply live_drew | with_reducible apply live_drewN | ((with_reducible apply live_set_other); (case hb => first | omega | (simp; done))) | with_reducible apply live_set_same | (focus (simp; done))))); obtain ⟨p4a, e4a, f4a⟩ := id L4a; have L4b := live_below hb4 (b := w.heap.size + 1) (by (repeat (first | with_reducible assumption | ((with_reducible apply live_new) <;> (first | with_reducible rfl | (focus (simp; done)))) | with_reducible apply live_alloc | with_reducible apply live_drew | with_reducible apply live_drewN | ((with_reducible apply live_set_other); (case hb => first | omega | (simp; done))) | with_reducible apply live_set_same | (focus (simp; done))))); obtain ⟨p4b, e4b, f4b⟩ := id L4b; clear e4a f4a)))
    go_ret
    refine ⟨rfl, ?_⟩
    (repeat' (first | with_reducible exact Below.refl _ _ | with_reducible refine Below.drew ?_ | with_reducible refine below_drewN ?_ _ | with_reducible refine Below.alloc ?_ ?_ _ | with_reducible refine Below.setCell ?_ ?_ _ | with_reducible refine Below.trans ?_ (Below.mono (by with_reducible assumption) ?_) | (simp; done) | (simp; omega) | omega))
end Go.Proofs.Ythodfmmmddfkmaa
