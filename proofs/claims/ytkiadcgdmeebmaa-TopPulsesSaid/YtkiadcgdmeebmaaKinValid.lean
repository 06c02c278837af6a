/- What Valid of kin returns, in the program and in the reference, for all machines -/
import Derived.Test.YtkiadcgdmeebmaaProg
import Derived.WalkKit
import Derived.WalkLawsBesides
import Derived.Handy
import Derived.Deep.DeepCutAuto
import Derived.LoopTactic
import Derived.Deep.MidRow
import Derived.Outline
import Derived.Lib.Hide
import Derived.Test.YtkiadcgdmeebmaaKit5
namespace Go.Proofs.Ytkiadcgdmeebmaa
open Go.RowKit
set_option linter.unusedVariables false

attribute [local go_sem] cell_past1 cell_past2 cell_past3 cell_past4 froz_past1 froz_past2 froz_past3

def axOk (a b c d e g h : Int) : Bool := decide (1 ≤ a ∧ a ≤ 65536 ∧ 1 ≤ b ∧ b ≤ a ∧ 1 ≤ c ∧ c ≤ 1048576 ∧ 1 ≤ d ∧ d ≤ 16777216 ∧ 1 ≤ e ∧ e ≤ 1048576 ∧ g ≤ h ∧ -1048576 ≤ g ∧ h ≤ 1048576)
def axAt (f : Nat → Int) (k : Nat) : Bool := axOk (f (7 * k)) (f (7 * k + 1)) (f (7 * k + 2)) (f (7 * k + 3)) (f (7 * k + 4)) (f (7 * k + 5)) (f (7 * k + 6))
def kinValid (f : Nat → Int) (t : Int) : Bool := axAt f 0 && (axAt f 1 && (axAt f 2 && (axAt f 3 && decide (1 ≤ t ∧ t ≤ 1048576))))

theorem ax_idx (f : Nat → Int) :
    (∀ w, (Instr.index 24 (.agg #[.int .i64 (f 0), .int .i64 (f 1), .int .i64 (f 2), .int .i64 (f 3), .int .i64 (f 4), .int .i64 (f 5), .int .i64 (f 6), .int .i64 (f 7), .int .i64 (f 8), .int .i64 (f 9), .int .i64 (f 10), .int .i64 (f 11), .int .i64 (f 12), .int .i64 (f 13), .int .i64 (f 14), .int .i64 (f 15), .int .i64 (f 16), .int .i64 (f 17), .int .i64 (f 18), .int .i64 (f 19), .int .i64 (f 20), .int .i64 (f 21), .int .i64 (f 22), .int .i64 (f 23), .int .i64 (f 24), .int .i64 (f 25), .int .i64 (f 26), .int .i64 (f 27)]) (.int .i64 0)).run Try.prog w = .ok (.agg #[.int .i64 (f 0), .int .i64 (f 1), .int .i64 (f 2), .int .i64 (f 3), .int .i64 (f 4), .int .i64 (f 5), .int .i64 (f 6)]) w) ∧
    (∀ w, (Instr.index 24 (.agg #[.int .i64 (f 0), .int .i64 (f 1), .int .i64 (f 2), .int .i64 (f 3), .int .i64 (f 4), .int .i64 (f 5), .int .i64 (f 6), .int .i64 (f 7), .int .i64 (f 8), .int .i64 (f 9), .int .i64 (f 10), .int .i64 (f 11), .int .i64 (f 12), .int .i64 (f 13), .int .i64 (f 14), .int .i64 (f 15), .int .i64 (f 16), .int .i64 (f 17), .int .i64 (f 18), .int .i64 (f 19), .int .i64 (f 20), .int .i64 (f 21), .int .i64 (f 22), .int .i64 (f 23), .int .i64 (f 24), .int .i64 (f 25), .int .i64 (f 26), .int .i64 (f 27)]) (.int .i64 1)).run Try.prog w = .ok (.agg #[.int .i64 (f 7), .int .i64 (f 8), .int .i64 (f 9), .int .i64 (f 10), .int .i64 (f 11), .int .i64 (f 12), .int .i64 (f 13)]) w) ∧
    (∀ w, (Instr.index 24 (.agg #[.int .i64 (f 0), .int .i64 (f 1), .int .i64 (f 2), .int .i64 (f 3), .int .i64 (f 4), .int .i64 (f 5), .int .i64 (f 6), .int .i64 (f 7), .int .i64 (f 8), .int .i64 (f 9), .int .i64 (f 10), .int .i64 (f 11), .int .i64 (f 12), .int .i64 (f 13), .int .i64 (f 14), .int .i64 (f 15), .int .i64 (f 16), .int .i64 (f 17), .int .i64 (f 18), .int .i64 (f 19), .int .i64 (f 20), .int .i64 (f 21), .int .i64 (f 22), .int .i64 (f 23), .int .i64 (f 24), .int .i64 (f 25), .int .i64 (f 26), .int .i64 (f 27)]) (.int .i64 2)).run Try.prog w = .ok (.agg #[.int .i64 (f 14), .int .i64 (f 15), .int .i64 (f 16), .int .i64 (f 17), .int .i64 (f 18), .int .i64 (f 19), .int .i64 (f 20)]) w) ∧
    (∀ w, (Instr.index 24 (.agg #[.int .i64 (f 0), .int .i64 (f 1), .int .i64 (f 2), .int .i64 (f 3), .int .i64 (f 4), .int .i64 (f 5), .int .i64 (f 6), .int .i64 (f 7), .int .i64 (f 8), .int .i64 (f 9), .int .i64 (f 10), .int .i64 (f 11), .int .i64 (f 12), .int .i64 (f 13), .int .i64 (f 14), .int .i64 (f 15), .int .i64 (f 16), .int .i64 (f 17), .int .i64 (f 18), .int .i64 (f 19), .int .i64 (f 20), .int .i64 (f 21), .int .i64 (f 22), .int .i64 (f 23), .int .i64 (f 24), .int .i64 (f 25), .int .i64 (f 26), .int .i64 (f 27)]) (.int .i64 3)).run Try.prog w = .ok (.agg #[.int .i64 (f 21), .int .i64 (f 22), .int .i64 (f 23), .int .i64 (f 24), .int .i64 (f 25), .int .i64 (f 26), .int .i64 (f 27)]) w) :=
  ⟨fun _ => by kernel_rfl, fun _ => by kernel_rfl, fun _ => by kernel_rfl, fun _ => by kernel_rfl⟩

def fromB (n m : Int) : Bool := decide (1 ≤ n ∧ n ≤ m)
def witB (n m : Int) : Bool := decide (-m ≤ n ∧ n ≤ m)

set_option maxRecDepth 100000 in
theorem kin_from (n m : Int) (w : World) : Calls Try.prog 51 #[.int .i64 n, .int .i64 m] w fun e w' => e = .returned (.bool (fromB n m)) ∧ w = w' := by
  go_enter Try.func51, Try.ntmps51
  go_wp2
  all_goals go_ret
  all_goals refine ⟨ret_bool ?_, rfl⟩
  all_goals (unfold fromB; rw [Bool.eq_iff_iff]; simp; omega)
set_option maxRecDepth 100000 in
theorem kin_within (n m : Int) (w : World) (h0 : 0 ≤ m) (h1 : m ≤ 1125899906842624) : Calls Try.prog 46 #[.int .i64 n, .int .i64 m] w fun e w' => e = .returned (.bool (witB n m)) ∧ w = w' := by
  go_enter Try.func46, Try.ntmps46
  go_wp2
  all_goals go_ret
  all_goals refine ⟨ret_bool ?_, rfl⟩
  all_goals (unfold witB; rw [Bool.eq_iff_iff]; simp; omega)
theorem kin_from_t (n m : Int) (w : World) (h : 1 ≤ n ∧ n ≤ m) : Calls Try.prog 51 #[.int .i64 n, .int .i64 m] w fun e w' => e = .returned (.bool true) ∧ w = w' := by
  have k := kin_from n m w
  rw [show fromB n m = true from by unfold fromB; simp; omega] at k
  exact k
theorem kin_within_t (n m : Int) (w : World) (h0 : 0 ≤ m) (h1 : m ≤ 1125899906842624) (h : -m ≤ n ∧ n ≤ m) : Calls Try.prog 46 #[.int .i64 n, .int .i64 m] w fun e w' => e = .returned (.bool true) ∧ w = w' := by
  have k := kin_within n m w h0 h1
  rw [show witB n m = true from by unfold witB; simp; omega] at k
  exact k
theorem ax_ok (f : Nat → Int) (k : Nat) (h : axAt f k = true) : 1 ≤ f (7 * k) ∧ f (7 * k) ≤ 65536 ∧ 1 ≤ f (7 * k + 1) ∧ f (7 * k + 1) ≤ f (7 * k) ∧ 1 ≤ f (7 * k + 2) ∧ f (7 * k + 2) ≤ 1048576 ∧ 1 ≤ f (7 * k + 3) ∧ f (7 * k + 3) ≤ 16777216 ∧ 1 ≤ f (7 * k + 4) ∧ f (7 * k + 4) ≤ 1048576 ∧ f (7 * k + 5) ≤ f (7 * k + 6) ∧ -1048576 ≤ f (7 * k + 5) ∧ f (7 * k + 6) ≤ 1048576 := by
  unfold axAt axOk at h
  simpa using h

theorem live_range {w : World} {b : Nat} {c : Array Value} (L : Live w b c) (o : Nat) (cs : List Value) (h : ∀ j v, cs[j]? = some v → c[o + j]? = some v) : w.rangeAt b o cs :=
  fun j v hv => (L.2.1 (o + j)).trans (h j v hv)
theorem mach_range (f : Nat → Int) (x : Bool) (t : Int) {w : World} {b : Nat} (L : Live w b #[.int .i64 (f 0), .int .i64 (f 1), .int .i64 (f 2), .int .i64 (f 3), .int .i64 (f 4), .int .i64 (f 5), .int .i64 (f 6), .int .i64 (f 7), .int .i64 (f 8), .int .i64 (f 9), .int .i64 (f 10), .int .i64 (f 11), .int .i64 (f 12), .int .i64 (f 13), .int .i64 (f 14), .int .i64 (f 15), .int .i64 (f 16), .int .i64 (f 17), .int .i64 (f 18), .int .i64 (f 19), .int .i64 (f 20), .int .i64 (f 21), .int .i64 (f 22), .int .i64 (f 23), .int .i64 (f 24), .int .i64 (f 25), .int .i64 (f 26), .int .i64 (f 27), .bool x, .int .i64 t]) : w.rangeAt b 0 [.int .i64 (f 0), .int .i64 (f 1), .int .i64 (f 2), .int .i64 (f 3), .int .i64 (f 4), .int .i64 (f 5), .int .i64 (f 6), .int .i64 (f 7), .int .i64 (f 8), .int .i64 (f 9), .int .i64 (f 10), .int .i64 (f 11), .int .i64 (f 12), .int .i64 (f 13), .int .i64 (f 14), .int .i64 (f 15), .int .i64 (f 16), .int .i64 (f 17), .int .i64 (f 18), .int .i64 (f 19), .int .i64 (f 20), .int .i64 (f 21), .int .i64 (f 22), .int .i64 (f 23), .int .i64 (f 24), .int .i64 (f 25), .int .i64 (f 26), .int .i64 (f 27)] := by
  refine live_range L 0 _ fun j v hv => ?_
  have hj : j < 28 := by
    have := (List.getElem?_eq_some_iff.1 hv).1
    simpa using this
  rw [Nat.zero_add, ← hv]
  show (#[.int .i64 (f 0), .int .i64 (f 1), .int .i64 (f 2), .int .i64 (f 3), .int .i64 (f 4), .int .i64 (f 5), .int .i64 (f 6), .int .i64 (f 7), .int .i64 (f 8), .int .i64 (f 9), .int .i64 (f 10), .int .i64 (f 11), .int .i64 (f 12), .int .i64 (f 13), .int .i64 (f 14), .int .i64 (f 15), .int .i64 (f 16), .int .i64 (f 17), .int .i64 (f 18), .int .i64 (f 19), .int .i64 (f 20), .int .i64 (f 21), .int .i64 (f 22), .int .i64 (f 23), .int .i64 (f 24), .int .i64 (f 25), .int .i64 (f 26), .int .i64 (f 27), .bool x, .int .i64 t] : Array Value)[j]? = ([.int .i64 (f 0), .int .i64 (f 1), .int .i64 (f 2), .int .i64 (f 3), .int .i64 (f 4), .int .i64 (f 5), .int .i64 (f 6), .int .i64 (f 7), .int .i64 (f 8), .int .i64 (f 9), .int .i64 (f 10), .int .i64 (f 11), .int .i64 (f 12), .int .i64 (f 13), .int .i64 (f 14), .int .i64 (f 15), .int .i64 (f 16), .int .i64 (f 17), .int .i64 (f 18), .int .i64 (f 19), .int .i64 (f 20), .int .i64 (f 21), .int .i64 (f 22), .int .i64 (f 23), .int .i64 (f 24), .int .i64 (f 25), .int .i64 (f 26), .int .i64 (f 27)] : List Value)[j]?
  rw [show (#[.int .i64 (f 0), .int .i64 (f 1), .int .i64 (f 2), .int .i64 (f 3), .int .i64 (f 4), .int .i64 (f 5), .int .i64 (f 6), .int .i64 (f 7), .int .i64 (f 8), .int .i64 (f 9), .int .i64 (f 10), .int .i64 (f 11), .int .i64 (f 12), .int .i64 (f 13), .int .i64 (f 14), .int .i64 (f 15), .int .i64 (f 16), .int .i64 (f 17), .int .i64 (f 18), .int .i64 (f 19), .int .i64 (f 20), .int .i64 (f 21), .int .i64 (f 22), .int .i64 (f 23), .int .i64 (f 24), .int .i64 (f 25), .int .i64 (f 26), .int .i64 (f 27), .bool x, .int .i64 t] : Array Value) = (([.int .i64 (f 0), .int .i64 (f 1), .int .i64 (f 2), .int .i64 (f 3), .int .i64 (f 4), .int .i64 (f 5), .int .i64 (f 6), .int .i64 (f 7), .int .i64 (f 8), .int .i64 (f 9), .int .i64 (f 10), .int .i64 (f 11), .int .i64 (f 12), .int .i64 (f 13), .int .i64 (f 14), .int .i64 (f 15), .int .i64 (f 16), .int .i64 (f 17), .int .i64 (f 18), .int .i64 (f 19), .int .i64 (f 20), .int .i64 (f 21), .int .i64 (f 22), .int .i64 (f 23), .int .i64 (f 24), .int .i64 (f 25), .int .i64 (f 26), .int .i64 (f 27)] : List Value) ++ ([.bool x, .int .i64 t] : List Value)).toArray from rfl]
  simp only [List.getElem?_toArray]
  rw [List.getElem?_append_left (by simpa using hj)]

def MRel (f : Nat → Int) (t : Int) (B : Nat) (w : World) (s7 : Value) (wr : World) : Prop :=
  ∃ k : Nat, s7 = .int .i64 k ∧ k ≤ 4 ∧ (∀ j, j < k → axAt f j = true) ∧ wr.cell? ⟨B, 29, none⟩ = some (.int .i64 t) ∧ B < wr.heap.size ∧ Below B w wr

set_option maxRecDepth 100000 in
set_option maxHeartbeats 8000000 in
theorem kin_valid (f : Nat → Int) (x : Bool) (t : Int) (w : World) :
    Calls Try.prog 45 #[.agg #[.int .i64 (f 0), .int .i64 (f 1), .int .i64 (f 2), .int .i64 (f 3), .int .i64 (f 4), .int .i64 (f 5), .int .i64 (f 6), .int .i64 (f 7), .int .i64 (f 8), .int .i64 (f 9), .int .i64 (f 10), .int .i64 (f 11), .int .i64 (f 12), .int .i64 (f 13), .int .i64 (f 14), .int .i64 (f 15), .int .i64 (f 16), .int .i64 (f 17), .int .i64 (f 18), .int .i64 (f 19), .int .i64 (f 20), .int .i64 (f 21), .int .i64 (f 22), .int .i64 (f 23), .int .i64 (f 24), .int .i64 (f 25), .int .i64 (f 26), .int .i64 (f 27), .bool x, .int .i64 t]] w fun e w' => e = .returned (.bool (kinValid f t)) ∧ Below w.heap.size w w' := by
  obtain ⟨i0, i1, i2, i3⟩ := ax_idx f
  go_enter Try.func45, Try.ntmps45
  go_upto_region 1 with (fail)
  refine gen_world (fun wx => wx.rangeAt w.heap.size 0 [.int .i64 (f 0), .int .i64 (f 1), .int .i64 (f 2), .int .i64 (f 3), .int .i64 (f 4), .int .i64 (f 5), .int .i64 (f 6), .int .i64 (f 7), .int .i64 (f 8), .int .i64 (f 9), .int .i64 (f 10), .int .i64 (f 11), .int .i64 (f 12), .int .i64 (f 13), .int .i64 (f 14), .int .i64 (f 15), .int .i64 (f 16), .int .i64 (f 17), .int .i64 (f 18), .int .i64 (f 19), .int .i64 (f 20), .int .i64 (f 21), .int .i64 (f 22), .int .i64 (f 23), .int .i64 (f 24), .int .i64 (f 25), .int .i64 (f 26), .int .i64 (f 27)] ∧ wx.cell? ⟨w.heap.size, 29, none⟩ = some (.int .i64 t) ∧ w.heap.size < wx.heap.size ∧ Below w.heap.size w wx) ?_ ?_
  · have L : Live (w.alloc (.cells #[.int .i64 (f 0), .int .i64 (f 1), .int .i64 (f 2), .int .i64 (f 3), .int .i64 (f 4), .int .i64 (f 5), .int .i64 (f 6), .int .i64 (f 7), .int .i64 (f 8), .int .i64 (f 9), .int .i64 (f 10), .int .i64 (f 11), .int .i64 (f 12), .int .i64 (f 13), .int .i64 (f 14), .int .i64 (f 15), .int .i64 (f 16), .int .i64 (f 17), .int .i64 (f 18), .int .i64 (f 19), .int .i64 (f 20), .int .i64 (f 21), .int .i64 (f 22), .int .i64 (f 23), .int .i64 (f 24), .int .i64 (f 25), .int .i64 (f 26), .int .i64 (f 27), .bool x, .int .i64 t] 26)) w.heap.size #[.int .i64 (f 0), .int .i64 (f 1), .int .i64 (f 2), .int .i64 (f 3), .int .i64 (f 4), .int .i64 (f 5), .int .i64 (f 6), .int .i64 (f 7), .int .i64 (f 8), .int .i64 (f 9), .int .i64 (f 10), .int .i64 (f 11), .int .i64 (f 12), .int .i64 (f 13), .int .i64 (f 14), .int .i64 (f 15), .int .i64 (f 16), .int .i64 (f 17), .int .i64 (f 18), .int .i64 (f 19), .int .i64 (f 20), .int .i64 (f 21), .int .i64 (f 22), .int .i64 (f 23), .int .i64 (f 24), .int .i64 (f 25), .int .i64 (f 26), .int .i64 (f 27), .bool x, .int .i64 t] := live_new _ _ rfl
    refine ⟨mach_range f x t L, L.2.1 29, L.1, ?_⟩
    (repeat' (first | with_reducible exact Below.refl _ _ | with_reducible refine Below.drew ?_ | with_reducible refine below_drewN ?_ _ | with_reducible refine Below.alloc ?_ ?_ _ | with_reducible refine Below.setCell ?_ ?_ _ | with_reducible refine Below.trans ?_ (Below.mono (by with_reducible assumption) ?_) | (simp; done) | (simp; omega) | omega))
  · rintro wx ⟨hr, ct, zt, hbt⟩
    go_wp2_with (refine wpList_load_mid rfl 24 _ rfl w.heap.size 0 rfl _ _ hr Try.underlying24 rfl (by kernel_rfl) ?_)
    clear hr
    go_loopw [7] (MRel f t w.heap.size w) (fun i _ => 4 - (intOf i).toNat)
    case atStart => exact ⟨0, rfl, by omega, fun j h => absurd h (by omega), ct, zt, hbt⟩
    case round =>
      obtain ⟨k, rfl, hk, hok, ct, zt, hbt⟩ := hrel
      have HOK := Lib.hid hok
      clear hok
      rcases (by omega : k = 0 ∨ k = 1 ∨ k = 2 ∨ k = 3 ∨ k = 4) with rfl | rfl | rfl | rfl | rfl
      · go_upto_region 4 with (fail)
        go_cut [58] (fun s58 wy => s58 = .bool (!axAt f 0) ∧ wy.cell? ⟨w.heap.size, 29, none⟩ = some (.int .i64 t) ∧ w.heap.size < wy.heap.size ∧ Below w.heap.size w wy)
        case first =>
          go_wp2_with (first | (go_at_call 51; refine (kin_from _ _ _).mono ?_; rintro e wf ⟨rfl, rfl⟩) | (go_at_call 46; refine (kin_within _ _ _ (by decide) (by decide)).mono ?_; rintro e wf ⟨rfl, rfl⟩))
          all_goals go_meet
          all_goals refine ⟨congrArg Value.bool ?_, ?_, ?_, ?_⟩
          all_goals first | (rw [cell_past1 _ _ _ _ zt]; exact ct) | (focus (simp; omega)) | (refine Below.trans hbt ?_; (repeat' (first | with_reducible exact Below.refl _ _ | with_reducible refine Below.drew ?_ | with_reducible refine below_drewN ?_ _ | with_reducible refine Below.alloc ?_ ?_ _ | with_reducible refine Below.setCell ?_ ?_ _ | with_reducible refine Below.trans ?_ (Below.mono (by with_reducible assumption) ?_) | (simp; done) | (simp; omega) | omega)); done) | (clear i0 i1 i2 i3 ct; unfold axAt axOk; simp only [fromB, witB] at *; rw [Bool.eq_iff_iff]; simp at *; omega)
        case rest =>
          obtain ⟨rfl, ct, zt, hbt⟩ := hcut
          cases hx : axAt f 0
          · have HK : Hid (kinValid f t = false) := by show _ = _; unfold kinValid; simp [hx]
            go_wp2_with fail
            go_ret
            exact ⟨ret_bool HK.out.symm, hbt⟩
          · have HX := Lib.hid hx
            go_wp2_with fail
            go_roundw
            case rel => exact ⟨1, by go_num, by omega, fun j hj => by rcases (by omega : j < 0 ∨ j = 0) with h | rfl; exact HOK.out j h; exact HX.out, ct, zt, hbt⟩
            case measure => first | (simp [intOf]; done) | (simp [intOf]; omega)
      · go_upto_region 4 with (fail)
        go_cut [58] (fun s58 wy => s58 = .bool (!axAt f 1) ∧ wy.cell? ⟨w.heap.size, 29, none⟩ = some (.int .i64 t) ∧ w.heap.size < wy.heap.size ∧ Below w.heap.size w wy)
        case first =>
          go_wp2_with (first | (go_at_call 51; refine (kin_from _ _ _).mono ?_; rintro e wf ⟨rfl, rfl⟩) | (go_at_call 46; refine (kin_within _ _ _ (by decide) (by decide)).mono ?_; rintro e wf ⟨rfl, rfl⟩))
          all_goals go_meet
          all_goals refine ⟨congrArg Value.bool ?_, ?_, ?_, ?_⟩
          all_goals first | (rw [cell_past1 _ _ _ _ zt]; exact ct) | (focus (simp; omega)) | (refine Below.trans hbt ?_; (repeat' (first | with_reducible exact Below.refl _ _ | with_reducible refine Below.drew ?_ | with_reducible refine below_drewN ?_ _ | with_reducible refine Below.alloc ?_ ?_ _ | with_reducible refine Below.setCell ?_ ?_ _ | with_reducible refine Below.trans ?_ (Below.mono (by with_reducible assumption) ?_) | (simp; done) | (simp; omega) | omega)); done) | (clear i0 i1 i2 i3 ct; unfold axAt axOk; simp only [fromB, witB] at *; rw [Bool.eq_iff_iff]; simp at *; omega)
        case rest =>
          obtain ⟨rfl, ct, zt, hbt⟩ := hcut
          cases hx : axAt f 1
          · have HK : Hid (kinValid f t = false) := by show _ = _; unfold kinValid; simp [hx]
            go_wp2_with fail
            go_ret
            exact ⟨ret_bool HK.out.symm, hbt⟩
          · have HX := Lib.hid hx
            go_wp2_with fail
            go_roundw
            case rel => exact ⟨2, by go_num, by omega, fun j hj => by rcases (by omega : j < 1 ∨ j = 1) with h | rfl; exact HOK.out j h; exact HX.out, ct, zt, hbt⟩
            case measure => first | (simp [intOf]; done) | (simp [intOf]; omega)
      · go_upto_region 4 with (fail)
        go_cut [58] (fun s58 wy => s58 = .bool (!axAt f 2) ∧ wy.cell? ⟨w.heap.size, 29, none⟩ = some (.int .i64 t) ∧ w.heap.size < wy.heap.size ∧ Below w.heap.size w wy)
        case first =>
          go_wp2_with (first | (go_at_call 51; refine (kin_from _ _ _).mono ?_; rintro e wf ⟨rfl, rfl⟩) | (go_at_call 46; refine (kin_within _ _ _ (by decide) (by decide)).mono ?_; rintro e wf ⟨rfl, rfl⟩))
          all_goals go_meet
          all_goals refine ⟨congrArg Value.bool ?_, ?_, ?_, ?_⟩
          all_goals first | (rw [cell_past1 _ _ _ _ zt]; exact ct) | (focus (simp; omega)) | (refine Below.trans hbt ?_; (repeat' (first | with_reducible exact Below.refl _ _ | with_reducible refine Below.drew ?_ | with_reducible refine below_drewN ?_ _ | with_reducible refine Below.alloc ?_ ?_ _ | with_reducible refine Below.setCell ?_ ?_ _ | with_reducible refine Below.trans ?_ (Below.mono (by with_reducible assumption) ?_) | (simp; done) | (simp; omega) | omega)); done) | (clear i0 i1 i2 i3 ct; unfold axAt axOk; simp only [fromB, witB] at *; rw [Bool.eq_iff_iff]; simp at *; omega)
        case rest =>
          obtain ⟨rfl, ct, zt, hbt⟩ := hcut
          cases hx : axAt f 2
          · have HK : Hid (kinValid f t = false) := by show _ = _; unfold kinValid; simp [hx]
            go_wp2_with fail
            go_ret
            exact ⟨ret_bool HK.out.symm, hbt⟩
          · have HX := Lib.hid hx
            go_wp2_with fail
            go_roundw
            case rel => exact ⟨3, by go_num, by omega, fun j hj => by rcases (by omega : j < 2 ∨ j = 2) with h | rfl; exact HOK.out j h; exact HX.out, ct, zt, hbt⟩
            case measure => first | (simp [intOf]; done) | (simp [intOf]; omega)
      · go_upto_region 4 with (fail)
        go_cut [58] (fun s58 wy => s58 = .bool (!axAt f 3) ∧ wy.cell? ⟨w.heap.size, 29, none⟩ = some (.int .i64 t) ∧ w.heap.size < wy.heap.size ∧ Below w.heap.size w wy)
        case first =>
          go_wp2_with (first | (go_at_call 51; refine (kin_from _ _ _).mono ?_; rintro e wf ⟨rfl, rfl⟩) | (go_at_call 46; refine (kin_within _ _ _ (by decide) (by decide)).mono ?_; rintro e wf ⟨rfl, rfl⟩))
          all_goals go_meet
          all_goals refine ⟨congrArg Value.bool ?_, ?_, ?_, ?_⟩
          all_goals first | (rw [cell_past1 _ _ _ _ zt]; exact ct) | (focus (simp; omega)) | (refine Below.trans hbt ?_; (repeat' (first | with_reducible exact Below.refl _ _ | with_reducible refine Below.drew ?_ | with_reducible refine below_drewN ?_ _ | with_reducible refine Below.alloc ?_ ?_ _ | with_reducible refine Below.setCell ?_ ?_ _ | with_reducible refine Below.trans ?_ (Below.mono (by with_reducible assumption) ?_) | (simp; done) | (simp; omega) | omega)); done) | (clear i0 i1 i2 i3 ct; unfold axAt axOk; simp only [fromB, witB] at *; rw [Bool.eq_iff_iff]; simp at *; omega)
        case rest =>
          obtain ⟨rfl, ct, zt, hbt⟩ := hcut
          cases hx : axAt f 3
          · have HK : Hid (kinValid f t = false) := by show _ = _; unfold kinValid; simp [hx]
            go_wp2_with fail
            go_ret
            exact ⟨ret_bool HK.out.symm, hbt⟩
          · have HX := Lib.hid hx
            go_wp2_with fail
            go_roundw
            case rel => exact ⟨4, by go_num, by omega, fun j hj => by rcases (by omega : j < 3 ∨ j = 3) with h | rfl; exact HOK.out j h; exact HX.out, ct, zt, hbt⟩
            case measure => first | (simp [intOf]; done) | (simp [intOf]; omega)
      · have HK : Hid (kinValid f t = fromB t 1048576) := by
          show _ = _
          unfold kinValid fromB
          rw [HOK.out 0 (by omega), HOK.out 1 (by omega), HOK.out 2 (by omega), HOK.out 3 (by omega)]; rfl
        go_wp2_with (first | (go_at_call 51; refine (kin_from _ _ _).mono ?_; rintro e wf ⟨rfl, rfl⟩) | (go_at_call 46; refine (kin_within _ _ _ (by decide) (by decide)).mono ?_; rintro e wf ⟨rfl, rfl⟩))
        go_ret
        exact ⟨ret_bool HK.out.symm, hbt⟩
end Go.Proofs.Ytkiadcgdmeebmaa
