/- What reach and Feasible of ahead return, in the program and (reach) in the reference -/
import Derived.Deep.DeepCutAuto
import Derived.BigQuiet
import Derived.Deep.RegionHeld3
import Derived.Deep.RegionWith
import Derived.RegionTactic
import Derived.BigRegion
import Derived.Test.YtkiadcgdmeebmaaKit7
namespace Go.Proofs.Ytkiadcgdmeebmaa
open Go.RowKit
set_option linter.unusedVariables false

attribute [local go_sem] cell_past1 cell_past2 cell_past3 cell_past4 froz_past1 froz_past2 froz_past3

/-- By how much the square of the speed can change in block k. -/
def rch (g : Nat → Nat → Int) (k : Nat) : Int := 2 * g k 4 * ddaDom (g k 0) (g k 1) (g k 2) (g k 3)
def bsnd (g : Nat → Nat → Int) (k : Nat) : Bool := blkSound (g k 0) (g k 1) (g k 2) (g k 3) (g k 4) (g k 6)
def bval (g : Nat → Nat → Int) (k : Nat) : Bool := blkValid (g k 0) (g k 1) (g k 2) (g k 3) (g k 4) (g k 5) (g k 6) (g k 7)
theorem bsnd_in (g : Nat → Nat → Int) (k : Nat) (h : bsnd g k = true) : (1 ≤ g k 4 ∧ g k 4 ≤ 16777216) ∧ (1 ≤ g k 6 ∧ g k 6 ≤ 1099511627776) ∧ (1 ≤ ddaDom (g k 0) (g k 1) (g k 2) (g k 3) ∧ ddaDom (g k 0) (g k 1) (g k 2) (g k 3) ≤ 16777216) ∧ 2 ≤ rch g k ∧ rch g k ≤ 562949953421312 := by
  unfold bsnd blkSound at h
  rw [Bool.and_eq_true] at h
  have h2 := of_decide_eq_true h.2
  have d1 := ddaDom_pos _ _ _ _ h.1
  have d2 := ddaDom_in (g k 0) (g k 1) (g k 2) (g k 3)
  unfold rch
  generalize ddaDom (g k 0) (g k 1) (g k 2) (g k 3) = n at *
  generalize g k 4 = a at *
  have m1 : 1 * 1 ≤ a * n := Int.mul_le_mul h2.1 d1 (by omega) (by omega)
  have m2 : a * n ≤ 16777216 * 16777216 := Int.mul_le_mul h2.2.1 d2.2 (by omega) (by omega)
  rw [Int.mul_assoc]
  omega
theorem bval_in (g : Nat → Nat → Int) (k : Nat) (h : bval g k = true) : bsnd g k = true ∧ 0 ≤ g k 5 ∧ g k 5 ≤ g k 6 ∧ 0 ≤ g k 7 ∧ g k 7 ≤ g k 6 := by
  unfold bval blkValid at h
  rw [Bool.and_eq_true] at h
  exact ⟨h.1, of_decide_eq_true h.2⟩

set_option maxRecDepth 100000 in
set_option maxHeartbeats 4000000 in
theorem ahead_reach (g : Nat → Nat → Int) (k : Nat) (w : World) (h : bsnd g k = true) :
    Calls Try.prog 49 #[.agg (blkA g k)] w fun e w' => e = .returned (.int .i64 (rch g k)) ∧ Below w.heap.size w w' := by
  obtain ⟨h1, _, h2, h3, h4⟩ := bsnd_in g k h
  have KD := Lib.hid (fun w => dda_dom (g k 0) (g k 1) (g k 2) (g k 3) w)
  have HR : Hid (rch g k = 2 * g k 4 * ddaDom (g k 0) (g k 1) (g k 2) (g k 3)) := Lib.hid rfl
  unfold blkA
  generalize rch g k = R at *
  generalize ddaDom (g k 0) (g k 1) (g k 2) (g k 3) = n at *
  generalize g k 0 = a at *
  generalize g k 1 = b at *
  generalize g k 2 = c at *
  generalize g k 3 = d at *
  generalize g k 4 = ac at *
  generalize g k 5 = en at *
  generalize g k 6 = cr at *
  generalize g k 7 = ex at *
  have v1 : IntKind.i64.wrap (2 * ac) = 2 * ac := IntWalk.i64_in _ (by omega)
  have v2 : IntKind.i64.wrap (2 * ac * n) = 2 * ac * n := IntWalk.i64_in _ (by have := HR.out; omega)
  have w1 : RowKit.wrap64 (2 * ac) = 2 * ac := by unfold RowKit.wrap64; omega
  have w2 : RowKit.wrap64 (2 * ac * n) = 2 * ac * n := by have := HR.out; unfold RowKit.wrap64; omega
  clear h h1 h2 h3 h4
  go_enter Try.func49, Try.ntmps49
  go_upto_region 1 with (fail)
  refine gen_world (fun wx => Live wx w.heap.size #[.int .i64 a, .int .i64 b, .int .i64 c, .int .i64 d, .int .i64 ac, .int .i64 en, .int .i64 cr, .int .i64 ex] ∧ Below w.heap.size w wx) ?_ ?_
  · exact ⟨live_new _ _ (by simp), by (repeat' (first | with_reducible exact Below.refl _ _ | with_reducible refine Below.drew ?_ | with_reducible refine below_drewN ?_ _ | with_reducible refine Below.alloc ?_ ?_ _ | with_reducible refine Below.setCell ?_ ?_ _ | with_reducible refine Below.trans ?_ (Below.mono (by with_reducible assumption) ?_) | (simp; done) | (simp; omega) | omega))⟩
  rintro wx ⟨L, hb⟩
  have p0 := L.1
  have q0 := L.2.1 0
  have q1 := L.2.1 1
  have q2 := L.2.1 2
  have q3 := L.2.1 3
  have q4 := L.2.1 4
  simp at q0 q1 q2 q3 q4
  go_region_held3 (fun w' => w'.cell? ⟨w.heap.size, 0, none⟩ = some (.int .i64 a) ∧ w'.cell? ⟨w.heap.size, 1, none⟩ = some (.int .i64 b) ∧ w'.cell? ⟨w.heap.size, 2, none⟩ = some (.int .i64 c) ∧ w'.cell? ⟨w.heap.size, 3, none⟩ = some (.int .i64 d) ∧ w'.cell? ⟨w.heap.size, 4, none⟩ = some (.int .i64 ac)) (go_keep)
    ((go_at_call 29; (with_reducible refine (KD.out _).mono ?_); rintro e w1 ⟨rfl, rfl⟩))
  all_goals (try go_wp2_with fail)
  all_goals go_ret
  all_goals exact ⟨ret_int HR.out.symm, by (repeat' (first | with_reducible exact Below.refl _ _ | with_reducible refine Below.drew ?_ | with_reducible refine below_drewN ?_ _ | with_reducible refine Below.alloc ?_ ?_ _ | with_reducible refine Below.setCell ?_ ?_ _ | with_reducible refine Below.trans ?_ (Below.mono (by with_reducible assumption) ?_) | (simp; done) | (simp; omega) | omega))⟩
theorem ahead_reach_b (g : Nat → Nat → Int) (w : World) : True := trivial
theorem ahead_valid_g (g : Nat → Nat → Int) (k : Nat) (w : World) : Calls Try.prog 24 #[.agg (blkA g k)] w fun e w' => e = .returned (.bool (bval g k)) ∧ Below w.heap.size w w' := ahead_valid _ _ _ _ _ _ _ _ w
theorem ahead_sound_g (g : Nat → Nat → Int) (k : Nat) (w : World) : Calls Try.prog 37 #[.agg (blkA g k)] w fun e w' => e = .returned (.bool (bsnd g k)) ∧ Below w.heap.size w w' := ahead_sound _ _ _ _ _ _ _ _ w

def fst1 (g : Nat → Nat → Int) (z : Nat → Int) (en : Int) (k : Nat) : Bool :=
  bval g k && (decide (g k 7 - g k 5 ≤ rch g k) && (decide (g k 5 - g k 7 ≤ rch g k) && (if k = 0 then decide (g k 5 = en) else decide (g k 5 = g (k - 1) 7) && decide (g k 5 ≤ z k))))
def allTo (p : Nat → Bool) : Nat → Bool
  | 0 => true
  | k + 1 => allTo p k && p k
theorem allTo_iff (p : Nat → Bool) : ∀ n, allTo p n = true ↔ ∀ k, k < n → p k = true
  | 0 => by simp [allTo]
  | n + 1 => by
    rw [allTo, Bool.and_eq_true, allTo_iff p n]
    constructor
    · intro h k hk
      rcases Nat.lt_succ_iff_lt_or_eq.1 hk with h1 | rfl
      · exact h.1 k h1
      · exact h.2
    · intro h
      exact ⟨fun k hk => h k (by omega), h n (by omega)⟩
theorem allTo_false (p : Nat → Bool) {k n : Nat} (hk : k < n) (h : p k = false) : allTo p n = false := by
  rw [← Bool.not_eq_true]
  intro ha
  have := (allTo_iff p n).1 ha k hk
  rw [h] at this; cases this
def feasB (g : Nat → Nat → Int) (z : Nat → Int) (en : Int) (n m : Nat) : Bool := decide (n = m) && (allTo (fst1 g z en) n && (n == 0 || g (n - 1) 7 == 0))
end Go.Proofs.Ytkiadcgdmeebmaa
