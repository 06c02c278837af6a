/- What Square of ramp returns, in the program and in the reference, for all blocks and numbers -/
import Derived.Test.YtkiadcgdmeebmaaProg
import Derived.WalkKit
import Derived.WalkLawsBesides
import Derived.RegionTactic
import Derived.Lib.Hide
import Derived.Test.YtkiadcgdmeebmaaKit3
import Derived.Test.YtkiadcgdmeebmaaBlkValid
namespace Go.Proofs.Ytkiadcgdmeebmaa
open Go.RowKit
set_option linter.unusedVariables false

attribute [local go_sem] cell_past1 cell_past2 cell_past3 cell_past4 froz_past1 froz_past2 froz_past3

theorem run_min3 {P : Program} (ts : Array TypeId) (t : TypeId) (x y z : Int) (w : World) : (Builtin.min_ ts t #[.int .i64 x, .int .i64 y, .int .i64 z]).run P w = .ok (.int .i64 (min (min x y) z)) w := by
  rw [run_min_int3]; congr 2; repeat' split
  all_goals omega

def sqI (n ac en cr ex i : Int) : Int := min (min cr (en + 2 * ac * i)) (ex + 2 * ac * (n + 1 - i))
def sqV (n ac en cr ex i : Int) : Int := if i < 1 ∨ n < i then 0 else sqI n ac en cr ex i
/-- The number of steps of a block, 0 if it is not valid. -/
def blkN (a b c d ac en cr ex : Int) : Int := if blkValid a b c d ac en cr ex then ddaDom a b c d else 0

theorem blkN_in (a b c d ac en cr ex : Int) : 0 ≤ blkN a b c d ac en cr ex ∧ blkN a b c d ac en cr ex ≤ 16777216 := by
  unfold blkN; have := ddaDom_in a b c d; split <;> omega
theorem sq_mul (ac i : Int) (h0 : 0 ≤ ac) (h1 : ac ≤ 16777216) (i0 : 0 ≤ i) (i1 : i ≤ 16777216) : 0 ≤ 2 * ac * i ∧ 2 * ac * i ≤ 562949953421312 := by
  have k1 : 0 ≤ 2 * ac * i := Int.mul_nonneg (by omega) i0
  have k2 : 2 * ac * i ≤ 2 * 16777216 * i := Int.mul_le_mul_of_nonneg_right (by omega) i0
  omega


set_option maxRecDepth 100000 in
set_option maxHeartbeats 4000000 in
theorem ramp_at (a b c d ac en cr ex n i : Int) (B1 B2 : Nat) (w : World) (L1 : Live w B1 #[.int .i64 a, .int .i64 b, .int .i64 c, .int .i64 d, .int .i64 ac, .int .i64 en, .int .i64 cr, .int .i64 ex]) (L2 : Live w B2 #[.int .i64 n])
    (a0 : 1 ≤ ac) (a1 : ac ≤ 16777216) (c1 : cr ≤ 1099511627776) (e0' : 0 ≤ en) (e1' : en ≤ cr) (x0 : 0 ≤ ex) (x1 : ex ≤ cr) (n1 : n ≤ 16777216) (i0 : 1 ≤ i) (i1 : i ≤ n) :
    Calls Try.prog 39 #[.int .i64 i, .pointer (some ⟨B1, 0, none⟩), .pointer (some ⟨B2, 0, none⟩)] w fun e w' => e = .returned (.int .i64 (sqI n ac en cr ex i)) ∧ w = w' := by
  have HN : Hid (sqI n ac en cr ex i = min (min cr (en + 2 * ac * i)) (ex + 2 * ac * (n + 1 - i))) := Lib.hid rfl
  have m1 := sq_mul ac i (by omega) a1 (by omega) (by omega)
  have m2 := sq_mul ac (n + 1 - i) (by omega) a1 (by omega) (by omega)
  have hmn := @run_min3 Try.prog
  obtain ⟨p1, e1, f1⟩ := L1
  obtain ⟨p2, e2, f2⟩ := L2
  go_enter Try.func39, Try.ntmps39
  go_wp2
  go_ret
  exact ⟨ret_int (by rw [HN.out]; omega), rfl⟩

def SqRel (a b c d ac en cr ex n : Int) (w : World) (e : Ending) (w' : World) : Prop :=
  ∃ B1 B2 : Nat, e = .returned (.tuple #[.func (.func 39) #[] #[.pointer (some ⟨B1, 0, none⟩), .pointer (some ⟨B2, 0, none⟩)], .int .i64 n]) ∧ w.heap.size ≤ B1 ∧ w.heap.size ≤ B2 ∧
    Live w' B1 #[.int .i64 a, .int .i64 b, .int .i64 c, .int .i64 d, .int .i64 ac, .int .i64 en, .int .i64 cr, .int .i64 ex] ∧ Live w' B2 #[.int .i64 n] ∧ Below w.heap.size w w'

set_option maxRecDepth 100000 in
set_option maxHeartbeats 4000000 in
theorem ramp_squares (a b c d ac en cr ex : Int) (w : World) :
    Calls Try.prog 25 #[.agg #[.int .i64 a, .int .i64 b, .int .i64 c, .int .i64 d, .int .i64 ac, .int .i64 en, .int .i64 cr, .int .i64 ex]] w (SqRel a b c d ac en cr ex (ddaDom a b c d) w) := by
  have hmf : ∀ (fn : Fn) (first cap : Array Value) (w : World), (Instr.makeFunc fn first cap).run Try.prog w = .ok (.func fn first cap) w := fun _ _ _ _ => rfl
  generalize hD : ddaDom a b c d = n
  have HD := Lib.hid hD
  clear hD
  go_enter Try.func25, Try.ntmps25
  go_wp2_with (go_at_call 29; refine (dda_dom _ _ _ _ _).mono ?_; rw [HD.out]; rintro e w2 ⟨rfl, rfl⟩)
  go_region
  all_goals go_wp2
  all_goals go_ret2
  all_goals refine ⟨_, _, rfl, ?_, ?_, ?_, ?_, ?_⟩
  all_goals first | (focus ((repeat (first | with_reducible assumption | ((with_reducible apply live_new) <;> (first | with_reducible rfl | (focus (simp; done)))) | with_reducible apply live_alloc | with_reducible apply live_drew | with_reducible apply live_drewN | ((with_reducible apply live_set_other); (case hb => first | omega | (simp; done))) | with_reducible apply live_set_same | (focus (simp; done)))); done)) | (focus (simp; done)) | (focus (simp; omega)) | (repeat' (first | with_reducible exact Below.refl _ _ | with_reducible refine Below.drew ?_ | with_reducible refine below_drewN ?_ _ | with_reducible refine Below.alloc ?_ ?_ _ | with_reducible refine Below.setCell ?_ ?_ _ | with_reducible refine Below.trans ?_ (Below.mono (by with_reducible assumption) ?_) | (simp; done) | (simp; omega) | omega))

set_option maxRecDepth 100000 in
set_option maxHeartbeats 4000000 in
theorem ramp_square (a b c d ac en cr ex i : Int) (w : World) :
    Calls Try.prog 10 #[.agg #[.int .i64 a, .int .i64 b, .int .i64 c, .int .i64 d, .int .i64 ac, .int .i64 en, .int .i64 cr, .int .i64 ex], .int .i64 i] w fun e w' => e = .returned (.int .i64 (sqV (blkN a b c d ac en cr ex) ac en cr ex i)) ∧ Below w.heap.size w w' := by
  cases hv : blkValid a b c d ac en cr ex
  · have HN : Hid (sqV (blkN a b c d ac en cr ex) ac en cr ex i = 0) := by
      show _ = _
      unfold sqV blkN; simp [hv]; omega
    have HV := Lib.hid hv
    clear hv
    go_enter Try.func10, Try.ntmps10
    go_wp2_with (go_at_call 24; refine (ahead_valid _ _ _ _ _ _ _ _ _).mono ?_; rw [HV.out]; rintro e w1 ⟨rfl, hb1⟩; have z1 := hb1.size; (try simp at z1); have L1a := live_below hb1 (b := w.heap.size) (by (repeat (first | with_reducible assumption | ((with_reducible apply live_new) <;> (first | with_reducible rfl | (focus (simp; done)))) | with_reducible apply live_alloc | with_reducible apply live_drew | with_reducible apply live_drewN | ((with_reducible apply live_set_other); (case hb => first | omega | (simp; done))) | with_reducible apply live_set_same | (focus (simp; done))))); obtain ⟨p1a, e1a, f1a⟩ := id L1a)
    all_goals go_ret
    all_goals exact ⟨ret_int HN.out.symm, by (repeat' (first | with_reducible exact Below.refl _ _ | with_reducible refine Below.drew ?_ | with_reducible refine below_drewN ?_ _ | with_reducible refine Below.alloc ?_ ?_ _ | with_reducible refine Below.setCell ?_ ?_ _ | with_reducible refine Below.trans ?_ (Below.mono (by with_reducible assumption) ?_) | (simp; done) | (simp; omega) | omega))⟩
  · have hN : blkN a b c d ac en cr ex = ddaDom a b c d := by unfold blkN; rw [if_pos hv]
    have hn := ddaDom_in a b c d
    have hb := hv
    simp [blkValid, blkSound] at hb
    obtain ⟨⟨hdv, a0, a1, c0, c1⟩, e0', e1', x0, x1⟩ := hb
    clear hdv
    rw [hN]
    clear hN
    generalize hD : ddaDom a b c d = n at *
    have HD := Lib.hid hD
    have HV := Lib.hid hv
    clear hv hD
    by_cases h : i < 1 ∨ n < i
    · have HN : Hid (sqV n ac en cr ex i = 0) := by show _ = _; unfold sqV; rw [if_pos h]
      rcases h with h | h
      all_goals
        go_enter Try.func10, Try.ntmps10
        go_wp2_with (first | (go_at_call 24; refine (ahead_valid _ _ _ _ _ _ _ _ _).mono ?_; rw [HV.out]; rintro e w1 ⟨rfl, hb1⟩; have z1 := hb1.size; (try simp at z1); have L1a := live_below hb1 (b := w.heap.size) (by (repeat (first | with_reducible assumption | ((with_reducible apply live_new) <;> (first | with_reducible rfl | (focus (simp; done)))) | with_reducible apply live_alloc | with_reducible apply live_drew | with_reducible apply live_drewN | ((with_reducible apply live_set_other); (case hb => first | omega | (simp; done))) | with_reducible apply live_set_same | (focus (simp; done))))); obtain ⟨p1a, e1a, f1a⟩ := id L1a) | (go_at_call 25; refine (ramp_squares _ _ _ _ _ _ _ _ _).mono ?_; rw [HD.out]; rintro e w3 ⟨B1, B2, rfl, hB1, hB2, LA, LB, hb3⟩; have z3 := hb3.size; (try simp at z3)))
        all_goals go_ret
        all_goals exact ⟨ret_int HN.out.symm, by (repeat' (first | with_reducible exact Below.refl _ _ | with_reducible refine Below.drew ?_ | with_reducible refine below_drewN ?_ _ | with_reducible refine Below.alloc ?_ ?_ _ | with_reducible refine Below.setCell ?_ ?_ _ | with_reducible refine Below.trans ?_ (Below.mono (by with_reducible assumption) ?_) | (simp; done) | (simp; omega) | omega))⟩
    · have HN : Hid (sqV n ac en cr ex i = sqI n ac en cr ex i) := by show _ = _; unfold sqV; rw [if_neg h]
      have i0 : 1 ≤ i := by omega
      have i1 : i ≤ n := by omega
      clear h
      go_enter Try.func10, Try.ntmps10
      go_wp2_with (first | (go_at_call 24; refine (ahead_valid _ _ _ _ _ _ _ _ _).mono ?_; rw [HV.out]; rintro e w1 ⟨rfl, hb1⟩; have z1 := hb1.size; (try simp at z1); have L1a := live_below hb1 (b := w.heap.size) (by (repeat (first | with_reducible assumption | ((with_reducible apply live_new) <;> (first | with_reducible rfl | (focus (simp; done)))) | with_reducible apply live_alloc | with_reducible apply live_drew | with_reducible apply live_drewN | ((with_reducible apply live_set_other); (case hb => first | omega | (simp; done))) | with_reducible apply live_set_same | (focus (simp; done))))); obtain ⟨p1a, e1a, f1a⟩ := id L1a) | (go_at_call 25; refine (ramp_squares _ _ _ _ _ _ _ _ _).mono ?_; rw [HD.out]; rintro e w3 ⟨B1, B2, rfl, hB1, hB2, LA, LB, hb3⟩; have z3 := hb3.size; (try simp at z3)))
      refine (ramp_at a b c d ac en cr ex n i _ _ _ LA LB ?_ ?_ ?_ ?_ ?_ ?_ ?_ ?_ ?_ ?_).mono ?_
      iterate 10
        · omega
      rintro e w4 ⟨rfl, rfl⟩
      go_wp2
      go_ret
      exact ⟨ret_int HN.out.symm, by (repeat' (first | with_reducible exact Below.refl _ _ | with_reducible refine Below.drew ?_ | with_reducible refine below_drewN ?_ _ | with_reducible refine Below.alloc ?_ ?_ _ | with_reducible refine Below.setCell ?_ ?_ _ | with_reducible refine Below.trans ?_ (Below.mono (by with_reducible assumption) ?_) | (simp; done) | (simp; omega) | omega))⟩
end Go.Proofs.Ytkiadcgdmeebmaa
