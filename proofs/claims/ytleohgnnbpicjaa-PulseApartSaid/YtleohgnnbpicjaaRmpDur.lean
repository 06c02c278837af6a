/- What Duration of ramp returns, in the program and in the reference, for all blocks and numbers -/
import Derived.Test.YtleohgnnbpicjaaProg
import Derived.WalkKit
import Derived.WalkLawsBesides
import Derived.Lib.Hide
import Derived.Test.YtleohgnnbpicjaaKit3
import Derived.Test.YtleohgnnbpicjaaRmpInterval
namespace Go.Proofs.Ytleohgnnbpicjaa
open Go.RowKit
set_option linter.unusedVariables false

attribute [local go_sem] cell_past1 cell_past2 cell_past3 cell_past4 froz_past1 froz_past2 froz_past3

/-- The first k intervals of a block, added. -/
def durS (n ac en cr ex t : Int) : Nat → Int
  | 0 => 0
  | k + 1 => durS n ac en cr ex t k + ivl (sqI n ac en cr ex ((k : Int) + 1)) t

theorem ivl_in (s t : Int) (h0 : 1 ≤ s) (h1 : s ≤ 1099511627776) (t0 : 1 ≤ t) : 1 ≤ ivl s t ∧ ivl s t ≤ t := by
  obtain ⟨S, rfl⟩ := Int.eq_ofNat_of_zero_le (by omega : 0 ≤ s)
  have hp := isq_pos S (by omega) (by omega)
  unfold ivl
  rw [Int.toNat_natCast]
  generalize hv : (isq S : Int) = v
  have v0 : 1 ≤ v := by omega
  have e : v * ((t + v - 1) / v) + (t + v - 1) % v = t + v - 1 := Int.mul_ediv_add_emod _ _
  have r0 := Int.emod_nonneg (t + v - 1) (by omega : v ≠ 0)
  have r1 := Int.emod_lt_of_pos (t + v - 1) (by omega : 0 < v)
  generalize (t + v - 1) / v = q at *
  constructor
  · rcases (by omega : q ≤ 0 ∨ 1 ≤ q) with h | h
    · have : v * q ≤ v * 0 := Int.mul_le_mul_of_nonneg_left h (by omega)
      omega
    · exact h
  · rcases (by omega : t + 1 ≤ q ∨ q ≤ t) with h | h
    · have k1 : v * (t + 1) ≤ v * q := Int.mul_le_mul_of_nonneg_left h (by omega)
      have k2 : v * (t + 1) = v * t + v := by rw [Int.mul_add]; omega
      have k3 : 1 * t ≤ v * t := Int.mul_le_mul_of_nonneg_right v0 (by omega)
      omega
    · exact h

theorem sqI_in (n ac en cr ex i : Int) (a0 : 1 ≤ ac) (a1 : ac ≤ 16777216) (c0 : 1 ≤ cr) (c1 : cr ≤ 1099511627776) (e0' : 0 ≤ en) (x0 : 0 ≤ ex) (n1 : n ≤ 16777216) (i0 : 1 ≤ i) (i1 : i ≤ n) :
    1 ≤ sqI n ac en cr ex i ∧ sqI n ac en cr ex i ≤ cr := by
  have k1 : 2 * ac * 1 ≤ 2 * ac * i := Int.mul_le_mul_of_nonneg_left i0 (by omega)
  have k2 : 2 * ac * 1 ≤ 2 * ac * (n + 1 - i) := Int.mul_le_mul_of_nonneg_left (by omega) (by omega)
  unfold sqI
  omega

theorem durS_in (n ac en cr ex t : Int) (a0 : 1 ≤ ac) (a1 : ac ≤ 16777216) (c0 : 1 ≤ cr) (c1 : cr ≤ 1099511627776) (e0' : 0 ≤ en) (x0 : 0 ≤ ex) (n1 : n ≤ 16777216) (t0 : 1 ≤ t) (t1 : t ≤ 1048576) :
    ∀ k : Nat, (k : Int) ≤ n → 0 ≤ durS n ac en cr ex t k ∧ durS n ac en cr ex t k ≤ 1048576 * k := by
  intro k
  induction k with
  | zero => intro _; unfold durS; omega
  | succ k ih =>
    intro hk
    have h := ih (by omega)
    obtain ⟨s0, s1⟩ := sqI_in n ac en cr ex ((k : Int) + 1) a0 a1 c0 c1 e0' x0 n1 (by omega) (by omega)
    have hi := ivl_in (sqI n ac en cr ex ((k : Int) + 1)) t s0 (by omega) t0
    rw [durS]
    omega

def durN (b : Bool) (n ac en cr ex t : Int) : Int := if b ∧ 1 ≤ t ∧ t ≤ 1048576 ∧ n ≤ 65536 then durS n ac en cr ex t n.toNat else 0
def durE (b : Bool) (n t : Int) : Int := if b ∧ 1 ≤ t ∧ t ≤ 1048576 then (if n ≤ 65536 then 0 else 2) else 1

def DurRel (n ac en cr ex t : Int) (w : World) (s8 s29 : Value) (wr : World) : Prop :=
  ∃ k : Nat, s29 = .int .i64 k ∧ (k : Int) ≤ n ∧ s8 = .int .i64 (durS n ac en cr ex t k) ∧ w = wr

def Dur2Rel (n ac en cr ex t : Int) (B : Nat) (c : Array Value) (w : World) (s7 s8 : Value) (wr : World) : Prop :=
  ∃ k : Nat, s8 = .int .i64 ((k : Int) + 1) ∧ (k : Int) ≤ n ∧ s7 = .int .i64 (durS n ac en cr ex t k) ∧ Live wr B c ∧ Below B w wr

set_option maxRecDepth 100000 in
set_option maxHeartbeats 4000000 in
theorem ref45_duration (a b c d ac en cr ex t : Int) (w : World) :
    Calls Try.prog 27 #[.agg #[.int .i64 a, .int .i64 b, .int .i64 c, .int .i64 d, .int .i64 ac, .int .i64 en, .int .i64 cr, .int .i64 ex], .int .i64 t] w fun e w' =>
      e = .returned (.tuple #[.int .i64 (durN (blkValid a b c d ac en cr ex) (ddaDom a b c d) ac en cr ex t), .int .i64 (durE (blkValid a b c d ac en cr ex) (ddaDom a b c d) t)]) ∧ Below w.heap.size w w' := by
  cases hv : blkValid a b c d ac en cr ex
  · have HN : Hid (durN false (ddaDom a b c d) ac en cr ex t = 0 ∧ durE false (ddaDom a b c d) t = 1) := by show _ ∧ _; simp [durN, durE]
    have HV := Lib.hid hv
    clear hv
    go_enter Try.func27, Try.ntmps27
    go_wp2_with (go_at_call 16; refine (ref44_valid _ _ _ _ _ _ _ _ _).mono ?_; rw [HV.out]; rintro e w1 ⟨rfl, hb1⟩; have z1 := hb1.size; (try simp at z1); have L1a := live_below hb1 (b := w.heap.size) (by (repeat (first | with_reducible assumption | ((with_reducible apply live_new) <;> (first | with_reducible rfl | (focus (simp; done)))) | with_reducible apply live_alloc | with_reducible apply live_drew | with_reducible apply live_drewN | ((with_reducible apply live_set_other); (case hb => first | omega | (simp; done))) | with_reducible apply live_set_same | (focus (simp; done))))); obtain ⟨p1a, e1a, f1a⟩ := id L1a)
    all_goals go_ret2
    all_goals exact ⟨ret_int2 HN.out.1.symm HN.out.2.symm, by (repeat' (first | with_reducible exact Below.refl _ _ | with_reducible refine Below.drew ?_ | with_reducible refine below_drewN ?_ _ | with_reducible refine Below.alloc ?_ ?_ _ | with_reducible refine Below.setCell ?_ ?_ _ | with_reducible refine Below.trans ?_ (Below.mono (by with_reducible assumption) ?_) | (simp; done) | (simp; omega) | omega))⟩
  · have hn := ddaDom_in a b c d
    have hB : blkN a b c d ac en cr ex = ddaDom a b c d := by unfold blkN; rw [if_pos hv]
    have hb := hv
    simp [blkValid, blkSound] at hb
    obtain ⟨⟨hdv, a0, a1, c0, c1⟩, e0', e1', x0, x1⟩ := hb
    clear hdv
    generalize hD : ddaDom a b c d = n at *
    have HD := Lib.hid hD
    have HV := Lib.hid hv
    have HB := Lib.hid hB
    clear hv hD hB
    by_cases ht : 1 ≤ t ∧ t ≤ 1048576
    · obtain ⟨t0, t1⟩ := ht
      by_cases hl : n ≤ 65536
      · have HN : Hid (durN true n ac en cr ex t = durS n ac en cr ex t n.toNat ∧ durE true n t = 0) := by
          show _ ∧ _; unfold durN durE; rw [if_pos ⟨rfl, t0, t1, hl⟩, if_pos ⟨rfl, t0, t1⟩, if_pos hl]; exact ⟨rfl, rfl⟩
        go_enter Try.func27, Try.ntmps27
        go_wp2_with (first | (go_at_call 16; refine (ref44_valid _ _ _ _ _ _ _ _ _).mono ?_; rw [HV.out]; rintro e w1 ⟨rfl, hb1⟩; have z1 := hb1.size; (try simp at z1); have L1a := live_below hb1 (b := w.heap.size) (by (repeat (first | with_reducible assumption | ((with_reducible apply live_new) <;> (first | with_reducible rfl | (focus (simp; done)))) | with_reducible apply live_alloc | with_reducible apply live_drew | with_reducible apply live_drewN | ((with_reducible apply live_set_other); (case hb => first | omega | (simp; done))) | with_reducible apply live_set_same | (focus (simp; done))))); obtain ⟨p1a, e1a, f1a⟩ := id L1a) | (go_at_call 39; refine (ref42_dom _ _ _ _ _).mono ?_; rw [HD.out]; rintro e w2 ⟨rfl, rfl⟩))
        go_loopw [7, 8] (Dur2Rel n ac en cr ex t w.heap.size #[.int .i64 a, .int .i64 b, .int .i64 c, .int .i64 d, .int .i64 ac, .int .i64 en, .int .i64 cr, .int .i64 ex] w) (fun _ i _ => n.toNat + 1 - (intOf i).toNat)
        case atStart => exact ⟨0, rfl, by omega, rfl, by (repeat (first | with_reducible assumption | ((with_reducible apply live_new) <;> (first | with_reducible rfl | (focus (simp; done)))) | with_reducible apply live_alloc | with_reducible apply live_drew | with_reducible apply live_drewN | ((with_reducible apply live_set_other); (case hb => first | omega | (simp; done))) | with_reducible apply live_set_same | (focus (simp; done)))), by (repeat' (first | with_reducible exact Below.refl _ _ | with_reducible refine Below.drew ?_ | with_reducible refine below_drewN ?_ _ | with_reducible refine Below.alloc ?_ ?_ _ | with_reducible refine Below.setCell ?_ ?_ _ | with_reducible refine Below.trans ?_ (Below.mono (by with_reducible assumption) ?_) | (simp; done) | (simp; omega) | omega))⟩
        case round =>
          obtain ⟨k, rfl, hk, rfl, L0, hb0⟩ := hrel
          obtain ⟨p0, e0, f0⟩ := id L0
          have hd := durS_in n ac en cr ex t a0 a1 c0 c1 e0' x0 hn.2 t0 t1 k hk
          by_cases hlt : (k : Int) < n
          · obtain ⟨s0, s1⟩ := sqI_in n ac en cr ex ((k : Int) + 1) a0 a1 c0 c1 e0' x0 hn.2 (by omega) (by omega)
            have hi := ivl_in (sqI n ac en cr ex ((k : Int) + 1)) t s0 (by omega) t0
            have HS : Hid (durS n ac en cr ex t (k + 1) = durS n ac en cr ex t k + ivl (sqI n ac en cr ex ((k : Int) + 1)) t) := Lib.hid rfl
            have HQ : Hid (ivV (sqV (blkN a b c d ac en cr ex) ac en cr ex ((k : Int) + 1)) t = ivl (sqI n ac en cr ex ((k : Int) + 1)) t) := by
              show _ = _
              rw [HB.out]; unfold sqV ivV; rw [if_neg (by omega), if_neg (by omega)]
            generalize hU : durS n ac en cr ex t k = U at *
            generalize hI : ivl (sqI n ac en cr ex ((k : Int) + 1)) t = I at *
            clear hU hI
            go_wp2_with (go_at_call 38; refine (ref45_interval _ _ _ _ _ _ _ _ _ _ _).mono ?_; rw [HQ.out]; rintro e w3 ⟨rfl, hb3⟩; have z3 := hb3.size; (try simp at z3); have L3a := live_below hb3 (b := w.heap.size) (by (repeat (first | with_reducible assumption | ((with_reducible apply live_new) <;> (first | with_reducible rfl | (focus (simp; done)))) | with_reducible apply live_alloc | with_reducible apply live_drew | with_reducible apply live_drewN | ((with_reducible apply live_set_other); (case hb => first | omega | (simp; done))) | with_reducible apply live_set_same | (focus (simp; done))))); obtain ⟨p3a, e3a, f3a⟩ := id L3a)
            go_roundw
            case rel => exact ⟨k + 1, by go_num, by omega, by rw [HS.out], by (repeat (first | with_reducible assumption | ((with_reducible apply live_new) <;> (first | with_reducible rfl | (focus (simp; done)))) | with_reducible apply live_alloc | with_reducible apply live_drew | with_reducible apply live_drewN | ((with_reducible apply live_set_other); (case hb => first | omega | (simp; done))) | with_reducible apply live_set_same | (focus (simp; done)))), by refine Below.trans hb0 ?_; (repeat' (first | with_reducible exact Below.refl _ _ | with_reducible refine Below.drew ?_ | with_reducible refine below_drewN ?_ _ | with_reducible refine Below.alloc ?_ ?_ _ | with_reducible refine Below.setCell ?_ ?_ _ | with_reducible refine Below.trans ?_ (Below.mono (by with_reducible assumption) ?_) | (simp; done) | (simp; omega) | omega))⟩
            case measure => simp [intOf]; omega
          · have hkn : k = n.toNat := by omega
            subst hkn
            go_wp2
            go_ret2
            exact ⟨ret_int2 HN.out.1.symm HN.out.2.symm, hb0⟩
      · have HN : Hid (durN true n ac en cr ex t = 0 ∧ durE true n t = 2) := by
          show _ ∧ _; unfold durN durE; rw [if_neg (by omega), if_pos ⟨rfl, t0, t1⟩, if_neg hl]; exact ⟨rfl, rfl⟩
        go_enter Try.func27, Try.ntmps27
        go_wp2_with (first | (go_at_call 16; refine (ref44_valid _ _ _ _ _ _ _ _ _).mono ?_; rw [HV.out]; rintro e w1 ⟨rfl, hb1⟩; have z1 := hb1.size; (try simp at z1); have L1a := live_below hb1 (b := w.heap.size) (by (repeat (first | with_reducible assumption | ((with_reducible apply live_new) <;> (first | with_reducible rfl | (focus (simp; done)))) | with_reducible apply live_alloc | with_reducible apply live_drew | with_reducible apply live_drewN | ((with_reducible apply live_set_other); (case hb => first | omega | (simp; done))) | with_reducible apply live_set_same | (focus (simp; done))))); obtain ⟨p1a, e1a, f1a⟩ := id L1a) | (go_at_call 39; refine (ref42_dom _ _ _ _ _).mono ?_; rw [HD.out]; rintro e w2 ⟨rfl, rfl⟩))
        all_goals go_ret2
        all_goals exact ⟨ret_int2 HN.out.1.symm HN.out.2.symm, by (repeat' (first | with_reducible exact Below.refl _ _ | with_reducible refine Below.drew ?_ | with_reducible refine below_drewN ?_ _ | with_reducible refine Below.alloc ?_ ?_ _ | with_reducible refine Below.setCell ?_ ?_ _ | with_reducible refine Below.trans ?_ (Below.mono (by with_reducible assumption) ?_) | (simp; done) | (simp; omega) | omega))⟩
    · have HN : Hid (durN true n ac en cr ex t = 0 ∧ durE true n t = 1) := by
        show _ ∧ _; unfold durN durE; rw [if_neg (by omega), if_neg (by omega)]; exact ⟨rfl, rfl⟩
      rcases (by omega : t < 1 ∨ (1 ≤ t ∧ 1048576 < t)) with h | ⟨h1, h⟩
      all_goals
        go_enter Try.func27, Try.ntmps27
        go_wp2_with (go_at_call 16; refine (ref44_valid _ _ _ _ _ _ _ _ _).mono ?_; rw [HV.out]; rintro e w1 ⟨rfl, hb1⟩; have z1 := hb1.size; (try simp at z1); have L1a := live_below hb1 (b := w.heap.size) (by (repeat (first | with_reducible assumption | ((with_reducible apply live_new) <;> (first | with_reducible rfl | (focus (simp; done)))) | with_reducible apply live_alloc | with_reducible apply live_drew | with_reducible apply live_drewN | ((with_reducible apply live_set_other); (case hb => first | omega | (simp; done))) | with_reducible apply live_set_same | (focus (simp; done))))); obtain ⟨p1a, e1a, f1a⟩ := id L1a)
        all_goals go_ret2
        all_goals exact ⟨ret_int2 HN.out.1.symm HN.out.2.symm, by (repeat' (first | with_reducible exact Below.refl _ _ | with_reducible refine Below.drew ?_ | with_reducible refine below_drewN ?_ _ | with_reducible refine Below.alloc ?_ ?_ _ | with_reducible refine Below.setCell ?_ ?_ _ | with_reducible refine Below.trans ?_ (Below.mono (by with_reducible assumption) ?_) | (simp; done) | (simp; omega) | omega))⟩
end Go.Proofs.Ytleohgnnbpicjaa
