/- PulseApart: the pulses of each step come exactly its interval after those of the step before, for blocks that take at most 3000 ticks -/
import Derived.Deep.RegionWith
import Derived.Deep.RegionHeld3
import Derived.Deep.DeepCutAuto
import Derived.Deep.DrawnRows
import Derived.Handy
import Derived.IntWalk
import Derived.Test.YtleohgnnbpicjaaBase
import Derived.Test.YtleohgnnbpicjaaKit5
import Derived.Test.YtleohgnnbpicjaaL46Works
import Derived.Test.YtleohgnnbpicjaaPulPlain
namespace Go.Proofs.Ytleohgnnbpicjaa.pulseApart
open Go.ChangeShapes Go.WideShapes Go.ChangeAt Go.RowKit
set_option linter.unusedVariables false

attribute [local go_sem] cell_past1 cell_past2 cell_past3 cell_past4 froz_past1 froz_past2 froz_past3
attribute [local go_sem ↓] Go.wp_at_zero Go.wp_at_succ

set_option maxRecDepth 100000 in
set_option maxHeartbeats 8000000 in
theorem bad (a b c d ac en cr ex t : Int) (w : World) (h : blkValid a b c d ac en cr ex = false ∨ possB t = false) :
    Calls Try.prog 13 #[.agg #[.int .i64 a, .int .i64 b, .int .i64 c, .int .i64 d, .int .i64 ac, .int .i64 en, .int .i64 cr, .int .i64 ex], .int .i64 t] w fun e w' => e = .returned (.bool true) ∧ Below w.heap.size w w' := by
  have HST := Lib.hid (fun w => pulse_start_bad a b c d ac en cr ex t w h)
  clear h
  have hm := @mot_eql
  go_enter Try.func13, Try.ntmps13
  go_wp2_with (first | (go_at_call 25; refine (HST.out _).mono ?_; rintro e w1 ⟨rfl, hb1⟩; have z1 := hb1.size; (try simp at z1); have L1a := live_below hb1 (b := w.heap.size) (by (repeat (first | with_reducible assumption | ((with_reducible apply live_new) <;> (first | with_reducible rfl | (focus (simp; done)))) | with_reducible apply live_alloc | with_reducible apply live_drew | with_reducible apply live_drewN | ((with_reducible apply live_set_other); (case hb => first | omega | (simp; done))) | with_reducible apply live_set_same | (focus (simp; done))))); obtain ⟨p1a, e1a, f1a⟩ := id L1a) | (go_at_call 26; refine (law46_works _).mono ?_; rintro e w9 ⟨rfl, hb9⟩; have z9 := hb9.size; (try simp at z9); have L9a := live_below hb9 (b := w.heap.size) (by (repeat (first | with_reducible assumption | ((with_reducible apply live_new) <;> (first | with_reducible rfl | (focus (simp; done)))) | with_reducible apply live_alloc | with_reducible apply live_drew | with_reducible apply live_drewN | ((with_reducible apply live_set_other); (case hb => first | omega | (simp; done))) | with_reducible apply live_set_same | (focus (simp; done))))); obtain ⟨p9a, e9a, f9a⟩ := id L9a))
  all_goals go_ret
  all_goals refine ⟨rfl, ?_⟩
  all_goals (repeat' (first | with_reducible exact Below.refl _ _ | with_reducible refine Below.drew ?_ | with_reducible refine below_drewN ?_ _ | with_reducible refine Below.alloc ?_ ?_ _ | with_reducible refine Below.setCell ?_ ?_ _ | with_reducible refine Below.trans ?_ (Below.mono (by with_reducible assumption) ?_) | (simp; done) | (simp; omega) | omega))

set_option maxRecDepth 100000 in
set_option maxHeartbeats 8000000 in
theorem long (a b c d ac en cr ex t : Int) (w : World) (hv : blkValid a b c d ac en cr ex = true) (hp : possB t = true) (h : durE (blkValid a b c d ac en cr ex) (ddaDom a b c d) t ≠ 0 ∨ 3000 < durN (blkValid a b c d ac en cr ex) (ddaDom a b c d) ac en cr ex t) :
    Calls Try.prog 13 #[.agg #[.int .i64 a, .int .i64 b, .int .i64 c, .int .i64 d, .int .i64 ac, .int .i64 en, .int .i64 cr, .int .i64 ex], .int .i64 t] w fun e w' => e = .returned (.bool true) ∧ Below w.heap.size w w' := by
  have HST := Lib.hid (fun w => pulse_start_ok a b c d ac en cr ex t w hv hp)
  generalize hu : durN (blkValid a b c d ac en cr ex) (ddaDom a b c d) ac en cr ex t = U at *
  generalize he : durE (blkValid a b c d ac en cr ex) (ddaDom a b c d) t = E at *
  have HU := Lib.hid hu
  have HE := Lib.hid he
  clear hu he hv hp
  rcases (by omega : E ≠ 0 ∨ (E = 0 ∧ 3000 < U)) with h1 | ⟨h1, h2⟩
  · have hb : (E != 0) = true := by simp [h1]
    have hb2 : (E == 0) = false := by simp [h1]
    clear h h1
    go_enter Try.func13, Try.ntmps13
    go_wp2_with (first | (go_at_call 25; refine (HST.out _).mono ?_; rintro e w1 ⟨rfl, hb1⟩; have z1 := hb1.size; (try simp at z1); have L1a := live_below hb1 (b := w.heap.size) (by (repeat (first | with_reducible assumption | ((with_reducible apply live_new) <;> (first | with_reducible rfl | (focus (simp; done)))) | with_reducible apply live_alloc | with_reducible apply live_drew | with_reducible apply live_drewN | ((with_reducible apply live_set_other); (case hb => first | omega | (simp; done))) | with_reducible apply live_set_same | (focus (simp; done))))); obtain ⟨p1a, e1a, f1a⟩ := id L1a) | (go_at_call 27; refine (ref45_duration _ _ _ _ _ _ _ _ _ _).mono ?_; rw [HU.out, HE.out]; rintro e w2 ⟨rfl, hb2⟩; have z2 := hb2.size; (try simp at z2); have L2a := live_below hb2 (b := w.heap.size) (by (repeat (first | with_reducible assumption | ((with_reducible apply live_new) <;> (first | with_reducible rfl | (focus (simp; done)))) | with_reducible apply live_alloc | with_reducible apply live_drew | with_reducible apply live_drewN | ((with_reducible apply live_set_other); (case hb => first | omega | (simp; done))) | with_reducible apply live_set_same | (focus (simp; done))))); obtain ⟨p2a, e2a, f2a⟩ := id L2a; have L2b := live_below hb2 (b := w1.heap.size) (by (repeat (first | with_reducible assumption | ((with_reducible apply live_new) <;> (first | with_reducible rfl | (focus (simp; done)))) | with_reducible apply live_alloc | with_reducible apply live_drew | with_reducible apply live_drewN | ((with_reducible apply live_set_other); (case hb => first | omega | (simp; done))) | with_reducible apply live_set_same | (focus (simp; done))))); obtain ⟨p2b, e2b, f2b⟩ := id L2b) | (go_at_call 26; refine (law46_works _).mono ?_; rintro e w9 ⟨rfl, hb9⟩; have z9 := hb9.size; (try simp at z9); have L9a := live_below hb9 (b := w.heap.size) (by (repeat (first | with_reducible assumption | ((with_reducible apply live_new) <;> (first | with_reducible rfl | (focus (simp; done)))) | with_reducible apply live_alloc | with_reducible apply live_drew | with_reducible apply live_drewN | ((with_reducible apply live_set_other); (case hb => first | omega | (simp; done))) | with_reducible apply live_set_same | (focus (simp; done))))); obtain ⟨p9a, e9a, f9a⟩ := id L9a))
    all_goals go_ret
    all_goals refine ⟨rfl, ?_⟩
    all_goals (repeat' (first | with_reducible exact Below.refl _ _ | with_reducible refine Below.drew ?_ | with_reducible refine below_drewN ?_ _ | with_reducible refine Below.alloc ?_ ?_ _ | with_reducible refine Below.setCell ?_ ?_ _ | with_reducible refine Below.trans ?_ (Below.mono (by with_reducible assumption) ?_) | (simp; done) | (simp; omega) | omega))
  · subst h1
    clear h
    go_enter Try.func13, Try.ntmps13
    go_wp2_with (first | (go_at_call 25; refine (HST.out _).mono ?_; rintro e w1 ⟨rfl, hb1⟩; have z1 := hb1.size; (try simp at z1); have L1a := live_below hb1 (b := w.heap.size) (by (repeat (first | with_reducible assumption | ((with_reducible apply live_new) <;> (first | with_reducible rfl | (focus (simp; done)))) | with_reducible apply live_alloc | with_reducible apply live_drew | with_reducible apply live_drewN | ((with_reducible apply live_set_other); (case hb => first | omega | (simp; done))) | with_reducible apply live_set_same | (focus (simp; done))))); obtain ⟨p1a, e1a, f1a⟩ := id L1a) | (go_at_call 27; refine (ref45_duration _ _ _ _ _ _ _ _ _ _).mono ?_; rw [HU.out, HE.out]; rintro e w2 ⟨rfl, hb2⟩; have z2 := hb2.size; (try simp at z2); have L2a := live_below hb2 (b := w.heap.size) (by (repeat (first | with_reducible assumption | ((with_reducible apply live_new) <;> (first | with_reducible rfl | (focus (simp; done)))) | with_reducible apply live_alloc | with_reducible apply live_drew | with_reducible apply live_drewN | ((with_reducible apply live_set_other); (case hb => first | omega | (simp; done))) | with_reducible apply live_set_same | (focus (simp; done))))); obtain ⟨p2a, e2a, f2a⟩ := id L2a; have L2b := live_below hb2 (b := w1.heap.size) (by (repeat (first | with_reducible assumption | ((with_reducible apply live_new) <;> (first | with_reducible rfl | (focus (simp; done)))) | with_reducible apply live_alloc | with_reducible apply live_drew | with_reducible apply live_drewN | ((with_reducible apply live_set_other); (case hb => first | omega | (simp; done))) | with_reducible apply live_set_same | (focus (simp; done))))); obtain ⟨p2b, e2b, f2b⟩ := id L2b) | (go_at_call 26; refine (law46_works _).mono ?_; rintro e w9 ⟨rfl, hb9⟩; have z9 := hb9.size; (try simp at z9); have L9a := live_below hb9 (b := w.heap.size) (by (repeat (first | with_reducible assumption | ((with_reducible apply live_new) <;> (first | with_reducible rfl | (focus (simp; done)))) | with_reducible apply live_alloc | with_reducible apply live_drew | with_reducible apply live_drewN | ((with_reducible apply live_set_other); (case hb => first | omega | (simp; done))) | with_reducible apply live_set_same | (focus (simp; done))))); obtain ⟨p9a, e9a, f9a⟩ := id L9a))
    all_goals go_ret
    all_goals refine ⟨rfl, ?_⟩
    all_goals (repeat' (first | with_reducible exact Below.refl _ _ | with_reducible refine Below.drew ?_ | with_reducible refine below_drewN ?_ _ | with_reducible refine Below.alloc ?_ ?_ _ | with_reducible refine Below.setCell ?_ ?_ _ | with_reducible refine Below.trans ?_ (Below.mono (by with_reducible assumption) ?_) | (simp; done) | (simp; omega) | omega))

theorem pu_top (n i x : Int) (hn : 1 ≤ n) (h0 : 0 ≤ i) (h1 : i < n) (hx : ab x = n) : puM n (i + 1) x ≠ 0 := by
  have e1 : (2 * i * ab x + n) / (2 * n) = i := by
    rw [hx, show 2 * i * n + n = n + i * (2 * n) from by rw [Int.mul_comm i, Int.mul_assoc, Int.mul_comm i n, ← Int.mul_assoc]; omega, Int.add_mul_ediv_right _ _ (by omega), Int.ediv_eq_zero_of_lt (by omega) (by omega)]; omega
  have e2 : (2 * (i + 1) * ab x + n) / (2 * n) = i + 1 := by
    rw [hx, show 2 * (i + 1) * n + n = n + (i + 1) * (2 * n) from by rw [Int.mul_comm (i + 1), Int.mul_assoc, Int.mul_comm (i + 1) n, ← Int.mul_assoc]; omega, Int.add_mul_ediv_right _ _ (by omega), Int.ediv_eq_zero_of_lt (by omega) (by omega)]; omega
  have c0 : atClamp n (i + 1) = i + 1 := by unfold atClamp; omega
  have c1 : atClamp n i = i := by unfold atClamp; omega
  unfold puM
  rw [if_neg (by omega), show i + 1 - 1 = i from by omega]
  unfold atM
  rw [if_neg (by omega), if_neg (by omega), c0, c1]
  unfold atI
  rw [e1, e2]
  split <;> omega
theorem some_top (a b c d : Int) (h : ddaValid a b c d = true) : ab a = ddaDom a b c d ∨ ab b = ddaDom a b c d ∨ ab c = ddaDom a b c d ∨ ab d = ddaDom a b c d := by
  have hp := ddaDom_pos a b c d h
  unfold ddaDom at *; rw [if_pos h] at *; unfold dom4 at *; omega

def Rel (n a b c d ac en cr ex t N : Int) (B M : Nat) (w : World) (s9 s10 s11 : Value) (wr : World) : Prop :=
  ∃ k dn wt si : Int, s11 = .int .i64 k ∧ s9 = .int .i64 dn ∧ s10 = .int .i64 si ∧ 0 ≤ k ∧ k ≤ N ∧ MInv n ac en cr ex t k dn wt ∧ (dn < n → si + wt = plW n ac en cr ex (dn + 1) t) ∧ 0 ≤ si ∧ si ≤ 1048576 ∧ Live wr B #[.int .i64 a, .int .i64 b, .int .i64 c, .int .i64 d, .int .i64 ac, .int .i64 en, .int .i64 cr, .int .i64 ex] ∧ Live wr M #[.int .i64 a, .int .i64 b, .int .i64 c, .int .i64 d, .int .i64 ac, .int .i64 en, .int .i64 cr, .int .i64 ex, .int .i64 dn, .int .i64 wt] ∧ Below w.heap.size w wr

set_option maxRecDepth 100000 in
set_option maxHeartbeats 8000000 in
theorem many (a b c d ac en cr ex t n N : Int) (w : World) (hv : blkValid a b c d ac en cr ex = true) (hN : blkN a b c d ac en cr ex = n) (hD : ddaDom a b c d = n) (n0 : 1 ≤ n) (n1 : n ≤ 16777216) (t0 : 1 ≤ t) (t1 : t ≤ 1048576) (a0 : 1 ≤ ac) (a1 : ac ≤ 16777216) (c0 : 1 ≤ cr) (c1 : cr ≤ 1099511627776) (e0' : 0 ≤ en) (x0 : 0 ≤ ex)
    (htop : ab a = n ∨ ab b = n ∨ ab c = n ∨ ab d = n) (hT : tEnd n ac en cr ex t n = N) (N0 : 0 ≤ N) (N1 : N ≤ 3000) (hU : durN (blkValid a b c d ac en cr ex) (ddaDom a b c d) ac en cr ex t = N) (hE : durE (blkValid a b c d ac en cr ex) (ddaDom a b c d) t = 0) :
    Calls Try.prog 13 #[.agg #[.int .i64 a, .int .i64 b, .int .i64 c, .int .i64 d, .int .i64 ac, .int .i64 en, .int .i64 cr, .int .i64 ex], .int .i64 t] w fun e w' => e = .returned (.bool true) ∧ Below w.heap.size w w' := by
  have hp : possB t = true := by unfold possB; simp; omega
  have hw1 := (plW_ivl n ac en cr ex t 1 t0 t1 (by omega) (by omega) a0 a1 c0 c1 e0' x0 n1).2
  have hst := fun w => pulse_start_ok a b c d ac en cr ex t w hv hp
  rw [hN] at hst
  have hi0 := minv_start n ac en cr ex t n0 t0 t1 a0 a1 c0 c1 e0' x0 n1
  have hsi : 0 < n → 0 + plW n ac en cr ex 1 t = plW n ac en cr ex (0 + 1) t := fun _ => by rw [Int.zero_add]; rfl
  have HV := Lib.hid hv
  have HQ := Lib.hid hp
  generalize hW : plW n ac en cr ex 1 t = W1 at *
  have HST := Lib.hid hst
  have HU := Lib.hid hU
  have HE := Lib.hid hE
  have HN := Lib.hid hN
  have HP := Lib.hid hD
  have HI := Lib.hid hi0
  have HSI := Lib.hid hsi
  have HT := Lib.hid hT
  have HTOP := Lib.hid htop
  have hq : ∀ (x y z u : Int) (w : World), (binOp .neq 22 (.agg #[.int .i64 x, .int .i64 y, .int .i64 z, .int .i64 u]) (.agg #[.int .i64 x, .int .i64 y, .int .i64 z, .int .i64 u])).run Try.prog w = .ok (.bool false) w := fun x y z u w => by
    rw [arr_neq]; simp [same4]
  have hq2 : ∀ (w : World), (binOp .eql 22 (.agg #[.int .i64 0, .int .i64 0, .int .i64 0, .int .i64 0]) (.agg #[.int .i64 0, .int .i64 0, .int .i64 0, .int .i64 0])).run Try.prog w = .ok (.bool true) w := fun w => by
    rw [arr_eql]; simp [same4]
  clear hst hU hE hN hD hi0 hT htop hv hp hW hsi
  go_enter Try.func13, Try.ntmps13
  go_wp2_with (first | (go_at_call 25; refine (HST.out _).mono ?_; rintro e w1 ⟨rfl, hb1⟩; have z1 := hb1.size; (try simp at z1); have L1a := live_below hb1 (b := w.heap.size) (by (repeat (first | with_reducible assumption | ((with_reducible apply live_new) <;> (first | with_reducible rfl | (focus (simp; done)))) | with_reducible apply live_alloc | with_reducible apply live_drew | with_reducible apply live_drewN | ((with_reducible apply live_set_other); (case hb => first | omega | (simp; done))) | with_reducible apply live_set_same | (focus (simp; done))))); obtain ⟨p1a, e1a, f1a⟩ := id L1a) | (go_at_call 27; refine (ref45_duration _ _ _ _ _ _ _ _ _ _).mono ?_; rw [HU.out, HE.out]; rintro e w2 ⟨rfl, hb2⟩; have z2 := hb2.size; (try simp at z2); have L2a := live_below hb2 (b := w.heap.size) (by (repeat (first | with_reducible assumption | ((with_reducible apply live_new) <;> (first | with_reducible rfl | (focus (simp; done)))) | with_reducible apply live_alloc | with_reducible apply live_drew | with_reducible apply live_drewN | ((with_reducible apply live_set_other); (case hb => first | omega | (simp; done))) | with_reducible apply live_set_same | (focus (simp; done))))); obtain ⟨p2a, e2a, f2a⟩ := id L2a; have L2b := live_below hb2 (b := w1.heap.size) (by (repeat (first | with_reducible assumption | ((with_reducible apply live_new) <;> (first | with_reducible rfl | (focus (simp; done)))) | with_reducible apply live_alloc | with_reducible apply live_drew | with_reducible apply live_drewN | ((with_reducible apply live_set_other); (case hb => first | omega | (simp; done))) | with_reducible apply live_set_same | (focus (simp; done))))); obtain ⟨p2b, e2b, f2b⟩ := id L2b))
  go_loopw [9, 10, 11] (Rel n a b c d ac en cr ex t N w.heap.size w1.heap.size w) (fun _ _ i _ => (N - intOf i).toNat)
  case atStart => exact ⟨0, 0, W1, 0, rfl, rfl, rfl, by omega, N0, HI.out, HSI.out, by omega, by omega, by (repeat (first | with_reducible assumption | ((with_reducible apply live_new) <;> (first | with_reducible rfl | (focus (simp; done)))) | with_reducible apply live_alloc | with_reducible apply live_drew | with_reducible apply live_drewN | ((with_reducible apply live_set_other); (case hb => first | omega | (simp; done))) | with_reducible apply live_set_same | (focus (simp; done)))), by (repeat (first | with_reducible assumption | ((with_reducible apply live_new) <;> (first | with_reducible rfl | (focus (simp; done)))) | with_reducible apply live_alloc | with_reducible apply live_drew | with_reducible apply live_drewN | ((with_reducible apply live_set_other); (case hb => first | omega | (simp; done))) | with_reducible apply live_set_same | (focus (simp; done)))), by (repeat' (first | with_reducible exact Below.refl _ _ | with_reducible refine Below.drew ?_ | with_reducible refine below_drewN ?_ _ | with_reducible refine Below.alloc ?_ ?_ _ | with_reducible refine Below.setCell ?_ ?_ _ | with_reducible refine Below.trans ?_ (Below.mono (by with_reducible assumption) ?_) | (simp; done) | (simp; omega) | omega))⟩
  case round =>
    obtain ⟨k, dn, wt, si, rfl, rfl, rfl, k0, k1, hinv, hsi, si0, si1, L0, LM, hb0⟩ := hrel
    obtain ⟨p0, e0, f0⟩ := id L0
    obtain ⟨pm, em, fm⟩ := id LM
    by_cases hlt : k < N
    · obtain ⟨hon, d0, d1, w0⟩ := minv_runs n ac en cr ex t k dn wt hinv (by rw [HT.out]; exact hlt)
      have hnx := minv_tick n ac en cr ex t k dn wt hinv n0 t0 t1 a0 a1 c0 c1 e0' x0 n1
      have hs := hsi d1
      have hwb := (plW_ivl n ac en cr ex t (dn + 1) t0 t1 (by omega) (by omega) a0 a1 c0 c1 e0' x0 n1).2
      by_cases hw : 1 < wt
      · have HNX : Hid (MInv n ac en cr ex t (k + 1) dn (wt - 1)) := by
          unfold tkDn tkWt at hnx
          rw [hon, if_neg (by omega), if_pos rfl, if_pos hw] at hnx
          exact Lib.hid hnx
        have HS : Hid (dn < n → si + 1 + (wt - 1) = plW n ac en cr ex (dn + 1) t) := Lib.hid (fun _ => by omega)
        have HTK : Hid (∀ w, Calls Try.prog 30 #[.agg #[.int .i64 a, .int .i64 b, .int .i64 c, .int .i64 d, .int .i64 ac, .int .i64 en, .int .i64 cr, .int .i64 ex, .int .i64 dn, .int .i64 wt], .int .i64 t] w (TickRes a b c d ac en cr ex dn (wt - 1) 0 0 0 0 w)) := Lib.hid (fun w => pulse_tick_wait a b c d ac en cr ex dn wt t w HQ.out (by rw [HN.out]; exact hon) hw (by omega))
        have hs1 : si + 1 ≤ 1048576 := by omega
        clear hinv hsi hon hnx hs hwb
        go_wp2_with (go_at_call 30; refine (HTK.out _).mono ?_; rintro e w5 ⟨rfl, hb5⟩; have z5 := hb5.size; (try simp at z5); have L5a := live_below hb5 (b := w.heap.size) (by (repeat (first | with_reducible assumption | ((with_reducible apply live_new) <;> (first | with_reducible rfl | (focus (simp; done)))) | with_reducible apply live_alloc | with_reducible apply live_drew | with_reducible apply live_drewN | ((with_reducible apply live_set_other); (case hb => first | omega | (simp; done))) | with_reducible apply live_set_same | (focus (simp; done))))); obtain ⟨p5a, e5a, f5a⟩ := id L5a; have L5b := live_below hb5 (b := w1.heap.size) (by (repeat (first | with_reducible assumption | ((with_reducible apply live_new) <;> (first | with_reducible rfl | (focus (simp; done)))) | with_reducible apply live_alloc | with_reducible apply live_drew | with_reducible apply live_drewN | ((with_reducible apply live_set_other); (case hb => first | omega | (simp; done))) | with_reducible apply live_set_same | (focus (simp; done))))); obtain ⟨p5b, e5b, f5b⟩ := id L5b)
        go_roundw
        case rel => exact ⟨k + 1, dn, wt - 1, si + 1, rfl, rfl, rfl, by omega, by omega, HNX.out, HS.out, by omega, by omega, by (repeat (first | with_reducible assumption | ((with_reducible apply live_new) <;> (first | with_reducible rfl | (focus (simp; done)))) | with_reducible apply live_alloc | with_reducible apply live_drew | with_reducible apply live_drewN | with_reducible apply live_put10 | with_reducible apply live_put8 | with_reducible apply live_put4 | ((with_reducible apply live_put10_other); (case hb => first | omega | (simp; done))) | ((with_reducible apply live_put8_other); (case hb => first | omega | (simp; done))) | ((with_reducible apply live_put4_other); (case hb => first | omega | (simp; done))) | ((with_reducible apply live_set_other); (case hb => first | omega | (simp; done))) | (focus (simp; done)))), by (repeat (first | with_reducible assumption | ((with_reducible apply live_new) <;> (first | with_reducible rfl | (focus (simp; done)))) | with_reducible apply live_alloc | with_reducible apply live_drew | with_reducible apply live_drewN | with_reducible apply live_put10 | with_reducible apply live_put8 | with_reducible apply live_put4 | ((with_reducible apply live_put10_other); (case hb => first | omega | (simp; done))) | ((with_reducible apply live_put8_other); (case hb => first | omega | (simp; done))) | ((with_reducible apply live_put4_other); (case hb => first | omega | (simp; done))) | ((with_reducible apply live_set_other); (case hb => first | omega | (simp; done))) | (focus (simp; done)))), by refine Below.trans hb0 ?_; (repeat' (first | with_reducible exact Below.refl _ _ | with_reducible refine Below.drew ?_ | with_reducible refine below_drewN ?_ _ | with_reducible refine Below.alloc ?_ ?_ _ | with_reducible refine Below.setCell ?_ ?_ _ | with_reducible refine Below.trans ?_ (Below.mono (by with_reducible assumption) ?_) | (simp; done) | (simp; omega) | omega))⟩
        case measure => simp [intOf]; omega
      · obtain rfl : wt = 1 := by omega
        have hbit : puM n (dn + 1) a ≠ 0 ∨ puM n (dn + 1) b ≠ 0 ∨ puM n (dn + 1) c ≠ 0 ∨ puM n (dn + 1) d ≠ 0 := by
          rcases HTOP.out with h | h | h | h
          · exact .inl (pu_top n dn a n0 d0 d1 h)
          · exact .inr (.inl (pu_top n dn b n0 d0 d1 h))
          · exact .inr (.inr (.inl (pu_top n dn c n0 d0 d1 h)))
          · exact .inr (.inr (.inr (pu_top n dn d n0 d0 d1 h)))
        have HTK : Hid (∀ w, Calls Try.prog 30 #[.agg #[.int .i64 a, .int .i64 b, .int .i64 c, .int .i64 d, .int .i64 ac, .int .i64 en, .int .i64 cr, .int .i64 ex, .int .i64 dn, .int .i64 1], .int .i64 t] w (TickRes a b c d ac en cr ex (dn + 1) (plNext n ac en cr ex (dn + 1) t) (puM n (dn + 1) a) (puM n (dn + 1) b) (puM n (dn + 1) c) (puM n (dn + 1) d) w)) := Lib.hid (fun w => by
          have h := pulse_tick_step a b c d ac en cr ex dn t w HQ.out (by rw [HN.out]; exact hon) HV.out d0 (by rw [HN.out]; exact d1)
          rw [HN.out, HP.out] at h
          exact h)
        have HRP : Hid (∀ w, Calls Try.prog 37 #[.agg #[.int .i64 a, .int .i64 b, .int .i64 c, .int .i64 d], .int .i64 (dn + 1)] w fun e w' => e = .returned (.agg #[.int .i64 (puM n (dn + 1) a), .int .i64 (puM n (dn + 1) b), .int .i64 (puM n (dn + 1) c), .int .i64 (puM n (dn + 1) d)]) ∧ Below w.heap.size w w') := Lib.hid (fun w => by
          have h := ref42_pulse a b c d (dn + 1) w
          rw [HP.out] at h
          exact h)
        have HNX : Hid (MInv n ac en cr ex t (k + 1) (dn + 1) (plNext n ac en cr ex (dn + 1) t)) := by
          unfold tkDn tkWt at hnx
          rw [hon, if_pos ⟨rfl, by omega⟩, if_pos rfl, if_neg hw] at hnx
          exact Lib.hid hnx
        have HS : Hid (dn + 1 < n → 0 + plNext n ac en cr ex (dn + 1) t = plW n ac en cr ex (dn + 1 + 1) t) := Lib.hid (fun h => by unfold plNext; rw [if_neg (by omega)]; omega)
        have HIV : Hid (ivV (sqV (blkN a b c d ac en cr ex) ac en cr ex (dn + 1)) t = si + 1) := by
          show _ = _; rw [HN.out]; exact hs.symm
        have hs1 : si + 1 ≤ 1048576 := by omega
        generalize plNext n ac en cr ex (dn + 1) t = Y at *
        generalize puM n (dn + 1) a = pa at *
        generalize puM n (dn + 1) b = pb at *
        generalize puM n (dn + 1) c = pc at *
        generalize puM n (dn + 1) d = pd at *
        have hz : ∀ (w : World), (binOp .eql 22 (.agg #[.int .i64 pa, .int .i64 pb, .int .i64 pc, .int .i64 pd]) (.agg #[.int .i64 0, .int .i64 0, .int .i64 0, .int .i64 0])).run Try.prog w = .ok (.bool false) w := fun w => by
          rw [arr_eql]
          have e : same4 pa pb pc pd 0 0 0 0 = false := by
            unfold same4; simp; omega
          rw [e]
        clear hinv hsi hon hnx hs hwb hbit hw
        go_wp2_with (go_at_call 30; refine (HTK.out _).mono ?_; rintro e w5 ⟨rfl, hb5⟩; have z5 := hb5.size; (try simp at z5); have L5a := live_below hb5 (b := w.heap.size) (by (repeat (first | with_reducible assumption | ((with_reducible apply live_new) <;> (first | with_reducible rfl | (focus (simp; done)))) | with_reducible apply live_alloc | with_reducible apply live_drew | with_reducible apply live_drewN | ((with_reducible apply live_set_other); (case hb => first | omega | (simp; done))) | with_reducible apply live_set_same | (focus (simp; done))))); obtain ⟨p5a, e5a, f5a⟩ := id L5a; have L5b := live_below hb5 (b := w1.heap.size) (by (repeat (first | with_reducible assumption | ((with_reducible apply live_new) <;> (first | with_reducible rfl | (focus (simp; done)))) | with_reducible apply live_alloc | with_reducible apply live_drew | with_reducible apply live_drewN | ((with_reducible apply live_set_other); (case hb => first | omega | (simp; done))) | with_reducible apply live_set_same | (focus (simp; done))))); obtain ⟨p5b, e5b, f5b⟩ := id L5b)
        refine gen_world (fun wx => Live wx w.heap.size #[.int .i64 a, .int .i64 b, .int .i64 c, .int .i64 d, .int .i64 ac, .int .i64 en, .int .i64 cr, .int .i64 ex] ∧ Live wx w1.heap.size #[.int .i64 a, .int .i64 b, .int .i64 c, .int .i64 d, .int .i64 ac, .int .i64 en, .int .i64 cr, .int .i64 ex, .int .i64 (dn + 1), .int .i64 Y] ∧ Live wx (w5.heap.size + 1) #[.int .i64 pa, .int .i64 pb, .int .i64 pc, .int .i64 pd] ∧ Below w.heap.size w wx) ?_ ?_
        · refine ⟨?_, ?_, ?_, ?_⟩
          · (repeat (first | with_reducible assumption | ((with_reducible apply live_new) <;> (first | with_reducible rfl | (focus (simp; done)))) | with_reducible apply live_alloc | with_reducible apply live_drew | with_reducible apply live_drewN | with_reducible apply live_put10 | with_reducible apply live_put8 | with_reducible apply live_put4 | ((with_reducible apply live_put10_other); (case hb => first | omega | (simp; done))) | ((with_reducible apply live_put8_other); (case hb => first | omega | (simp; done))) | ((with_reducible apply live_put4_other); (case hb => first | omega | (simp; done))) | ((with_reducible apply live_set_other); (case hb => first | omega | (simp; done))) | (focus (simp; done))))
          · (repeat (first | with_reducible assumption | ((with_reducible apply live_new) <;> (first | with_reducible rfl | (focus (simp; done)))) | with_reducible apply live_alloc | with_reducible apply live_drew | with_reducible apply live_drewN | with_reducible apply live_put10 | with_reducible apply live_put8 | with_reducible apply live_put4 | ((with_reducible apply live_put10_other); (case hb => first | omega | (simp; done))) | ((with_reducible apply live_put8_other); (case hb => first | omega | (simp; done))) | ((with_reducible apply live_put4_other); (case hb => first | omega | (simp; done))) | ((with_reducible apply live_set_other); (case hb => first | omega | (simp; done))) | (focus (simp; done))))
          · (repeat (first | with_reducible assumption | ((with_reducible apply live_new) <;> (first | with_reducible rfl | (focus (simp; done)))) | with_reducible apply live_alloc | with_reducible apply live_drew | with_reducible apply live_drewN | with_reducible apply live_put10 | with_reducible apply live_put8 | with_reducible apply live_put4 | ((with_reducible apply live_put10_other); (case hb => first | omega | (simp; done))) | ((with_reducible apply live_put8_other); (case hb => first | omega | (simp; done))) | ((with_reducible apply live_put4_other); (case hb => first | omega | (simp; done))) | ((with_reducible apply live_set_other); (case hb => first | omega | (simp; done))) | (focus (simp; done))))
          · refine Below.trans hb0 ?_
            (repeat' (first | with_reducible exact Below.refl _ _ | with_reducible refine Below.drew ?_ | with_reducible refine below_drewN ?_ _ | with_reducible refine Below.alloc ?_ ?_ _ | with_reducible refine Below.setCell ?_ ?_ _ | with_reducible refine Below.trans ?_ (Below.mono (by with_reducible assumption) ?_) | (simp; done) | (simp; omega) | omega))
        · rintro w7 ⟨L7a, L7b, L7c, hb7⟩
          obtain ⟨p7a, e7a, f7a⟩ := id L7a
          obtain ⟨p7b, e7b, f7b⟩ := id L7b
          obtain ⟨p7c, e7c, f7c⟩ := id L7c
          clear L0 p0 e0 f0 LM pm em fm L5a p5a e5a f5a L5b p5b e5b f5b
          go_region_held3 (fun w' => (w'.cell? ⟨w.heap.size, 0, none⟩ = some (.int .i64 a) ∧ w'.cell? ⟨w.heap.size, 1, none⟩ = some (.int .i64 b) ∧ w'.cell? ⟨w.heap.size, 2, none⟩ = some (.int .i64 c) ∧ w'.cell? ⟨w.heap.size, 3, none⟩ = some (.int .i64 d) ∧ w'.cell? ⟨w.heap.size, 4, none⟩ = some (.int .i64 ac) ∧ w'.cell? ⟨w.heap.size, 5, none⟩ = some (.int .i64 en) ∧ w'.cell? ⟨w.heap.size, 6, none⟩ = some (.int .i64 cr) ∧ w'.cell? ⟨w.heap.size, 7, none⟩ = some (.int .i64 ex)) ∧ (w'.cell? ⟨w1.heap.size, 0, none⟩ = some (.int .i64 a) ∧ w'.cell? ⟨w1.heap.size, 1, none⟩ = some (.int .i64 b) ∧ w'.cell? ⟨w1.heap.size, 2, none⟩ = some (.int .i64 c) ∧ w'.cell? ⟨w1.heap.size, 3, none⟩ = some (.int .i64 d) ∧ w'.cell? ⟨w1.heap.size, 4, none⟩ = some (.int .i64 ac) ∧ w'.cell? ⟨w1.heap.size, 5, none⟩ = some (.int .i64 en) ∧ w'.cell? ⟨w1.heap.size, 6, none⟩ = some (.int .i64 cr) ∧ w'.cell? ⟨w1.heap.size, 7, none⟩ = some (.int .i64 ex) ∧ w'.cell? ⟨w1.heap.size, 8, none⟩ = some (.int .i64 (dn + 1)) ∧ w'.cell? ⟨w1.heap.size, 9, none⟩ = some (.int .i64 Y)) ∧ (w'.cell? ⟨w5.heap.size + 1, 0, none⟩ = some (.int .i64 pa) ∧ w'.cell? ⟨w5.heap.size + 1, 1, none⟩ = some (.int .i64 pb) ∧ w'.cell? ⟨w5.heap.size + 1, 2, none⟩ = some (.int .i64 pc) ∧ w'.cell? ⟨w5.heap.size + 1, 3, none⟩ = some (.int .i64 pd))) (first | (focus ((with_reducible refine ⟨?_, ?_, ?_⟩) <;> (first | ((with_reducible apply live_ten); (repeat (first | with_reducible assumption | ((with_reducible apply live_new) <;> (first | with_reducible rfl | (focus (simp; done)))) | with_reducible apply live_alloc | with_reducible apply live_drew | with_reducible apply live_drewN | ((with_reducible apply live_set_other); (case hb => first | omega | (simp; done))) | with_reducible apply live_set_same | (focus (simp; done)))); done) | ((with_reducible apply live_eight); (repeat (first | with_reducible assumption | ((with_reducible apply live_new) <;> (first | with_reducible rfl | (focus (simp; done)))) | with_reducible apply live_alloc | with_reducible apply live_drew | with_reducible apply live_drewN | ((with_reducible apply live_set_other); (case hb => first | omega | (simp; done))) | with_reducible apply live_set_same | (focus (simp; done)))); done) | ((with_reducible apply live_four); (repeat (first | with_reducible assumption | ((with_reducible apply live_new) <;> (first | with_reducible rfl | (focus (simp; done)))) | with_reducible apply live_alloc | with_reducible apply live_drew | with_reducible apply live_drewN | ((with_reducible apply live_set_other); (case hb => first | omega | (simp; done))) | with_reducible apply live_set_same | (focus (simp; done)))); done)))) | go_keep)
            (first | (go_at_call 37; refine (HRP.out _).mono ?_; rintro e w8 ⟨rfl, hb8⟩; have z8 := hb8.size; (try simp at z8); have L8a := live_below hb8 (b := w.heap.size) (by (repeat (first | with_reducible assumption | ((with_reducible apply live_new) <;> (first | with_reducible rfl | (focus (simp; done)))) | with_reducible apply live_alloc | with_reducible apply live_drew | with_reducible apply live_drewN | ((with_reducible apply live_set_other); (case hb => first | omega | (simp; done))) | with_reducible apply live_set_same | (focus (simp; done))))); obtain ⟨p8a, e8a, f8a⟩ := id L8a; have L8b := live_below hb8 (b := w1.heap.size) (by (repeat (first | with_reducible assumption | ((with_reducible apply live_new) <;> (first | with_reducible rfl | (focus (simp; done)))) | with_reducible apply live_alloc | with_reducible apply live_drew | with_reducible apply live_drewN | ((with_reducible apply live_set_other); (case hb => first | omega | (simp; done))) | with_reducible apply live_set_same | (focus (simp; done))))); obtain ⟨p8b, e8b, f8b⟩ := id L8b; have L8c := live_below hb8 (b := w5.heap.size + 1) (by (repeat (first | with_reducible assumption | ((with_reducible apply live_new) <;> (first | with_reducible rfl | (focus (simp; done)))) | with_reducible apply live_alloc | with_reducible apply live_drew | with_reducible apply live_drewN | ((with_reducible apply live_set_other); (case hb => first | omega | (simp; done))) | with_reducible apply live_set_same | (focus (simp; done))))); obtain ⟨p8c, e8c, f8c⟩ := id L8c) | (go_at_call 38; refine (ref45_interval _ _ _ _ _ _ _ _ _ _ _).mono ?_; rw [HIV.out]; rintro e w9 ⟨rfl, hb9⟩; have z9 := hb9.size; (try simp at z9); have L9a := live_below hb9 (b := w.heap.size) (by (repeat (first | with_reducible assumption | ((with_reducible apply live_new) <;> (first | with_reducible rfl | (focus (simp; done)))) | with_reducible apply live_alloc | with_reducible apply live_drew | with_reducible apply live_drewN | ((with_reducible apply live_set_other); (case hb => first | omega | (simp; done))) | with_reducible apply live_set_same | (focus (simp; done))))); obtain ⟨p9a, e9a, f9a⟩ := id L9a; have L9b := live_below hb9 (b := w1.heap.size) (by (repeat (first | with_reducible assumption | ((with_reducible apply live_new) <;> (first | with_reducible rfl | (focus (simp; done)))) | with_reducible apply live_alloc | with_reducible apply live_drew | with_reducible apply live_drewN | ((with_reducible apply live_set_other); (case hb => first | omega | (simp; done))) | with_reducible apply live_set_same | (focus (simp; done))))); obtain ⟨p9b, e9b, f9b⟩ := id L9b; have L9c := live_below hb9 (b := w5.heap.size + 1) (by (repeat (first | with_reducible assumption | ((with_reducible apply live_new) <;> (first | with_reducible rfl | (focus (simp; done)))) | with_reducible apply live_alloc | with_reducible apply live_drew | with_reducible apply live_drewN | ((with_reducible apply live_set_other); (case hb => first | omega | (simp; done))) | with_reducible apply live_set_same | (focus (simp; done))))); obtain ⟨p9c, e9c, f9c⟩ := id L9c))
          all_goals go_wp2_with fail
          all_goals go_roundw
          case rel => exact ⟨k + 1, dn + 1, Y, 0, rfl, rfl, rfl, by omega, by omega, HNX.out, HS.out, by omega, by omega, by (repeat (first | with_reducible assumption | ((with_reducible apply live_new) <;> (first | with_reducible rfl | (focus (simp; done)))) | with_reducible apply live_alloc | with_reducible apply live_drew | with_reducible apply live_drewN | ((with_reducible apply live_set_other); (case hb => first | omega | (simp; done))) | with_reducible apply live_set_same | (focus (simp; done)))), by (repeat (first | with_reducible assumption | ((with_reducible apply live_new) <;> (first | with_reducible rfl | (focus (simp; done)))) | with_reducible apply live_alloc | with_reducible apply live_drew | with_reducible apply live_drewN | ((with_reducible apply live_set_other); (case hb => first | omega | (simp; done))) | with_reducible apply live_set_same | (focus (simp; done)))), by refine Below.trans hb7 ?_; (repeat' (first | with_reducible exact Below.refl _ _ | with_reducible refine Below.drew ?_ | with_reducible refine below_drewN ?_ _ | with_reducible refine Below.alloc ?_ ?_ _ | with_reducible refine Below.setCell ?_ ?_ _ | with_reducible refine Below.trans ?_ (Below.mono (by with_reducible assumption) ?_) | (simp; done) | (simp; omega) | omega))⟩
          case measure => simp [intOf]; omega
    · obtain ⟨rfl, rfl⟩ := minv_end n ac en cr ex t k dn wt hinv (by rw [HT.out]; omega) t0 t1 a0 a1 c0 c1 e0' x0 n1
      have HKN : k = N := by omega
      clear hinv hsi
      subst HKN
      go_wp2_with (first | (go_at_call 39; refine (ref42_dom _ _ _ _ _).mono ?_; rw [HP.out]; rintro e wd ⟨rfl, rfl⟩) | (go_at_call 26; refine (law46_works _).mono ?_; rintro e w9 ⟨rfl, hb9⟩; have z9 := hb9.size; (try simp at z9); have L9a := live_below hb9 (b := w.heap.size) (by (repeat (first | with_reducible assumption | ((with_reducible apply live_new) <;> (first | with_reducible rfl | (focus (simp; done)))) | with_reducible apply live_alloc | with_reducible apply live_drew | with_reducible apply live_drewN | ((with_reducible apply live_set_other); (case hb => first | omega | (simp; done))) | with_reducible apply live_set_same | (focus (simp; done))))); obtain ⟨p9a, e9a, f9a⟩ := id L9a))
      all_goals go_ret
      all_goals refine ⟨rfl, ?_⟩
      all_goals refine Below.trans hb0 ?_
      all_goals (repeat' (first | with_reducible exact Below.refl _ _ | with_reducible refine Below.drew ?_ | with_reducible refine below_drewN ?_ _ | with_reducible refine Below.alloc ?_ ?_ _ | with_reducible refine Below.setCell ?_ ?_ _ | with_reducible refine Below.trans ?_ (Below.mono (by with_reducible assumption) ?_) | (simp; done) | (simp; omega) | omega))

theorem walk (a b c d ac en cr ex t : Int) (w : World) : Calls Try.prog 13 #[.agg #[.int .i64 a, .int .i64 b, .int .i64 c, .int .i64 d, .int .i64 ac, .int .i64 en, .int .i64 cr, .int .i64 ex], .int .i64 t] w fun e w' => e = .returned (.bool true) ∧ Below w.heap.size w w' := by
  by_cases h : blkValid a b c d ac en cr ex = false ∨ possB t = false
  · exact bad a b c d ac en cr ex t w h
  · have hv : blkValid a b c d ac en cr ex = true := by
      cases hv : blkValid a b c d ac en cr ex
      · exact absurd (.inl hv) h
      · rfl
    have hp : possB t = true := by
      cases hp : possB t
      · exact absurd (.inr hp) h
      · rfl
    by_cases hl : durE (blkValid a b c d ac en cr ex) (ddaDom a b c d) t ≠ 0 ∨ 3000 < durN (blkValid a b c d ac en cr ex) (ddaDom a b c d) ac en cr ex t
    · exact long a b c d ac en cr ex t w hv hp hl
    · obtain ⟨hn, n0⟩ := blk_pos _ _ _ _ _ _ _ _ hv
      have n1 := (blkN_in a b c d ac en cr ex).2
      have hb := hv
      simp [blkValid, blkSound] at hb
      obtain ⟨⟨hdv, a0, a1, c0, c1⟩, e0', e1', x0, x1⟩ := hb
      have hp2 := hp
      simp [possB] at hp2
      have hle := some_top a b c d hdv
      have hE : durE (blkValid a b c d ac en cr ex) (ddaDom a b c d) t = 0 := by omega
      have h65 : ddaDom a b c d ≤ 65536 := by
        unfold durE at hE
        rw [hv, if_pos ⟨rfl, hp2.1, hp2.2⟩] at hE
        by_cases h6 : ddaDom a b c d ≤ 65536
        · exact h6
        · rw [if_neg h6] at hE; omega
      have hU : durN (blkValid a b c d ac en cr ex) (ddaDom a b c d) ac en cr ex t = tEnd (blkN a b c d ac en cr ex) ac en cr ex t (blkN a b c d ac en cr ex) := by
        unfold durN
        rw [hv, if_pos ⟨rfl, hp2.1, hp2.2, h65⟩, hn]; rfl
      have hU0 : 0 ≤ durN (blkValid a b c d ac en cr ex) (ddaDom a b c d) ac en cr ex t := by
        unfold durN
        rw [hv, if_pos ⟨rfl, hp2.1, hp2.2, h65⟩]
        exact (durS_in (ddaDom a b c d) ac en cr ex t a0 a1 c0 c1 e0' x0 (by omega) hp2.1 hp2.2 (ddaDom a b c d).toNat (by omega)).1
      rw [← hn] at hle
      exact many a b c d ac en cr ex t _ _ w hv rfl hn.symm n0 n1 hp2.1 hp2.2 a0 a1 c0 c1 e0' x0 hle hU.symm hU0 (by omega) rfl hE

set_option maxRecDepth 100000 in
theorem lifted (os : Os) (started : os.Started) (H : Type) (enc : TypeId × Value → H) :
    ReturnsInHanded {} Try.checked os 13 .any (Rows.pulseApartSpec.pre6 enc Try.prog Try.f13 Rows.pulseApartRow.domain false) (Rows.pulseApartSpec.post enc Try.prog Try.f13 false true false false) := by
  refine returnsInHanded_of_change (C := Try.checked) own started (by kernel_rfl) Try.func13
    (ChangeSpec.witness6 (enc := enc) (C := Try.checked) false ⟨#[], #[.agg #[.int .i64 0, .int .i64 0, .int .i64 0, .int .i64 0, .int .i64 0, .int .i64 0, .int .i64 0, .int .i64 0], .int .i64 0], []⟩ 8 (by kernel_rfl) (by kernel_rfl) (by kernel_rfl) (by kernel_rfl)) ?_
  intro W base args ds gs before hval0 hW _ _
  have hval : ∀ (j : Nat) t v, Try.f13.params[j]? = some t → args[j]? = some v → Value.okWide Try.prog W .any base t v := hval0
  have hW' := hW
  obtain ⟨p, q, hA0, hV, rfl, _, _⟩ := hW
  have hA : DataW.TrodAll enc Try.prog W 0 (fun _ => true) true Try.f13.params.toList args.toList ds p := hA0
  rw [Try.params13] at hA hval
  obtain ⟨v0, v1, d0, d1, p0, p1, rfl, rfl, rfl, h0, h1⟩ := trodAll_two hA
  clear hA hA0 hval0
  obtain ⟨f0, bf0, rfl⟩ := flat_ints (n := 8) (u := 3) (by kernel_rfl) (by kernel_rfl) (by kernel_rfl) Try.underlying3 (hval 0 24 v0 rfl rfl)
  obtain ⟨a1, rfl, ba1⟩ := int_open Try.underlying3 (hval 1 3 v1 rfl rfl)
  exact (walk (f0 0) (f0 1) (f0 2) (f0 3) (f0 4) (f0 5) (f0 6) (f0 7) a1 W).mono fun e W' ⟨he, hb⟩ => ⟨_, he, law_post laidOut (by kernel_rfl) rfl (fun _ => rfl) rfl Try.underlying4 hW' hb⟩

theorem holds : Rows.PulseApartSaid :=
  OpenClaim.holds_of_wide 13 Try.f13 rfl rfl rfl rfl rfl rfl rfl ⟨rfl, rfl, rfl, rfl, rfl⟩ rfl rfl rfl rfl rfl (by kernel_rfl) Try.func13 (by kernel_rfl)
    (of_decide_eq_true (by kernel_rfl)) (by unfold Func.isWrapper; rw [if_neg (of_decide_eq_false (by kernel_rfl))]; exact ⟨rfl, rfl⟩)
    (fun os started H enc _ => lifted os started H enc)

#print axioms holds
end Go.Proofs.Ytleohgnnbpicjaa.pulseApart
