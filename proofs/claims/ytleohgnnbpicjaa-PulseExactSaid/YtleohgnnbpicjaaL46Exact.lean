/- PulseExact: after the duration of a block, and not before, its motion has ended, and its pulses, each at most one step, have added up to its counts; for blocks that take at most 3000 ticks -/
import Derived.Deep.RegionWith
import Derived.Deep.RegionHeld3
import Derived.Deep.DeepCutAuto
import Derived.Deep.DrawnRows
import Derived.Handy
import Derived.IntWalk
import Derived.Test.YtleohgnnbpicjaaBase
import Derived.Test.YtleohgnnbpicjaaKit5
import Derived.Test.YtleohgnnbpicjaaL46Works
import Derived.Test.YtleohgnnbpicjaaPulPlain
import Derived.Test.YtleohgnnbpicjaaPulRefV
namespace Go.Proofs.Ytleohgnnbpicjaa.pulseExact
open Go.ChangeShapes Go.WideShapes Go.ChangeAt Go.RowKit
set_option linter.unusedVariables false

attribute [local go_sem] cell_past1 cell_past2 cell_past3 cell_past4 froz_past1 froz_past2 froz_past3
attribute [local go_sem ↓] Go.wp_at_zero Go.wp_at_succ

theorem ref_valid_on (n ac en cr ex dn wt t : Int) (h : plOn n ac en cr ex dn wt t = true) : vdB n ac en cr ex dn wt t = true ∧ enB n dn = false := vd_on n ac en cr ex dn wt t h

set_option maxRecDepth 100000 in
set_option maxHeartbeats 8000000 in
theorem bad (a b c d ac en cr ex t : Int) (w : World) (h : blkValid a b c d ac en cr ex = false ∨ possB t = false) :
    Calls Try.prog 9 #[.agg #[.int .i64 a, .int .i64 b, .int .i64 c, .int .i64 d, .int .i64 ac, .int .i64 en, .int .i64 cr, .int .i64 ex], .int .i64 t] w fun e w' => e = .returned (.bool true) ∧ Below w.heap.size w w' := by
  have HST := Lib.hid (fun w => pulse_start_bad a b c d ac en cr ex t w h)
  clear h
  have hm := @mot_eql
  go_enter Try.func9, Try.ntmps9
  go_wp2_with (first | (go_at_call 25; refine (HST.out _).mono ?_; rintro e w1 ⟨rfl, hb1⟩; have z1 := hb1.size; (try simp at z1); have L1a := live_below hb1 (b := w.heap.size) (by (repeat (first | with_reducible assumption | ((with_reducible apply live_new) <;> (first | with_reducible rfl | (focus (simp; done)))) | with_reducible apply live_alloc | with_reducible apply live_drew | with_reducible apply live_drewN | ((with_reducible apply live_set_other); (case hb => first | omega | (simp; done))) | with_reducible apply live_set_same | (focus (simp; done))))); obtain ⟨p1a, e1a, f1a⟩ := id L1a) | (go_at_call 26; refine (law46_works _).mono ?_; rintro e w9 ⟨rfl, hb9⟩; have z9 := hb9.size; (try simp at z9); have L9a := live_below hb9 (b := w.heap.size) (by (repeat (first | with_reducible assumption | ((with_reducible apply live_new) <;> (first | with_reducible rfl | (focus (simp; done)))) | with_reducible apply live_alloc | with_reducible apply live_drew | with_reducible apply live_drewN | ((with_reducible apply live_set_other); (case hb => first | omega | (simp; done))) | with_reducible apply live_set_same | (focus (simp; done))))); obtain ⟨p9a, e9a, f9a⟩ := id L9a))
  all_goals go_ret
  all_goals refine ⟨rfl, ?_⟩
  all_goals (repeat' (first | with_reducible exact Below.refl _ _ | with_reducible refine Below.drew ?_ | with_reducible refine below_drewN ?_ _ | with_reducible refine Below.alloc ?_ ?_ _ | with_reducible refine Below.setCell ?_ ?_ _ | with_reducible refine Below.trans ?_ (Below.mono (by with_reducible assumption) ?_) | (simp; done) | (simp; omega) | omega))

set_option maxRecDepth 100000 in
set_option maxHeartbeats 8000000 in
theorem long (a b c d ac en cr ex t : Int) (w : World) (hv : blkValid a b c d ac en cr ex = true) (hp : possB t = true) (h : durE (blkValid a b c d ac en cr ex) (ddaDom a b c d) t ≠ 0 ∨ 3000 < durN (blkValid a b c d ac en cr ex) (ddaDom a b c d) ac en cr ex t) :
    Calls Try.prog 9 #[.agg #[.int .i64 a, .int .i64 b, .int .i64 c, .int .i64 d, .int .i64 ac, .int .i64 en, .int .i64 cr, .int .i64 ex], .int .i64 t] w fun e w' => e = .returned (.bool true) ∧ Below w.heap.size w w' := by
  have HST := Lib.hid (fun w => pulse_start_ok a b c d ac en cr ex t w hv hp)
  generalize hu : durN (blkValid a b c d ac en cr ex) (ddaDom a b c d) ac en cr ex t = U at *
  generalize he : durE (blkValid a b c d ac en cr ex) (ddaDom a b c d) t = E at *
  have HU := Lib.hid hu
  have HE := Lib.hid he
  clear hu he hv hp
  rcases (by omega : E ≠ 0 ∨ (E = 0 ∧ 3000 < U)) with h1 | ⟨h1, h2⟩
  · have hb : (E != 0) = true := by simp [h1]
    have hb2 : (E == 0) = false := by simp [h1]
    clear h h1
    go_enter Try.func9, Try.ntmps9
    go_wp2_with (first | (go_at_call 25; refine (HST.out _).mono ?_; rintro e w1 ⟨rfl, hb1⟩; have z1 := hb1.size; (try simp at z1); have L1a := live_below hb1 (b := w.heap.size) (by (repeat (first | with_reducible assumption | ((with_reducible apply live_new) <;> (first | with_reducible rfl | (focus (simp; done)))) | with_reducible apply live_alloc | with_reducible apply live_drew | with_reducible apply live_drewN | ((with_reducible apply live_set_other); (case hb => first | omega | (simp; done))) | with_reducible apply live_set_same | (focus (simp; done))))); obtain ⟨p1a, e1a, f1a⟩ := id L1a) | (go_at_call 27; refine (ref45_duration _ _ _ _ _ _ _ _ _ _).mono ?_; rw [HU.out, HE.out]; rintro e w2 ⟨rfl, hb2⟩; have z2 := hb2.size; (try simp at z2); have L2a := live_below hb2 (b := w.heap.size) (by (repeat (first | with_reducible assumption | ((with_reducible apply live_new) <;> (first | with_reducible rfl | (focus (simp; done)))) | with_reducible apply live_alloc | with_reducible apply live_drew | with_reducible apply live_drewN | ((with_reducible apply live_set_other); (case hb => first | omega | (simp; done))) | with_reducible apply live_set_same | (focus (simp; done))))); obtain ⟨p2a, e2a, f2a⟩ := id L2a; have L2b := live_below hb2 (b := w1.heap.size) (by (repeat (first | with_reducible assumption | ((with_reducible apply live_new) <;> (first | with_reducible rfl | (focus (simp; done)))) | with_reducible apply live_alloc | with_reducible apply live_drew | with_reducible apply live_drewN | ((with_reducible apply live_set_other); (case hb => first | omega | (simp; done))) | with_reducible apply live_set_same | (focus (simp; done))))); obtain ⟨p2b, e2b, f2b⟩ := id L2b) | (go_at_call 26; refine (law46_works _).mono ?_; rintro e w9 ⟨rfl, hb9⟩; have z9 := hb9.size; (try simp at z9); have L9a := live_below hb9 (b := w.heap.size) (by (repeat (first | with_reducible assumption | ((with_reducible apply live_new) <;> (first | with_reducible rfl | (focus (simp; done)))) | with_reducible apply live_alloc | with_reducible apply live_drew | with_reducible apply live_drewN | ((with_reducible apply live_set_other); (case hb => first | omega | (simp; done))) | with_reducible apply live_set_same | (focus (simp; done))))); obtain ⟨p9a, e9a, f9a⟩ := id L9a))
    all_goals go_ret
    all_goals refine ⟨rfl, ?_⟩
    all_goals (repeat' (first | with_reducible exact Below.refl _ _ | with_reducible refine Below.drew ?_ | with_reducible refine below_drewN ?_ _ | with_reducible refine Below.alloc ?_ ?_ _ | with_reducible refine Below.setCell ?_ ?_ _ | with_reducible refine Below.trans ?_ (Below.mono (by with_reducible assumption) ?_) | (simp; done) | (simp; omega) | omega))
  · subst h1
    clear h
    go_enter Try.func9, Try.ntmps9
    go_wp2_with (first | (go_at_call 25; refine (HST.out _).mono ?_; rintro e w1 ⟨rfl, hb1⟩; have z1 := hb1.size; (try simp at z1); have L1a := live_below hb1 (b := w.heap.size) (by (repeat (first | with_reducible assumption | ((with_reducible apply live_new) <;> (first | with_reducible rfl | (focus (simp; done)))) | with_reducible apply live_alloc | with_reducible apply live_drew | with_reducible apply live_drewN | ((with_reducible apply live_set_other); (case hb => first | omega | (simp; done))) | with_reducible apply live_set_same | (focus (simp; done))))); obtain ⟨p1a, e1a, f1a⟩ := id L1a) | (go_at_call 27; refine (ref45_duration _ _ _ _ _ _ _ _ _ _).mono ?_; rw [HU.out, HE.out]; rintro e w2 ⟨rfl, hb2⟩; have z2 := hb2.size; (try simp at z2); have L2a := live_below hb2 (b := w.heap.size) (by (repeat (first | with_reducible assumption | ((with_reducible apply live_new) <;> (first | with_reducible rfl | (focus (simp; done)))) | with_reducible apply live_alloc | with_reducible apply live_drew | with_reducible apply live_drewN | ((with_reducible apply live_set_other); (case hb => first | omega | (simp; done))) | with_reducible apply live_set_same | (focus (simp; done))))); obtain ⟨p2a, e2a, f2a⟩ := id L2a; have L2b := live_below hb2 (b := w1.heap.size) (by (repeat (first | with_reducible assumption | ((with_reducible apply live_new) <;> (first | with_reducible rfl | (focus (simp; done)))) | with_reducible apply live_alloc | with_reducible apply live_drew | with_reducible apply live_drewN | ((with_reducible apply live_set_other); (case hb => first | omega | (simp; done))) | with_reducible apply live_set_same | (focus (simp; done))))); obtain ⟨p2b, e2b, f2b⟩ := id L2b) | (go_at_call 26; refine (law46_works _).mono ?_; rintro e w9 ⟨rfl, hb9⟩; have z9 := hb9.size; (try simp at z9); have L9a := live_below hb9 (b := w.heap.size) (by (repeat (first | with_reducible assumption | ((with_reducible apply live_new) <;> (first | with_reducible rfl | (focus (simp; done)))) | with_reducible apply live_alloc | with_reducible apply live_drew | with_reducible apply live_drewN | ((with_reducible apply live_set_other); (case hb => first | omega | (simp; done))) | with_reducible apply live_set_same | (focus (simp; done))))); obtain ⟨p9a, e9a, f9a⟩ := id L9a))
    all_goals go_ret
    all_goals refine ⟨rfl, ?_⟩
    all_goals (repeat' (first | with_reducible exact Below.refl _ _ | with_reducible refine Below.drew ?_ | with_reducible refine below_drewN ?_ _ | with_reducible refine Below.alloc ?_ ?_ _ | with_reducible refine Below.setCell ?_ ?_ _ | with_reducible refine Below.trans ?_ (Below.mono (by with_reducible assumption) ?_) | (simp; done) | (simp; omega) | omega))

def Rel (n a b c d ac en cr ex t N : Int) (B M S : Nat) (w : World) (s10 : Value) (wr : World) : Prop :=
  ∃ k dn wt : Int, s10 = .int .i64 k ∧ 0 ≤ k ∧ k ≤ N ∧ MInv n ac en cr ex t k dn wt ∧ Live wr B #[.int .i64 a, .int .i64 b, .int .i64 c, .int .i64 d, .int .i64 ac, .int .i64 en, .int .i64 cr, .int .i64 ex] ∧ Live wr M #[.int .i64 a, .int .i64 b, .int .i64 c, .int .i64 d, .int .i64 ac, .int .i64 en, .int .i64 cr, .int .i64 ex, .int .i64 dn, .int .i64 wt] ∧ Live wr S #[.int .i64 (atM n dn a), .int .i64 (atM n dn b), .int .i64 (atM n dn c), .int .i64 (atM n dn d)] ∧ Below w.heap.size w wr

set_option maxRecDepth 100000 in
set_option maxHeartbeats 8000000 in
theorem many (a b c d ac en cr ex t n N : Int) (w : World) (hv : blkValid a b c d ac en cr ex = true) (hN : blkN a b c d ac en cr ex = n) (n0 : 1 ≤ n) (n1 : n ≤ 16777216) (t0 : 1 ≤ t) (t1 : t ≤ 1048576) (a0 : 1 ≤ ac) (a1 : ac ≤ 16777216) (c0 : 1 ≤ cr) (c1 : cr ≤ 1099511627776) (e0' : 0 ≤ en) (x0 : 0 ≤ ex)
    (xa : ab a ≤ n) (xb : ab b ≤ n) (xc : ab c ≤ n) (xd : ab d ≤ n) (hT : tEnd n ac en cr ex t n = N) (N0 : 0 ≤ N) (N1 : N ≤ 3000) (hU : durN (blkValid a b c d ac en cr ex) (ddaDom a b c d) ac en cr ex t = N) (hE : durE (blkValid a b c d ac en cr ex) (ddaDom a b c d) t = 0)
    (hbd : ∀ y, 0 ≤ y → y ≤ n → ∀ x, ab x ≤ n → -16777216 ≤ atM n y x ∧ atM n y x ≤ 16777216) :
    Calls Try.prog 9 #[.agg #[.int .i64 a, .int .i64 b, .int .i64 c, .int .i64 d, .int .i64 ac, .int .i64 en, .int .i64 cr, .int .i64 ex], .int .i64 t] w fun e w' => e = .returned (.bool true) ∧ Below w.heap.size w w' := by
  have hp : possB t = true := by unfold possB; simp; omega
  have hw1 := (plW_ivl n ac en cr ex t 1 t0 t1 (by omega) (by omega) a0 a1 c0 c1 e0' x0 n1).2
  have hst := fun w => pulse_start_ok a b c d ac en cr ex t w hv hp
  rw [hN] at hst
  have hi0 := minv_start n ac en cr ex t n0 t0 t1 a0 a1 c0 c1 e0' x0 n1
  generalize plW n ac en cr ex 1 t = W1 at *
  have HST := Lib.hid hst
  have HU := Lib.hid hU
  have HE := Lib.hid hE
  have HN := Lib.hid hN
  have HI := Lib.hid hi0
  have HBD := Lib.hid hbd
  have HT := Lib.hid hT
  have HZ : Hid (∀ x, atM n 0 x = 0) := Lib.hid (fun x => atM_none n x n0)
  have HF : Hid (∀ x, atM n n x = x) := Lib.hid (fun x => atM_full n x n0)
  have hq : ∀ (x y z u : Int) (w : World), (binOp .neq 22 (.agg #[.int .i64 x, .int .i64 y, .int .i64 z, .int .i64 u]) (.agg #[.int .i64 x, .int .i64 y, .int .i64 z, .int .i64 u])).run Try.prog w = .ok (.bool false) w := fun x y z u w => by
    rw [arr_neq]; simp [same4]
  have hq2 : ∀ (x y z u : Int) (w : World), (binOp .eql 22 (.agg #[.int .i64 x, .int .i64 y, .int .i64 z, .int .i64 u]) (.agg #[.int .i64 x, .int .i64 y, .int .i64 z, .int .i64 u])).run Try.prog w = .ok (.bool true) w := fun x y z u w => by
    rw [arr_eql]; simp [same4]
  have hm := @mot_eql
  clear hst hU hE hN hi0 hbd hT hv hp
  go_enter Try.func9, Try.ntmps9
  go_wp2_with (first | (go_at_call 25; refine (HST.out _).mono ?_; rintro e w1 ⟨rfl, hb1⟩; have z1 := hb1.size; (try simp at z1); have L1a := live_below hb1 (b := w.heap.size) (by (repeat (first | with_reducible assumption | ((with_reducible apply live_new) <;> (first | with_reducible rfl | (focus (simp; done)))) | with_reducible apply live_alloc | with_reducible apply live_drew | with_reducible apply live_drewN | ((with_reducible apply live_set_other); (case hb => first | omega | (simp; done))) | with_reducible apply live_set_same | (focus (simp; done))))); obtain ⟨p1a, e1a, f1a⟩ := id L1a) | (go_at_call 27; refine (ref45_duration _ _ _ _ _ _ _ _ _ _).mono ?_; rw [HU.out, HE.out]; rintro e w2 ⟨rfl, hb2⟩; have z2 := hb2.size; (try simp at z2); have L2a := live_below hb2 (b := w.heap.size) (by (repeat (first | with_reducible assumption | ((with_reducible apply live_new) <;> (first | with_reducible rfl | (focus (simp; done)))) | with_reducible apply live_alloc | with_reducible apply live_drew | with_reducible apply live_drewN | ((with_reducible apply live_set_other); (case hb => first | omega | (simp; done))) | with_reducible apply live_set_same | (focus (simp; done))))); obtain ⟨p2a, e2a, f2a⟩ := id L2a; have L2b := live_below hb2 (b := w1.heap.size) (by (repeat (first | with_reducible assumption | ((with_reducible apply live_new) <;> (first | with_reducible rfl | (focus (simp; done)))) | with_reducible apply live_alloc | with_reducible apply live_drew | with_reducible apply live_drewN | ((with_reducible apply live_set_other); (case hb => first | omega | (simp; done))) | with_reducible apply live_set_same | (focus (simp; done))))); obtain ⟨p2b, e2b, f2b⟩ := id L2b))
  go_loopw [10] (Rel n a b c d ac en cr ex t N w.heap.size w1.heap.size w2.heap.size w) (fun i _ => (N - intOf i).toNat)
  case atStart => exact ⟨0, 0, W1, rfl, by omega, N0, HI.out, by (repeat (first | with_reducible assumption | ((with_reducible apply live_new) <;> (first | with_reducible rfl | (focus (simp; done)))) | with_reducible apply live_alloc | with_reducible apply live_drew | with_reducible apply live_drewN | ((with_reducible apply live_set_other); (case hb => first | omega | (simp; done))) | with_reducible apply live_set_same | (focus (simp; done)))), by (repeat (first | with_reducible assumption | ((with_reducible apply live_new) <;> (first | with_reducible rfl | (focus (simp; done)))) | with_reducible apply live_alloc | with_reducible apply live_drew | with_reducible apply live_drewN | ((with_reducible apply live_set_other); (case hb => first | omega | (simp; done))) | with_reducible apply live_set_same | (focus (simp; done)))), by rw [HZ.out, HZ.out, HZ.out, HZ.out]; (repeat (first | with_reducible assumption | ((with_reducible apply live_new) <;> (first | with_reducible rfl | (focus (simp; done)))) | with_reducible apply live_alloc | with_reducible apply live_drew | with_reducible apply live_drewN | ((with_reducible apply live_set_other); (case hb => first | omega | (simp; done))) | with_reducible apply live_set_same | (focus (simp; done)))), by (repeat' (first | with_reducible exact Below.refl _ _ | with_reducible refine Below.drew ?_ | with_reducible refine below_drewN ?_ _ | with_reducible refine Below.alloc ?_ ?_ _ | with_reducible refine Below.setCell ?_ ?_ _ | with_reducible refine Below.trans ?_ (Below.mono (by with_reducible assumption) ?_) | (simp; done) | (simp; omega) | omega))⟩
  case round =>
    obtain ⟨k, dn, wt, rfl, k0, k1, hinv, L0, LM, LS, hb0⟩ := hrel
    obtain ⟨p0, e0, f0⟩ := id L0
    obtain ⟨pm, em, fm⟩ := id LM
    obtain ⟨ps, es, fs⟩ := id LS
    by_cases hlt : k < N
    · obtain ⟨hon, d0, d1, w0⟩ := minv_runs n ac en cr ex t k dn wt hinv (by rw [HT.out]; exact hlt)
      have hnx := minv_tick n ac en cr ex t k dn wt hinv n0 t0 t1 a0 a1 c0 c1 e0' x0 n1
      obtain ⟨hvd, hen⟩ := ref_valid_on n ac en cr ex dn wt t hon
      have hdn := tk_dn_in n ac en cr ex t dn wt hon
      have sa := tk_sum n ac en cr ex t dn wt a hon
      have sb := tk_sum n ac en cr ex t dn wt b hon
      have sc := tk_sum n ac en cr ex t dn wt c hon
      have sd := tk_sum n ac en cr ex t dn wt d hon
      obtain ⟨pa0, pa1⟩ := tk_pu_in n ac en cr ex t dn wt a n0 xa
      obtain ⟨pb0, pb1⟩ := tk_pu_in n ac en cr ex t dn wt b n0 xb
      obtain ⟨pc0, pc1⟩ := tk_pu_in n ac en cr ex t dn wt c n0 xc
      obtain ⟨pd0, pd1⟩ := tk_pu_in n ac en cr ex t dn wt d n0 xd
      obtain ⟨ma0, ma1⟩ := HBD.out dn d0 (by omega) a xa
      obtain ⟨mb0, mb1⟩ := HBD.out dn d0 (by omega) b xb
      obtain ⟨mc0, mc1⟩ := HBD.out dn d0 (by omega) c xc
      obtain ⟨md0, md1⟩ := HBD.out dn d0 (by omega) d xd
      generalize hX : tkDn n ac en cr ex dn wt t = X at *
      generalize hY : tkWt n ac en cr ex dn wt t = Y at *
      generalize hPa : tkPu n ac en cr ex dn wt t a = pa at *
      generalize hPb : tkPu n ac en cr ex dn wt t b = pb at *
      generalize hPc : tkPu n ac en cr ex dn wt t c = pc at *
      generalize hPd : tkPu n ac en cr ex dn wt t d = pd at *
      have HTK : Hid (∀ w, Calls Try.prog 30 #[.agg #[.int .i64 a, .int .i64 b, .int .i64 c, .int .i64 d, .int .i64 ac, .int .i64 en, .int .i64 cr, .int .i64 ex, .int .i64 dn, .int .i64 wt], .int .i64 t] w (TickRes a b c d ac en cr ex X Y pa pb pc pd w)) := Lib.hid (fun w => by
        have h := pulse_tick a b c d ac en cr ex dn wt t w
        rw [HN.out, hX, hY, hPa, hPb, hPc, hPd] at h
        exact h)
      have HMD : Hid (∀ w, Calls Try.prog 32 #[.agg #[.int .i64 a, .int .i64 b, .int .i64 c, .int .i64 d, .int .i64 ac, .int .i64 en, .int .i64 cr, .int .i64 ex, .int .i64 X, .int .i64 Y]] w fun e w' => e = .returned (.agg #[.int .i64 (atM n dn a + pa), .int .i64 (atM n dn b + pb), .int .i64 (atM n dn c + pc), .int .i64 (atM n dn d + pd)]) ∧ Below w.heap.size w w') := Lib.hid (fun w => by
        have h := pulse_made a b c d ac en cr ex X Y w
        unfold mdV at h
        rw [HN.out, if_pos ⟨n0, hdn.1, hdn.2⟩, if_pos ⟨n0, hdn.1, hdn.2⟩, if_pos ⟨n0, hdn.1, hdn.2⟩, if_pos ⟨n0, hdn.1, hdn.2⟩, ← sa, ← sb, ← sc, ← sd] at h
        exact h)
      have HV : Hid (vdB (blkN a b c d ac en cr ex) ac en cr ex dn wt t = true) := by show _ = _; rw [HN.out]; exact hvd
      have HD : Hid (enB (blkN a b c d ac en cr ex) dn = false) := by show _ = _; rw [HN.out]; exact hen
      have HSU : Hid (atM n dn a + pa = atM n X a ∧ atM n dn b + pb = atM n X b ∧ atM n dn c + pc = atM n X c ∧ atM n dn d + pd = atM n X d) := Lib.hid ⟨sa, sb, sc, sd⟩
      generalize hOa : atM n dn a = oa at *
      generalize hOb : atM n dn b = ob at *
      generalize hOc : atM n dn c = oc at *
      generalize hOd : atM n dn d = od at *
      have HNX := Lib.hid hnx
      clear hinv hnx hvd hen hdn sa sb sc sd hX hY hPa hPb hPc hPd hOa hOb hOc hOd hon
      go_wp2_with (first | (go_at_call 28; refine (pulse_ended _ _ _ _ _ _ _ _ _ _ _).mono ?_; rw [HD.out]; rintro e w3 ⟨rfl, hb3⟩; have z3 := hb3.size; (try simp at z3); have L3a := live_below hb3 (b := w.heap.size) (by (repeat (first | with_reducible assumption | ((with_reducible apply live_new) <;> (first | with_reducible rfl | (focus (simp; done)))) | with_reducible apply live_alloc | with_reducible apply live_drew | with_reducible apply live_drewN | ((with_reducible apply live_set_other); (case hb => first | omega | (simp; done))) | with_reducible apply live_set_same | (focus (simp; done))))); obtain ⟨p3a, e3a, f3a⟩ := id L3a; have L3b := live_below hb3 (b := w1.heap.size) (by (repeat (first | with_reducible assumption | ((with_reducible apply live_new) <;> (first | with_reducible rfl | (focus (simp; done)))) | with_reducible apply live_alloc | with_reducible apply live_drew | with_reducible apply live_drewN | ((with_reducible apply live_set_other); (case hb => first | omega | (simp; done))) | with_reducible apply live_set_same | (focus (simp; done))))); obtain ⟨p3b, e3b, f3b⟩ := id L3b; have L3c := live_below hb3 (b := w2.heap.size) (by (repeat (first | with_reducible assumption | ((with_reducible apply live_new) <;> (first | with_reducible rfl | (focus (simp; done)))) | with_reducible apply live_alloc | with_reducible apply live_drew | with_reducible apply live_drewN | ((with_reducible apply live_set_other); (case hb => first | omega | (simp; done))) | with_reducible apply live_set_same | (focus (simp; done))))); obtain ⟨p3c, e3c, f3c⟩ := id L3c) | (go_at_call 29; refine (ref46_valid _ _ _ _ _ _ _ _ _ _ _ _).mono ?_; rw [HV.out]; rintro e w4 ⟨rfl, hb4⟩; have z4 := hb4.size; (try simp at z4); have L4a := live_below hb4 (b := w.heap.size) (by (repeat (first | with_reducible assumption | ((with_reducible apply live_new) <;> (first | with_reducible rfl | (focus (simp; done)))) | with_reducible apply live_alloc | with_reducible apply live_drew | with_reducible apply live_drewN | ((with_reducible apply live_set_other); (case hb => first | omega | (simp; done))) | with_reducible apply live_set_same | (focus (simp; done))))); obtain ⟨p4a, e4a, f4a⟩ := id L4a; have L4b := live_below hb4 (b := w1.heap.size) (by (repeat (first | with_reducible assumption | ((with_reducible apply live_new) <;> (first | with_reducible rfl | (focus (simp; done)))) | with_reducible apply live_alloc | with_reducible apply live_drew | with_reducible apply live_drewN | ((with_reducible apply live_set_other); (case hb => first | omega | (simp; done))) | with_reducible apply live_set_same | (focus (simp; done))))); obtain ⟨p4b, e4b, f4b⟩ := id L4b; have L4c := live_below hb4 (b := w2.heap.size) (by (repeat (first | with_reducible assumption | ((with_reducible apply live_new) <;> (first | with_reducible rfl | (focus (simp; done)))) | with_reducible apply live_alloc | with_reducible apply live_drew | with_reducible apply live_drewN | ((with_reducible apply live_set_other); (case hb => first | omega | (simp; done))) | with_reducible apply live_set_same | (focus (simp; done))))); obtain ⟨p4c, e4c, f4c⟩ := id L4c) | (go_at_call 30; refine (HTK.out _).mono ?_; rintro e w5 ⟨rfl, hb5⟩; have z5 := hb5.size; (try simp at z5); have L5a := live_below hb5 (b := w.heap.size) (by (repeat (first | with_reducible assumption | ((with_reducible apply live_new) <;> (first | with_reducible rfl | (focus (simp; done)))) | with_reducible apply live_alloc | with_reducible apply live_drew | with_reducible apply live_drewN | ((with_reducible apply live_set_other); (case hb => first | omega | (simp; done))) | with_reducible apply live_set_same | (focus (simp; done))))); obtain ⟨p5a, e5a, f5a⟩ := id L5a; have L5b := live_below hb5 (b := w1.heap.size) (by (repeat (first | with_reducible assumption | ((with_reducible apply live_new) <;> (first | with_reducible rfl | (focus (simp; done)))) | with_reducible apply live_alloc | with_reducible apply live_drew | with_reducible apply live_drewN | ((with_reducible apply live_set_other); (case hb => first | omega | (simp; done))) | with_reducible apply live_set_same | (focus (simp; done))))); obtain ⟨p5b, e5b, f5b⟩ := id L5b; have L5c := live_below hb5 (b := w2.heap.size) (by (repeat (first | with_reducible assumption | ((with_reducible apply live_new) <;> (first | with_reducible rfl | (focus (simp; done)))) | with_reducible apply live_alloc | with_reducible apply live_drew | with_reducible apply live_drewN | ((with_reducible apply live_set_other); (case hb => first | omega | (simp; done))) | with_reducible apply live_set_same | (focus (simp; done))))); obtain ⟨p5c, e5c, f5c⟩ := id L5c))
      refine wp_loop_rounds 5 ?_
      iterate 4
        rw [rounds_succ]
        go_wp2
      rw [rounds_succ]
      go_wp2_with (go_at_call 31; refine (law46_add _ _ _ _ _ _ _ _ _ ⟨?_, ?_⟩ ⟨?_, ?_⟩ ⟨?_, ?_⟩ ⟨?_, ?_⟩ ⟨?_, ?_⟩ ⟨?_, ?_⟩ ⟨?_, ?_⟩ ⟨?_, ?_⟩).mono ?_; (iterate 16 (· omega)); rintro e w6 ⟨rfl, hb6⟩; have z6 := hb6.size; (try simp at z6); have L6a := live_below hb6 (b := w.heap.size) (by (repeat (first | with_reducible assumption | ((with_reducible apply live_new) <;> (first | with_reducible rfl | (focus (simp; done)))) | with_reducible apply live_alloc | with_reducible apply live_drew | with_reducible apply live_drewN | ((with_reducible apply live_set_other); (case hb => first | omega | (simp; done))) | with_reducible apply live_set_same | (focus (simp; done))))); obtain ⟨p6a, e6a, f6a⟩ := id L6a; have L6b := live_below hb6 (b := w1.heap.size) (by (repeat (first | with_reducible assumption | ((with_reducible apply live_new) <;> (first | with_reducible rfl | (focus (simp; done)))) | with_reducible apply live_alloc | with_reducible apply live_drew | with_reducible apply live_drewN | ((with_reducible apply live_set_other); (case hb => first | omega | (simp; done))) | with_reducible apply live_set_same | (focus (simp; done))))); obtain ⟨p6b, e6b, f6b⟩ := id L6b; have L6c := live_below hb6 (b := w2.heap.size) (by (repeat (first | with_reducible assumption | ((with_reducible apply live_new) <;> (first | with_reducible rfl | (focus (simp; done)))) | with_reducible apply live_alloc | with_reducible apply live_drew | with_reducible apply live_drewN | ((with_reducible apply live_set_other); (case hb => first | omega | (simp; done))) | with_reducible apply live_set_same | (focus (simp; done))))); obtain ⟨p6c, e6c, f6c⟩ := id L6c; have L6d := live_below hb6 (b := w5.heap.size) (by (repeat (first | with_reducible assumption | ((with_reducible apply live_new) <;> (first | with_reducible rfl | (focus (simp; done)))) | with_reducible apply live_alloc | with_reducible apply live_drew | with_reducible apply live_drewN | ((with_reducible apply live_set_other); (case hb => first | omega | (simp; done))) | with_reducible apply live_set_same | (focus (simp; done))))); obtain ⟨p6d, e6d, f6d⟩ := id L6d)
      refine gen_world (fun wx => Live wx w.heap.size #[.int .i64 a, .int .i64 b, .int .i64 c, .int .i64 d, .int .i64 ac, .int .i64 en, .int .i64 cr, .int .i64 ex] ∧ Live wx w1.heap.size #[.int .i64 a, .int .i64 b, .int .i64 c, .int .i64 d, .int .i64 ac, .int .i64 en, .int .i64 cr, .int .i64 ex, .int .i64 X, .int .i64 Y] ∧ Live wx w2.heap.size #[.int .i64 (oa + pa), .int .i64 (ob + pb), .int .i64 (oc + pc), .int .i64 (od + pd)] ∧ Below w.heap.size w wx) ?_ ?_
      · refine ⟨?_, ?_, ?_, ?_⟩
        · (repeat (first | with_reducible assumption | ((with_reducible apply live_new) <;> (first | with_reducible rfl | (focus (simp; done)))) | with_reducible apply live_alloc | with_reducible apply live_drew | with_reducible apply live_drewN | with_reducible apply live_put10 | with_reducible apply live_put8 | with_reducible apply live_put4 | ((with_reducible apply live_put10_other); (case hb => first | omega | (simp; done))) | ((with_reducible apply live_put8_other); (case hb => first | omega | (simp; done))) | ((with_reducible apply live_put4_other); (case hb => first | omega | (simp; done))) | ((with_reducible apply live_set_other); (case hb => first | omega | (simp; done))) | (focus (simp; done))))
        · (repeat (first | with_reducible assumption | ((with_reducible apply live_new) <;> (first | with_reducible rfl | (focus (simp; done)))) | with_reducible apply live_alloc | with_reducible apply live_drew | with_reducible apply live_drewN | with_reducible apply live_put10 | with_reducible apply live_put8 | with_reducible apply live_put4 | ((with_reducible apply live_put10_other); (case hb => first | omega | (simp; done))) | ((with_reducible apply live_put8_other); (case hb => first | omega | (simp; done))) | ((with_reducible apply live_put4_other); (case hb => first | omega | (simp; done))) | ((with_reducible apply live_set_other); (case hb => first | omega | (simp; done))) | (focus (simp; done))))
        · (repeat (first | with_reducible assumption | ((with_reducible apply live_new) <;> (first | with_reducible rfl | (focus (simp; done)))) | with_reducible apply live_alloc | with_reducible apply live_drew | with_reducible apply live_drewN | with_reducible apply live_put10 | with_reducible apply live_put8 | with_reducible apply live_put4 | ((with_reducible apply live_put10_other); (case hb => first | omega | (simp; done))) | ((with_reducible apply live_put8_other); (case hb => first | omega | (simp; done))) | ((with_reducible apply live_put4_other); (case hb => first | omega | (simp; done))) | ((with_reducible apply live_set_other); (case hb => first | omega | (simp; done))) | (focus (simp; done))))
        · refine Below.trans hb0 ?_
          (repeat' (first | with_reducible exact Below.refl _ _ | with_reducible refine Below.drew ?_ | with_reducible refine below_drewN ?_ _ | with_reducible refine Below.alloc ?_ ?_ _ | with_reducible refine Below.setCell ?_ ?_ _ | with_reducible refine Below.trans ?_ (Below.mono (by with_reducible assumption) ?_) | (simp; done) | (simp; omega) | omega))
      · rintro w7 ⟨L7a, L7b, L7c, hb7⟩
        obtain ⟨p7a, e7a, f7a⟩ := id L7a
        obtain ⟨p7b, e7b, f7b⟩ := id L7b
        obtain ⟨p7c, e7c, f7c⟩ := id L7c
        clear L0 p0 e0 f0 LM pm em fm LS ps es fs L3a p3a e3a f3a L3b p3b e3b f3b L3c p3c e3c f3c L4a p4a e4a f4a L4b p4b e4b f4b L4c p4c e4c f4c L5a p5a e5a f5a L5b p5b e5b f5b L5c p5c e5c f5c L6a p6a e6a f6a L6b p6b e6b f6b L6c p6c e6c f6c L6d p6d e6d f6d
        go_wp2_with fail
        go_region_held3 (fun w' => (w'.cell? ⟨w1.heap.size, 0, none⟩ = some (.int .i64 a) ∧ w'.cell? ⟨w1.heap.size, 1, none⟩ = some (.int .i64 b) ∧ w'.cell? ⟨w1.heap.size, 2, none⟩ = some (.int .i64 c) ∧ w'.cell? ⟨w1.heap.size, 3, none⟩ = some (.int .i64 d) ∧ w'.cell? ⟨w1.heap.size, 4, none⟩ = some (.int .i64 ac) ∧ w'.cell? ⟨w1.heap.size, 5, none⟩ = some (.int .i64 en) ∧ w'.cell? ⟨w1.heap.size, 6, none⟩ = some (.int .i64 cr) ∧ w'.cell? ⟨w1.heap.size, 7, none⟩ = some (.int .i64 ex) ∧ w'.cell? ⟨w1.heap.size, 8, none⟩ = some (.int .i64 X) ∧ w'.cell? ⟨w1.heap.size, 9, none⟩ = some (.int .i64 Y)) ∧ (w'.cell? ⟨w2.heap.size, 0, none⟩ = some (.int .i64 (oa + pa)) ∧ w'.cell? ⟨w2.heap.size, 1, none⟩ = some (.int .i64 (ob + pb)) ∧ w'.cell? ⟨w2.heap.size, 2, none⟩ = some (.int .i64 (oc + pc)) ∧ w'.cell? ⟨w2.heap.size, 3, none⟩ = some (.int .i64 (od + pd)))) (first | (focus ((with_reducible refine ⟨?_, ?_⟩) <;> (first | ((with_reducible apply live_ten); (repeat (first | with_reducible assumption | ((with_reducible apply live_new) <;> (first | with_reducible rfl | (focus (simp; done)))) | with_reducible apply live_alloc | with_reducible apply live_drew | with_reducible apply live_drewN | ((with_reducible apply live_set_other); (case hb => first | omega | (simp; done))) | with_reducible apply live_set_same | (focus (simp; done)))); done) | ((with_reducible apply live_four); (repeat (first | with_reducible assumption | ((with_reducible apply live_new) <;> (first | with_reducible rfl | (focus (simp; done)))) | with_reducible apply live_alloc | with_reducible apply live_drew | with_reducible apply live_drewN | ((with_reducible apply live_set_other); (case hb => first | omega | (simp; done))) | with_reducible apply live_set_same | (focus (simp; done)))); done)))) | go_keep)
          ((go_at_call 32; refine (HMD.out _).mono ?_; rintro e w8 ⟨rfl, hb8⟩; have z8 := hb8.size; (try simp at z8); have L8a := live_below hb8 (b := w.heap.size) (by (repeat (first | with_reducible assumption | ((with_reducible apply live_new) <;> (first | with_reducible rfl | (focus (simp; done)))) | with_reducible apply live_alloc | with_reducible apply live_drew | with_reducible apply live_drewN | ((with_reducible apply live_set_other); (case hb => first | omega | (simp; done))) | with_reducible apply live_set_same | (focus (simp; done))))); obtain ⟨p8a, e8a, f8a⟩ := id L8a; have L8b := live_below hb8 (b := w1.heap.size) (by (repeat (first | with_reducible assumption | ((with_reducible apply live_new) <;> (first | with_reducible rfl | (focus (simp; done)))) | with_reducible apply live_alloc | with_reducible apply live_drew | with_reducible apply live_drewN | ((with_reducible apply live_set_other); (case hb => first | omega | (simp; done))) | with_reducible apply live_set_same | (focus (simp; done))))); obtain ⟨p8b, e8b, f8b⟩ := id L8b; have L8c := live_below hb8 (b := w2.heap.size) (by (repeat (first | with_reducible assumption | ((with_reducible apply live_new) <;> (first | with_reducible rfl | (focus (simp; done)))) | with_reducible apply live_alloc | with_reducible apply live_drew | with_reducible apply live_drewN | ((with_reducible apply live_set_other); (case hb => first | omega | (simp; done))) | with_reducible apply live_set_same | (focus (simp; done))))); obtain ⟨p8c, e8c, f8c⟩ := id L8c))
        all_goals go_wp2_with fail
        all_goals go_roundw
        case rel => exact ⟨k + 1, X, Y, rfl, by omega, by omega, HNX.out, by (repeat (first | with_reducible assumption | ((with_reducible apply live_new) <;> (first | with_reducible rfl | (focus (simp; done)))) | with_reducible apply live_alloc | with_reducible apply live_drew | with_reducible apply live_drewN | ((with_reducible apply live_set_other); (case hb => first | omega | (simp; done))) | with_reducible apply live_set_same | (focus (simp; done)))), by (repeat (first | with_reducible assumption | ((with_reducible apply live_new) <;> (first | with_reducible rfl | (focus (simp; done)))) | with_reducible apply live_alloc | with_reducible apply live_drew | with_reducible apply live_drewN | ((with_reducible apply live_set_other); (case hb => first | omega | (simp; done))) | with_reducible apply live_set_same | (focus (simp; done)))), by rw [← HSU.out.1, ← HSU.out.2.1, ← HSU.out.2.2.1, ← HSU.out.2.2.2]; (repeat (first | with_reducible assumption | ((with_reducible apply live_new) <;> (first | with_reducible rfl | (focus (simp; done)))) | with_reducible apply live_alloc | with_reducible apply live_drew | with_reducible apply live_drewN | ((with_reducible apply live_set_other); (case hb => first | omega | (simp; done))) | with_reducible apply live_set_same | (focus (simp; done)))), by refine Below.trans hb7 ?_; (repeat' (first | with_reducible exact Below.refl _ _ | with_reducible refine Below.drew ?_ | with_reducible refine below_drewN ?_ _ | with_reducible refine Below.alloc ?_ ?_ _ | with_reducible refine Below.setCell ?_ ?_ _ | with_reducible refine Below.trans ?_ (Below.mono (by with_reducible assumption) ?_) | (simp; done) | (simp; omega) | omega))⟩
        case measure => simp [intOf]; omega
    · obtain ⟨rfl, rfl⟩ := minv_end n ac en cr ex t k dn wt hinv (by rw [HT.out]; omega) t0 t1 a0 a1 c0 c1 e0' x0 n1
      have LS' : Live wr w2.heap.size #[.int .i64 a, .int .i64 b, .int .i64 c, .int .i64 d] := by
        have h := LS
        rw [HF.out, HF.out, HF.out, HF.out] at h
        exact h
      clear LS ps es fs
      obtain ⟨ps, es, fs⟩ := id LS'
      have HTK : Hid (∀ w, Calls Try.prog 30 #[.agg #[.int .i64 a, .int .i64 b, .int .i64 c, .int .i64 d, .int .i64 ac, .int .i64 en, .int .i64 cr, .int .i64 ex, .int .i64 dn, .int .i64 0], .int .i64 t] w (TickRes a b c d ac en cr ex dn 0 0 0 0 0 w)) := Lib.hid (fun w => pulse_tick_off a b c d ac en cr ex dn 0 t w (.inr (by rw [HN.out]; unfold plOn; simp)))
      have HD : Hid (enB (blkN a b c d ac en cr ex) dn = true) := by show _ = _; rw [HN.out]; unfold enB; simp; omega
      have HKN : k = N := by omega
      clear hinv
      subst HKN
      go_wp2_with (first | (go_at_call 30; refine (HTK.out _).mono ?_; rintro e w3 ⟨rfl, hb3⟩; have z3 := hb3.size; (try simp at z3); have L3a := live_below hb3 (b := w.heap.size) (by (repeat (first | with_reducible assumption | ((with_reducible apply live_new) <;> (first | with_reducible rfl | (focus (simp; done)))) | with_reducible apply live_alloc | with_reducible apply live_drew | with_reducible apply live_drewN | ((with_reducible apply live_set_other); (case hb => first | omega | (simp; done))) | with_reducible apply live_set_same | (focus (simp; done))))); obtain ⟨p3a, e3a, f3a⟩ := id L3a; have L3b := live_below hb3 (b := w1.heap.size) (by (repeat (first | with_reducible assumption | ((with_reducible apply live_new) <;> (first | with_reducible rfl | (focus (simp; done)))) | with_reducible apply live_alloc | with_reducible apply live_drew | with_reducible apply live_drewN | ((with_reducible apply live_set_other); (case hb => first | omega | (simp; done))) | with_reducible apply live_set_same | (focus (simp; done))))); obtain ⟨p3b, e3b, f3b⟩ := id L3b; have L3c := live_below hb3 (b := w2.heap.size) (by (repeat (first | with_reducible assumption | ((with_reducible apply live_new) <;> (first | with_reducible rfl | (focus (simp; done)))) | with_reducible apply live_alloc | with_reducible apply live_drew | with_reducible apply live_drewN | ((with_reducible apply live_set_other); (case hb => first | omega | (simp; done))) | with_reducible apply live_set_same | (focus (simp; done))))); obtain ⟨p3c, e3c, f3c⟩ := id L3c) | (go_at_call 28; refine (pulse_ended _ _ _ _ _ _ _ _ _ _ _).mono ?_; rw [HD.out]; rintro e w4 ⟨rfl, hb4⟩; have z4 := hb4.size; (try simp at z4); have L4a := live_below hb4 (b := w.heap.size) (by (repeat (first | with_reducible assumption | ((with_reducible apply live_new) <;> (first | with_reducible rfl | (focus (simp; done)))) | with_reducible apply live_alloc | with_reducible apply live_drew | with_reducible apply live_drewN | ((with_reducible apply live_set_other); (case hb => first | omega | (simp; done))) | with_reducible apply live_set_same | (focus (simp; done))))); obtain ⟨p4a, e4a, f4a⟩ := id L4a; have L4b := live_below hb4 (b := w1.heap.size) (by (repeat (first | with_reducible assumption | ((with_reducible apply live_new) <;> (first | with_reducible rfl | (focus (simp; done)))) | with_reducible apply live_alloc | with_reducible apply live_drew | with_reducible apply live_drewN | ((with_reducible apply live_set_other); (case hb => first | omega | (simp; done))) | with_reducible apply live_set_same | (focus (simp; done))))); obtain ⟨p4b, e4b, f4b⟩ := id L4b; have L4c := live_below hb4 (b := w2.heap.size) (by (repeat (first | with_reducible assumption | ((with_reducible apply live_new) <;> (first | with_reducible rfl | (focus (simp; done)))) | with_reducible apply live_alloc | with_reducible apply live_drew | with_reducible apply live_drewN | ((with_reducible apply live_set_other); (case hb => first | omega | (simp; done))) | with_reducible apply live_set_same | (focus (simp; done))))); obtain ⟨p4c, e4c, f4c⟩ := id L4c; have L4d := live_below hb4 (b := w3.heap.size) (by (repeat (first | with_reducible assumption | ((with_reducible apply live_new) <;> (first | with_reducible rfl | (focus (simp; done)))) | with_reducible apply live_alloc | with_reducible apply live_drew | with_reducible apply live_drewN | ((with_reducible apply live_set_other); (case hb => first | omega | (simp; done))) | with_reducible apply live_set_same | (focus (simp; done))))); obtain ⟨p4d, e4d, f4d⟩ := id L4d; have L4e := live_below hb4 (b := w3.heap.size + 1) (by (repeat (first | with_reducible assumption | ((with_reducible apply live_new) <;> (first | with_reducible rfl | (focus (simp; done)))) | with_reducible apply live_alloc | with_reducible apply live_drew | with_reducible apply live_drewN | ((with_reducible apply live_set_other); (case hb => first | omega | (simp; done))) | with_reducible apply live_set_same | (focus (simp; done))))); obtain ⟨p4e, e4e, f4e⟩ := id L4e) | (go_at_call 26; refine (law46_works _).mono ?_; rintro e w9 ⟨rfl, hb9⟩; have z9 := hb9.size; (try simp at z9); have L9a := live_below hb9 (b := w.heap.size) (by (repeat (first | with_reducible assumption | ((with_reducible apply live_new) <;> (first | with_reducible rfl | (focus (simp; done)))) | with_reducible apply live_alloc | with_reducible apply live_drew | with_reducible apply live_drewN | ((with_reducible apply live_set_other); (case hb => first | omega | (simp; done))) | with_reducible apply live_set_same | (focus (simp; done))))); obtain ⟨p9a, e9a, f9a⟩ := id L9a))
      all_goals go_ret
      all_goals refine ⟨rfl, ?_⟩
      all_goals refine Below.trans hb0 ?_
      all_goals (repeat' (first | with_reducible exact Below.refl _ _ | with_reducible refine Below.drew ?_ | with_reducible refine below_drewN ?_ _ | with_reducible refine Below.alloc ?_ ?_ _ | with_reducible refine Below.setCell ?_ ?_ _ | with_reducible refine Below.trans ?_ (Below.mono (by with_reducible assumption) ?_) | (simp; done) | (simp; omega) | omega))

theorem at_in (n y x : Int) (n0 : 1 ≤ n) (n1 : n ≤ 16777216) (h0 : 0 ≤ y) (h1 : y ≤ n) (hx : ab x ≤ n) : -16777216 ≤ atM n y x ∧ atM n y x ≤ 16777216 := by
  unfold atM
  rw [if_neg (by omega)]
  have e : atClamp n y = y := by unfold atClamp; omega
  rw [e]
  refine atI_le n y x n0 h0 h1 ?_
  unfold ab at hx
  omega

theorem walk (a b c d ac en cr ex t : Int) (w : World) : Calls Try.prog 9 #[.agg #[.int .i64 a, .int .i64 b, .int .i64 c, .int .i64 d, .int .i64 ac, .int .i64 en, .int .i64 cr, .int .i64 ex], .int .i64 t] w fun e w' => e = .returned (.bool true) ∧ Below w.heap.size w w' := by
  by_cases h : blkValid a b c d ac en cr ex = false ∨ possB t = false
  · exact bad a b c d ac en cr ex t w h
  · have hv : blkValid a b c d ac en cr ex = true := by
      cases hv : blkValid a b c d ac en cr ex
      · exact absurd (.inl hv) h
      · rfl
    have hp : possB t = true := by
      cases hp : possB t
      · exact absurd (.inr hp) h
      · rfl
    by_cases hl : durE (blkValid a b c d ac en cr ex) (ddaDom a b c d) t ≠ 0 ∨ 3000 < durN (blkValid a b c d ac en cr ex) (ddaDom a b c d) ac en cr ex t
    · exact long a b c d ac en cr ex t w hv hp hl
    · obtain ⟨hn, n0⟩ := blk_pos _ _ _ _ _ _ _ _ hv
      have n1 := (blkN_in a b c d ac en cr ex).2
      have hb := hv
      simp [blkValid, blkSound] at hb
      obtain ⟨⟨hdv, a0, a1, c0, c1⟩, e0', e1', x0, x1⟩ := hb
      have hp2 := hp
      simp [possB] at hp2
      have hle := dom_le a b c d hdv
      have hE : durE (blkValid a b c d ac en cr ex) (ddaDom a b c d) t = 0 := by omega
      have h65 : ddaDom a b c d ≤ 65536 := by
        unfold durE at hE
        rw [hv, if_pos ⟨rfl, hp2.1, hp2.2⟩] at hE
        by_cases h6 : ddaDom a b c d ≤ 65536
        · exact h6
        · rw [if_neg h6] at hE; omega
      have hU : durN (blkValid a b c d ac en cr ex) (ddaDom a b c d) ac en cr ex t = tEnd (blkN a b c d ac en cr ex) ac en cr ex t (blkN a b c d ac en cr ex) := by
        unfold durN
        rw [hv, if_pos ⟨rfl, hp2.1, hp2.2, h65⟩, hn]; rfl
      have hU0 : 0 ≤ durN (blkValid a b c d ac en cr ex) (ddaDom a b c d) ac en cr ex t := by
        unfold durN
        rw [hv, if_pos ⟨rfl, hp2.1, hp2.2, h65⟩]
        exact (durS_in (ddaDom a b c d) ac en cr ex t a0 a1 c0 c1 e0' x0 (by omega) hp2.1 hp2.2 (ddaDom a b c d).toNat (by omega)).1
      rw [← hn] at hle
      exact many a b c d ac en cr ex t _ _ w hv rfl n0 n1 hp2.1 hp2.2 a0 a1 c0 c1 e0' x0 hle.1 hle.2.1 hle.2.2.1 hle.2.2.2 hU.symm hU0 (by omega) rfl hE (fun y h0 h1 x hx => at_in _ y x n0 n1 h0 h1 hx)

set_option maxRecDepth 100000 in
theorem lifted (os : Os) (started : os.Started) (H : Type) (enc : TypeId × Value → H) :
    ReturnsInHanded {} Try.checked os 9 .any (Rows.pulseExactSpec.pre6 enc Try.prog Try.f9 Rows.pulseExactRow.domain false) (Rows.pulseExactSpec.post enc Try.prog Try.f9 false true false false) := by
  refine returnsInHanded_of_change (C := Try.checked) own started (by kernel_rfl) Try.func9
    (ChangeSpec.witness6 (enc := enc) (C := Try.checked) false ⟨#[], #[.agg #[.int .i64 0, .int .i64 0, .int .i64 0, .int .i64 0, .int .i64 0, .int .i64 0, .int .i64 0, .int .i64 0], .int .i64 0], []⟩ 8 (by kernel_rfl) (by kernel_rfl) (by kernel_rfl) (by kernel_rfl)) ?_
  intro W base args ds gs before hval0 hW _ _
  have hval : ∀ (j : Nat) t v, Try.f9.params[j]? = some t → args[j]? = some v → Value.okWide Try.prog W .any base t v := hval0
  have hW' := hW
  obtain ⟨p, q, hA0, hV, rfl, _, _⟩ := hW
  have hA : DataW.TrodAll enc Try.prog W 0 (fun _ => true) true Try.f9.params.toList args.toList ds p := hA0
  rw [Try.params9] at hA hval
  obtain ⟨v0, v1, d0, d1, p0, p1, rfl, rfl, rfl, h0, h1⟩ := trodAll_two hA
  clear hA hA0 hval0
  obtain ⟨f0, bf0, rfl⟩ := flat_ints (n := 8) (u := 3) (by kernel_rfl) (by kernel_rfl) (by kernel_rfl) Try.underlying3 (hval 0 24 v0 rfl rfl)
  obtain ⟨a1, rfl, ba1⟩ := int_open Try.underlying3 (hval 1 3 v1 rfl rfl)
  exact (walk (f0 0) (f0 1) (f0 2) (f0 3) (f0 4) (f0 5) (f0 6) (f0 7) a1 W).mono fun e W' ⟨he, hb⟩ => ⟨_, he, law_post laidOut (by kernel_rfl) rfl (fun _ => rfl) rfl Try.underlying4 hW' hb⟩

theorem holds : Rows.PulseExactSaid :=
  OpenClaim.holds_of_wide 9 Try.f9 rfl rfl rfl rfl rfl rfl rfl ⟨rfl, rfl, rfl, rfl, rfl⟩ rfl rfl rfl rfl rfl (by kernel_rfl) Try.func9 (by kernel_rfl)
    (of_decide_eq_true (by kernel_rfl)) (by unfold Func.isWrapper; rw [if_neg (of_decide_eq_false (by kernel_rfl))]; exact ⟨rfl, rfl⟩)
    (fun os started H enc _ => lifted os started H enc)

#print axioms holds
end Go.Proofs.Ytleohgnnbpicjaa.pulseExact
