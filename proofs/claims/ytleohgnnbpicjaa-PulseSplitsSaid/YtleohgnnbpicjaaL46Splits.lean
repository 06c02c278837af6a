/- PulseSplits: what a motion has made and what is left add up to the counts of its block, and what is left has as many steps as were not made, after at most 3000 ticks -/
import Derived.Deep.RegionWith
import Derived.Deep.RegionHeld3
import Derived.Deep.DeepCutAuto
import Derived.Deep.DrawnRows
import Derived.Handy
import Derived.IntWalk
import Derived.Test.YtleohgnnbpicjaaBase
import Derived.Test.YtleohgnnbpicjaaKit5
import Derived.Test.YtleohgnnbpicjaaL46Works
import Derived.Test.YtleohgnnbpicjaaPulPlain
namespace Go.Proofs.Ytleohgnnbpicjaa.pulseSplits
open Go.ChangeShapes Go.WideShapes Go.ChangeAt Go.RowKit
set_option linter.unusedVariables false

attribute [local go_sem] cell_past1 cell_past2 cell_past3 cell_past4 froz_past1 froz_past2 froz_past3
attribute [local go_sem ↓] Go.wp_at_zero Go.wp_at_succ

theorem at_gap (n i x : Int) (hn : 1 ≤ n) (hx : ab x ≤ n) : ∀ j : Nat, (2 * (i + j) * ab x + n) / (2 * n) ≤ (2 * i * ab x + n) / (2 * n) + j
  | 0 => by simp
  | j + 1 => by
    have h := at_gap n i x hn hx j
    have s := (at_step n (i + j) x hn hx).2
    rw [show i + ((j + 1 : Nat) : Int) = i + j + 1 from by omega]
    omega
theorem at_end (n x : Int) (hn : 1 ≤ n) : (2 * n * ab x + n) / (2 * n) = ab x := by
  rw [Int.add_comm, Int.mul_comm (2 * n), Int.add_mul_ediv_right _ _ (by omega), Int.ediv_eq_zero_of_lt (by omega) (by omega)]; omega
theorem at_top (n i x : Int) (hn : 1 ≤ n) (hx : ab x = n) : (2 * i * ab x + n) / (2 * n) = i := by
  rw [hx, show 2 * i * n + n = n + i * (2 * n) from by rw [Int.mul_comm i, Int.mul_assoc, Int.mul_comm i n, ← Int.mul_assoc]; omega, Int.add_mul_ediv_right _ _ (by omega), Int.ediv_eq_zero_of_lt (by omega) (by omega)]; omega
/-- What is left of a motor's steps. -/
theorem rest_in (n i x : Int) (hn : 1 ≤ n) (h0 : 0 ≤ i) (h1 : i ≤ n) (hx : ab x ≤ n) : 0 ≤ ab (x - atM n i x) ∧ ab (x - atM n i x) ≤ n - i ∧ (ab x = n → ab (x - atM n i x) = n - i) ∧ -n ≤ atM n i x ∧ atM n i x ≤ n := by
  have c1 : atClamp n i = i := by unfold atClamp; omega
  have hl := at_le n i x hn h0 h1
  have hg := at_gap n i x hn hx (n - i).toNat
  rw [show i + ((n - i).toNat : Int) = n from by omega, at_end n x hn] at hg
  have ht := at_top n i x hn
  unfold atM
  rw [if_neg (by omega), c1]
  unfold atI
  generalize (2 * i * ab x + n) / (2 * n) = f at *
  have e : ab (x - if x < 0 then -f else f) = ab x - f := by
    unfold ab at *
    split <;> omega
  rw [e]
  refine ⟨by omega, by omega, fun h => by have := ht h; omega, ?_, ?_⟩
  all_goals split <;> omega
theorem some_top (a b c d : Int) (h : ddaValid a b c d = true) : ab a = ddaDom a b c d ∨ ab b = ddaDom a b c d ∨ ab c = ddaDom a b c d ∨ ab d = ddaDom a b c d := by
  have hp := ddaDom_pos a b c d h
  unfold ddaDom at *; rw [if_pos h] at *; unfold dom4 at *; omega

/-- The block that is left is valid, and has n - i steps. -/
theorem rest_block (a b c d n i : Int) (hv : ddaValid a b c d = true) (hD : ddaDom a b c d = n) (n0 : 1 ≤ n) (n1 : n ≤ 16777216) (h0 : 0 ≤ i) (h1 : i < n) :
    ddaValid (a - atM n i a) (b - atM n i b) (c - atM n i c) (d - atM n i d) = true ∧ ddaDom (a - atM n i a) (b - atM n i b) (c - atM n i c) (d - atM n i d) = n - i := by
  have hle := dom_le a b c d hv
  have htop := some_top a b c d hv
  rw [hD] at hle htop
  obtain ⟨p1, p2, p3, _⟩ := rest_in n i a n0 h0 (by omega) hle.1
  obtain ⟨q1, q2, q3, _⟩ := rest_in n i b n0 h0 (by omega) hle.2.1
  obtain ⟨r1, r2, r3, _⟩ := rest_in n i c n0 h0 (by omega) hle.2.2.1
  obtain ⟨s1, s2, s3, _⟩ := rest_in n i d n0 h0 (by omega) hle.2.2.2
  generalize a - atM n i a = A at *
  generalize b - atM n i b = B at *
  generalize c - atM n i c = C at *
  generalize d - atM n i d = D at *
  have hm : dom4 A B C D = n - i := by unfold dom4; omega
  have hok : ddaValid A B C D = true := by
    unfold ab at *
    unfold ddaValid
    simp
    omega
  exact ⟨hok, by unfold ddaDom; rw [if_pos hok, hm]⟩

set_option maxRecDepth 100000 in
set_option maxHeartbeats 8000000 in
theorem bad (a b c d ac en cr ex t q : Int) (w : World) (h : blkValid a b c d ac en cr ex = false ∨ possB t = false) :
    Calls Try.prog 14 #[.agg #[.int .i64 a, .int .i64 b, .int .i64 c, .int .i64 d, .int .i64 ac, .int .i64 en, .int .i64 cr, .int .i64 ex], .int .i64 t, .int .i64 q] w fun e w' => e = .returned (.bool true) ∧ Below w.heap.size w w' := by
  have HST := Lib.hid (fun w => pulse_start_bad a b c d ac en cr ex t w h)
  clear h
  go_enter Try.func14, Try.ntmps14
  go_wp2_with (first | (go_at_call 25; refine (HST.out _).mono ?_; rintro e w1 ⟨rfl, hb1⟩; have z1 := hb1.size; (try simp at z1); have L1a := live_below hb1 (b := w.heap.size) (by (repeat (first | with_reducible assumption | ((with_reducible apply live_new) <;> (first | with_reducible rfl | (focus (simp; done)))) | with_reducible apply live_alloc | with_reducible apply live_drew | with_reducible apply live_drewN | ((with_reducible apply live_set_other); (case hb => first | omega | (simp; done))) | with_reducible apply live_set_same | (focus (simp; done))))); obtain ⟨p1a, e1a, f1a⟩ := id L1a) | (go_at_call 26; refine (law46_works _).mono ?_; rintro e w9 ⟨rfl, hb9⟩; have z9 := hb9.size; (try simp at z9); have L9a := live_below hb9 (b := w.heap.size) (by (repeat (first | with_reducible assumption | ((with_reducible apply live_new) <;> (first | with_reducible rfl | (focus (simp; done)))) | with_reducible apply live_alloc | with_reducible apply live_drew | with_reducible apply live_drewN | ((with_reducible apply live_set_other); (case hb => first | omega | (simp; done))) | with_reducible apply live_set_same | (focus (simp; done))))); obtain ⟨p9a, e9a, f9a⟩ := id L9a))
  all_goals go_ret
  all_goals refine ⟨rfl, ?_⟩
  all_goals (repeat' (first | with_reducible exact Below.refl _ _ | with_reducible refine Below.drew ?_ | with_reducible refine below_drewN ?_ _ | with_reducible refine Below.alloc ?_ ?_ _ | with_reducible refine Below.setCell ?_ ?_ _ | with_reducible refine Below.trans ?_ (Below.mono (by with_reducible assumption) ?_) | (simp; done) | (simp; omega) | omega))

set_option maxRecDepth 100000 in
set_option maxHeartbeats 8000000 in
theorem out (a b c d ac en cr ex t q : Int) (w : World) (hv : blkValid a b c d ac en cr ex = true) (hp : possB t = true) (h : q < 0 ∨ 3000 < q) :
    Calls Try.prog 14 #[.agg #[.int .i64 a, .int .i64 b, .int .i64 c, .int .i64 d, .int .i64 ac, .int .i64 en, .int .i64 cr, .int .i64 ex], .int .i64 t, .int .i64 q] w fun e w' => e = .returned (.bool true) ∧ Below w.heap.size w w' := by
  have HST := Lib.hid (fun w => pulse_start_ok a b c d ac en cr ex t w hv hp)
  clear hv hp
  rcases (by omega : q < 0 ∨ (0 ≤ q ∧ 3000 < q)) with h | ⟨h0, h⟩
  all_goals
    go_enter Try.func14, Try.ntmps14
    go_wp2_with (first | (go_at_call 25; refine (HST.out _).mono ?_; rintro e w1 ⟨rfl, hb1⟩; have z1 := hb1.size; (try simp at z1); have L1a := live_below hb1 (b := w.heap.size) (by (repeat (first | with_reducible assumption | ((with_reducible apply live_new) <;> (first | with_reducible rfl | (focus (simp; done)))) | with_reducible apply live_alloc | with_reducible apply live_drew | with_reducible apply live_drewN | ((with_reducible apply live_set_other); (case hb => first | omega | (simp; done))) | with_reducible apply live_set_same | (focus (simp; done))))); obtain ⟨p1a, e1a, f1a⟩ := id L1a) | (go_at_call 26; refine (law46_works _).mono ?_; rintro e w9 ⟨rfl, hb9⟩; have z9 := hb9.size; (try simp at z9); have L9a := live_below hb9 (b := w.heap.size) (by (repeat (first | with_reducible assumption | ((with_reducible apply live_new) <;> (first | with_reducible rfl | (focus (simp; done)))) | with_reducible apply live_alloc | with_reducible apply live_drew | with_reducible apply live_drewN | ((with_reducible apply live_set_other); (case hb => first | omega | (simp; done))) | with_reducible apply live_set_same | (focus (simp; done))))); obtain ⟨p9a, e9a, f9a⟩ := id L9a))
  all_goals go_ret
  all_goals refine ⟨rfl, ?_⟩
  all_goals (repeat' (first | with_reducible exact Below.refl _ _ | with_reducible refine Below.drew ?_ | with_reducible refine below_drewN ?_ _ | with_reducible refine Below.alloc ?_ ?_ _ | with_reducible refine Below.setCell ?_ ?_ _ | with_reducible refine Below.trans ?_ (Below.mono (by with_reducible assumption) ?_) | (simp; done) | (simp; omega) | omega))

def Rel (n a b c d ac en cr ex t q : Int) (B M : Nat) (w : World) (s9 : Value) (wr : World) : Prop :=
  ∃ k dn wt : Int, s9 = .int .i64 k ∧ 0 ≤ k ∧ k ≤ q ∧ MInv n ac en cr ex t k dn wt ∧ Live wr B #[.int .i64 a, .int .i64 b, .int .i64 c, .int .i64 d, .int .i64 ac, .int .i64 en, .int .i64 cr, .int .i64 ex] ∧ Live wr M #[.int .i64 a, .int .i64 b, .int .i64 c, .int .i64 d, .int .i64 ac, .int .i64 en, .int .i64 cr, .int .i64 ex, .int .i64 dn, .int .i64 wt] ∧ Below w.heap.size w wr

set_option maxRecDepth 100000 in
set_option maxHeartbeats 8000000 in
theorem many (a b c d ac en cr ex t q n : Int) (w : World) (hv : blkValid a b c d ac en cr ex = true) (hN : blkN a b c d ac en cr ex = n) (hD : ddaDom a b c d = n) (hdv : ddaValid a b c d = true) (n0 : 1 ≤ n) (n1 : n ≤ 16777216) (t0 : 1 ≤ t) (t1 : t ≤ 1048576) (a0 : 1 ≤ ac) (a1 : ac ≤ 16777216) (c0 : 1 ≤ cr) (c1 : cr ≤ 1099511627776) (e0' : 0 ≤ en) (x0 : 0 ≤ ex)
    (q0 : 0 ≤ q) (q1 : q ≤ 3000) :
    Calls Try.prog 14 #[.agg #[.int .i64 a, .int .i64 b, .int .i64 c, .int .i64 d, .int .i64 ac, .int .i64 en, .int .i64 cr, .int .i64 ex], .int .i64 t, .int .i64 q] w fun e w' => e = .returned (.bool true) ∧ Below w.heap.size w w' := by
  have hp : possB t = true := by unfold possB; simp; omega
  have hbd : (-16777216 ≤ a ∧ a ≤ 16777216) ∧ (-16777216 ≤ b ∧ b ≤ 16777216) ∧ (-16777216 ≤ c ∧ c ≤ 16777216) ∧ (-16777216 ≤ d ∧ d ≤ 16777216) := by
    have := hdv; simp [ddaValid] at this; omega
  obtain ⟨⟨a2, a3⟩, ⟨b2, b3⟩, ⟨c2, c3⟩, d2, d3⟩ := hbd
  have hle := dom_le a b c d hdv
  rw [hD] at hle
  have hw1 := (plW_ivl n ac en cr ex t 1 t0 t1 (by omega) (by omega) a0 a1 c0 c1 e0' x0 n1).2
  have hst := fun w => pulse_start_ok a b c d ac en cr ex t w hv hp
  rw [hN] at hst
  have hi0 := minv_start n ac en cr ex t n0 t0 t1 a0 a1 c0 c1 e0' x0 n1
  have HQ := Lib.hid hp
  generalize hW : plW n ac en cr ex 1 t = W1 at *
  have HST := Lib.hid hst
  have HN := Lib.hid hN
  have HP := Lib.hid hD
  have HI := Lib.hid hi0
  have HDV := Lib.hid hdv
  have HLE := Lib.hid hle
  clear hst hN hD hi0 hv hp hW hdv hle
  have hq2 : ∀ (x y z u : Int) (w : World), (binOp .eql 22 (.agg #[.int .i64 x, .int .i64 y, .int .i64 z, .int .i64 u]) (.agg #[.int .i64 x, .int .i64 y, .int .i64 z, .int .i64 u])).run Try.prog w = .ok (.bool true) w := fun x y z u w => by
    rw [arr_eql]; simp [same4]
  go_enter Try.func14, Try.ntmps14
  go_wp2_with (go_at_call 25; refine (HST.out _).mono ?_; rintro e w1 ⟨rfl, hb1⟩; have z1 := hb1.size; (try simp at z1); have L1a := live_below hb1 (b := w.heap.size) (by (repeat (first | with_reducible assumption | ((with_reducible apply live_new) <;> (first | with_reducible rfl | (focus (simp; done)))) | with_reducible apply live_alloc | with_reducible apply live_drew | with_reducible apply live_drewN | ((with_reducible apply live_set_other); (case hb => first | omega | (simp; done))) | with_reducible apply live_set_same | (focus (simp; done))))); obtain ⟨p1a, e1a, f1a⟩ := id L1a)
  go_loopw [9] (Rel n a b c d ac en cr ex t q w.heap.size w1.heap.size w) (fun i _ => (q - intOf i).toNat)
  case atStart => exact ⟨0, 0, W1, rfl, by omega, by omega, HI.out, by (repeat (first | with_reducible assumption | ((with_reducible apply live_new) <;> (first | with_reducible rfl | (focus (simp; done)))) | with_reducible apply live_alloc | with_reducible apply live_drew | with_reducible apply live_drewN | ((with_reducible apply live_set_other); (case hb => first | omega | (simp; done))) | with_reducible apply live_set_same | (focus (simp; done)))), by (repeat (first | with_reducible assumption | ((with_reducible apply live_new) <;> (first | with_reducible rfl | (focus (simp; done)))) | with_reducible apply live_alloc | with_reducible apply live_drew | with_reducible apply live_drewN | ((with_reducible apply live_set_other); (case hb => first | omega | (simp; done))) | with_reducible apply live_set_same | (focus (simp; done)))), by (repeat' (first | with_reducible exact Below.refl _ _ | with_reducible refine Below.drew ?_ | with_reducible refine below_drewN ?_ _ | with_reducible refine Below.alloc ?_ ?_ _ | with_reducible refine Below.setCell ?_ ?_ _ | with_reducible refine Below.trans ?_ (Below.mono (by with_reducible assumption) ?_) | (simp; done) | (simp; omega) | omega))⟩
  case round =>
    obtain ⟨k, dn, wt, rfl, k0, k1, hinv, L0, LM, hb0⟩ := hrel
    obtain ⟨p0, e0, f0⟩ := id L0
    obtain ⟨pm, em, fm⟩ := id LM
    by_cases hlt : k < q
    · have hnx := minv_tick n ac en cr ex t k dn wt hinv n0 t0 t1 a0 a1 c0 c1 e0' x0 n1
      have htk := fun w => pulse_tick a b c d ac en cr ex dn wt t w
      rw [HN.out] at htk
      generalize tkDn n ac en cr ex dn wt t = X at *
      generalize tkWt n ac en cr ex dn wt t = Y at *
      generalize tkPu n ac en cr ex dn wt t a = pa at *
      generalize tkPu n ac en cr ex dn wt t b = pb at *
      generalize tkPu n ac en cr ex dn wt t c = pc at *
      generalize tkPu n ac en cr ex dn wt t d = pd at *
      have HTK := Lib.hid htk
      have HNX := Lib.hid hnx
      clear htk hnx hinv
      go_wp2_with (go_at_call 30; refine (HTK.out _).mono ?_; rintro e w5 ⟨rfl, hb5⟩; have z5 := hb5.size; (try simp at z5); have L5a := live_below hb5 (b := w.heap.size) (by (repeat (first | with_reducible assumption | ((with_reducible apply live_new) <;> (first | with_reducible rfl | (focus (simp; done)))) | with_reducible apply live_alloc | with_reducible apply live_drew | with_reducible apply live_drewN | ((with_reducible apply live_set_other); (case hb => first | omega | (simp; done))) | with_reducible apply live_set_same | (focus (simp; done))))); obtain ⟨p5a, e5a, f5a⟩ := id L5a; have L5b := live_below hb5 (b := w1.heap.size) (by (repeat (first | with_reducible assumption | ((with_reducible apply live_new) <;> (first | with_reducible rfl | (focus (simp; done)))) | with_reducible apply live_alloc | with_reducible apply live_drew | with_reducible apply live_drewN | ((with_reducible apply live_set_other); (case hb => first | omega | (simp; done))) | with_reducible apply live_set_same | (focus (simp; done))))); obtain ⟨p5b, e5b, f5b⟩ := id L5b)
      go_roundw
      case rel => exact ⟨k + 1, X, Y, rfl, by omega, by omega, HNX.out, by (repeat (first | with_reducible assumption | ((with_reducible apply live_new) <;> (first | with_reducible rfl | (focus (simp; done)))) | with_reducible apply live_alloc | with_reducible apply live_drew | with_reducible apply live_drewN | with_reducible apply live_put10 | with_reducible apply live_put8 | with_reducible apply live_put4 | ((with_reducible apply live_put10_other); (case hb => first | omega | (simp; done))) | ((with_reducible apply live_put8_other); (case hb => first | omega | (simp; done))) | ((with_reducible apply live_put4_other); (case hb => first | omega | (simp; done))) | ((with_reducible apply live_set_other); (case hb => first | omega | (simp; done))) | (focus (simp; done)))), by (repeat (first | with_reducible assumption | ((with_reducible apply live_new) <;> (first | with_reducible rfl | (focus (simp; done)))) | with_reducible apply live_alloc | with_reducible apply live_drew | with_reducible apply live_drewN | with_reducible apply live_put10 | with_reducible apply live_put8 | with_reducible apply live_put4 | ((with_reducible apply live_put10_other); (case hb => first | omega | (simp; done))) | ((with_reducible apply live_put8_other); (case hb => first | omega | (simp; done))) | ((with_reducible apply live_put4_other); (case hb => first | omega | (simp; done))) | ((with_reducible apply live_set_other); (case hb => first | omega | (simp; done))) | (focus (simp; done)))), by refine Below.trans hb0 ?_; (repeat' (first | with_reducible exact Below.refl _ _ | with_reducible refine Below.drew ?_ | with_reducible refine below_drewN ?_ _ | with_reducible refine Below.alloc ?_ ?_ _ | with_reducible refine Below.setCell ?_ ?_ _ | with_reducible refine Below.trans ?_ (Below.mono (by with_reducible assumption) ?_) | (simp; done) | (simp; omega) | omega))⟩
      case measure => simp [intOf]; omega
    · obtain rfl : k = q := by omega
      have hd : 0 ≤ dn ∧ dn ≤ n := by
        rcases hinv with ⟨h1, h2, _⟩ | ⟨h1, _⟩
        · omega
        · omega
      obtain ⟨d0, d1⟩ := hd
      obtain ⟨ra0, ra1, _, ra2, ra3⟩ := rest_in n dn a n0 d0 d1 HLE.out.1
      obtain ⟨rb0, rb1, _, rb2, rb3⟩ := rest_in n dn b n0 d0 d1 HLE.out.2.1
      obtain ⟨rc0, rc1, _, rc2, rc3⟩ := rest_in n dn c n0 d0 d1 HLE.out.2.2.1
      obtain ⟨rd0, rd1, _, rd2, rd3⟩ := rest_in n dn d n0 d0 d1 HLE.out.2.2.2
      have hmd : ∀ w, Calls Try.prog 32 #[.agg #[.int .i64 a, .int .i64 b, .int .i64 c, .int .i64 d, .int .i64 ac, .int .i64 en, .int .i64 cr, .int .i64 ex, .int .i64 dn, .int .i64 wt]] w fun e w' => e = .returned (.agg #[.int .i64 (atM n dn a), .int .i64 (atM n dn b), .int .i64 (atM n dn c), .int .i64 (atM n dn d)]) ∧ Below w.heap.size w w' := fun w => by
        have h := pulse_made a b c d ac en cr ex dn wt w
        unfold mdV at h
        rw [HN.out, if_pos ⟨n0, d0, d1⟩, if_pos ⟨n0, d0, d1⟩, if_pos ⟨n0, d0, d1⟩, if_pos ⟨n0, d0, d1⟩] at h
        exact h
      have hrb := fun (h : dn < n) => rest_block a b c d n dn HDV.out HP.out n0 n1 d0 h
      have hfu : dn = n → atM n dn a = a ∧ atM n dn b = b ∧ atM n dn c = c ∧ atM n dn d = d := fun h => by
        subst h; exact ⟨atM_full _ _ n0, atM_full _ _ n0, atM_full _ _ n0, atM_full _ _ n0⟩
      generalize atM n dn a = ma at *
      generalize atM n dn b = mb at *
      generalize atM n dn c = mc at *
      generalize atM n dn d = md at *
      have HMD := Lib.hid hmd
      have HRB := Lib.hid hrb
      have HFU := Lib.hid hfu
      clear hmd hrb hfu hinv ra0 ra1 rb0 rb1 rc0 rc1 rd0 rd1
      go_wp2_with (go_at_call 32; refine (HMD.out _).mono ?_; rintro e w3 ⟨rfl, hb3⟩; have z3 := hb3.size; (try simp at z3); have L3a := live_below hb3 (b := w.heap.size) (by (repeat (first | with_reducible assumption | ((with_reducible apply live_new) <;> (first | with_reducible rfl | (focus (simp; done)))) | with_reducible apply live_alloc | with_reducible apply live_drew | with_reducible apply live_drewN | ((with_reducible apply live_set_other); (case hb => first | omega | (simp; done))) | with_reducible apply live_set_same | (focus (simp; done))))); obtain ⟨p3a, e3a, f3a⟩ := id L3a; have L3b := live_below hb3 (b := w1.heap.size) (by (repeat (first | with_reducible assumption | ((with_reducible apply live_new) <;> (first | with_reducible rfl | (focus (simp; done)))) | with_reducible apply live_alloc | with_reducible apply live_drew | with_reducible apply live_drewN | ((with_reducible apply live_set_other); (case hb => first | omega | (simp; done))) | with_reducible apply live_set_same | (focus (simp; done))))); obtain ⟨p3b, e3b, f3b⟩ := id L3b)
      refine wp_loop_rounds 5 ?_
      iterate 4
        rw [rounds_succ]
        go_wp2
        go_region
        go_wp2
      rw [rounds_succ]
      by_cases hl : dn = n
      · subst hl
        obtain ⟨rfl, rfl, rfl, rfl⟩ := HFU.out rfl
        have HE : Hid (enB (blkN ma mb mc md ac en cr ex) dn = true) := by show _ = _; rw [HN.out]; unfold enB; simp; omega
        have hz := fun w => hq2 0 0 0 0 w
        go_wp2_with (first | (go_at_call 28; refine (pulse_ended _ _ _ _ _ _ _ _ _ _ _).mono ?_; rw [HE.out]; rintro e w6 ⟨rfl, hb6⟩; have z6 := hb6.size; (try simp at z6); have L6a := live_below hb6 (b := w.heap.size) (by (repeat (first | with_reducible assumption | ((with_reducible apply live_new) <;> (first | with_reducible rfl | (focus (simp; done)))) | with_reducible apply live_alloc | with_reducible apply live_drew | with_reducible apply live_drewN | ((with_reducible apply live_set_other); (case hb => first | omega | (simp; done))) | with_reducible apply live_set_same | (focus (simp; done))))); obtain ⟨p6a, e6a, f6a⟩ := id L6a) | (go_at_call 26; refine (law46_works _).mono ?_; rintro e w9 ⟨rfl, hb9⟩; have z9 := hb9.size; (try simp at z9); have L9a := live_below hb9 (b := w.heap.size) (by (repeat (first | with_reducible assumption | ((with_reducible apply live_new) <;> (first | with_reducible rfl | (focus (simp; done)))) | with_reducible apply live_alloc | with_reducible apply live_drew | with_reducible apply live_drewN | ((with_reducible apply live_set_other); (case hb => first | omega | (simp; done))) | with_reducible apply live_set_same | (focus (simp; done))))); obtain ⟨p9a, e9a, f9a⟩ := id L9a))
        all_goals go_ret
        all_goals refine ⟨rfl, ?_⟩
        all_goals refine Below.trans hb0 ?_
        all_goals (repeat' (first | with_reducible exact Below.refl _ _ | with_reducible refine Below.drew ?_ | with_reducible refine below_drewN ?_ _ | with_reducible refine Below.alloc ?_ ?_ _ | with_reducible refine Below.setCell ?_ ?_ _ | with_reducible refine Below.trans ?_ (Below.mono (by with_reducible assumption) ?_) | (simp; done) | (simp; omega) | omega))
      · have hdl : dn < n := by omega
        obtain ⟨hrv, hrd⟩ := HRB.out hdl
        have hnz : ¬ (a - ma = 0 ∧ b - mb = 0 ∧ c - mc = 0 ∧ d - md = 0) := fun h => by
          have := ddaDom_pos _ _ _ _ hrv
          rw [h.1, h.2.1, h.2.2.1, h.2.2.2] at hrv
          simp [ddaValid] at hrv
        have hz : ∀ (w : World), (binOp .eql 22 (.agg #[.int .i64 (a - ma), .int .i64 (b - mb), .int .i64 (c - mc), .int .i64 (d - md)]) (.agg #[.int .i64 0, .int .i64 0, .int .i64 0, .int .i64 0])).run Try.prog w = .ok (.bool false) w := fun w => by
          rw [arr_eql]
          have e : same4 (a - ma) (b - mb) (c - mc) (d - md) 0 0 0 0 = false := by
            unfold same4; simp; omega
          rw [e]
        have hbv : blkValid (a - ma) (b - mb) (c - mc) (d - md) ac 0 cr 0 = true := by
          simp [blkValid, blkSound, hrv]; omega
        have hst2 := fun w => pulse_start_ok (a - ma) (b - mb) (c - mc) (d - md) ac 0 cr 0 t w hbv HQ.out
        have hnr := (blk_pos _ _ _ _ _ _ _ _ hbv)
        generalize plW (blkN (a - ma) (b - mb) (c - mc) (d - md) ac 0 cr 0) ac 0 cr 0 1 t = W2 at *
        have HMR : Hid (∀ w, Calls Try.prog 32 #[.agg #[.int .i64 (a - ma), .int .i64 (b - mb), .int .i64 (c - mc), .int .i64 (d - md), .int .i64 ac, .int .i64 0, .int .i64 cr, .int .i64 0, .int .i64 0, .int .i64 W2]] w fun e w' => e = .returned (.agg #[.int .i64 0, .int .i64 0, .int .i64 0, .int .i64 0]) ∧ Below w.heap.size w w') := Lib.hid (fun w => by
          have h := pulse_made (a - ma) (b - mb) (c - mc) (d - md) ac 0 cr 0 0 W2 w
          unfold mdV at h
          rw [atM_none _ _ hnr.2, atM_none _ _ hnr.2, atM_none _ _ hnr.2, atM_none _ _ hnr.2] at h
          simpa using h)
        have HS2 := Lib.hid hst2
        have HRD := Lib.hid hrd
        have k9 : IntKind.i64.wrap (n - dn) = n - dn := IntWalk.i64_in _ (by omega)
        have v1 : ma + (a - ma) = a := by omega
        have v2 : mb + (b - mb) = b := by omega
        have v3 : mc + (c - mc) = c := by omega
        have v4 : md + (d - md) = d := by omega
        have HV4 := Lib.hid (And.intro v1 (And.intro v2 (And.intro v3 v4)))
        clear hrv hrd hnz hbv hst2 hnr v1 v2 v3 v4 hl
        go_wp2_with (go_at_call 25; refine (HS2.out _).mono ?_; rintro e w4 ⟨rfl, hb4⟩; have z4 := hb4.size; (try simp at z4); have L4a := live_below hb4 (b := w.heap.size) (by (repeat (first | with_reducible assumption | ((with_reducible apply live_new) <;> (first | with_reducible rfl | (focus (simp; done)))) | with_reducible apply live_alloc | with_reducible apply live_drew | with_reducible apply live_drewN | ((with_reducible apply live_set_other); (case hb => first | omega | (simp; done))) | with_reducible apply live_set_same | (focus (simp; done))))); obtain ⟨p4a, e4a, f4a⟩ := id L4a; have L4b := live_below hb4 (b := w1.heap.size) (by (repeat (first | with_reducible assumption | ((with_reducible apply live_new) <;> (first | with_reducible rfl | (focus (simp; done)))) | with_reducible apply live_alloc | with_reducible apply live_drew | with_reducible apply live_drewN | ((with_reducible apply live_set_other); (case hb => first | omega | (simp; done))) | with_reducible apply live_set_same | (focus (simp; done))))); obtain ⟨p4b, e4b, f4b⟩ := id L4b; have L4c := live_below hb4 (b := w3.heap.size) (by (repeat (first | with_reducible assumption | ((with_reducible apply live_new) <;> (first | with_reducible rfl | (focus (simp; done)))) | with_reducible apply live_alloc | with_reducible apply live_drew | with_reducible apply live_drewN | ((with_reducible apply live_set_other); (case hb => first | omega | (simp; done))) | with_reducible apply live_set_same | (focus (simp; done))))); obtain ⟨p4c, e4c, f4c⟩ := id L4c; have L4d := live_below hb4 (b := w3.heap.size + 1) (by (repeat (first | with_reducible assumption | ((with_reducible apply live_new) <;> (first | with_reducible rfl | (focus (simp; done)))) | with_reducible apply live_alloc | with_reducible apply live_drew | with_reducible apply live_drewN | ((with_reducible apply live_set_other); (case hb => first | omega | (simp; done))) | with_reducible apply live_set_same | (focus (simp; done))))); obtain ⟨p4d, e4d, f4d⟩ := id L4d)
        go_region_held3 (fun w' => (w'.cell? ⟨w4.heap.size, 0, none⟩ = some (.int .i64 (a - ma)) ∧ w'.cell? ⟨w4.heap.size, 1, none⟩ = some (.int .i64 (b - mb)) ∧ w'.cell? ⟨w4.heap.size, 2, none⟩ = some (.int .i64 (c - mc)) ∧ w'.cell? ⟨w4.heap.size, 3, none⟩ = some (.int .i64 (d - md)) ∧ w'.cell? ⟨w4.heap.size, 4, none⟩ = some (.int .i64 ac) ∧ w'.cell? ⟨w4.heap.size, 5, none⟩ = some (.int .i64 0) ∧ w'.cell? ⟨w4.heap.size, 6, none⟩ = some (.int .i64 cr) ∧ w'.cell? ⟨w4.heap.size, 7, none⟩ = some (.int .i64 0) ∧ w'.cell? ⟨w4.heap.size, 8, none⟩ = some (.int .i64 0) ∧ w'.cell? ⟨w4.heap.size, 9, none⟩ = some (.int .i64 W2)) ∧ (w'.cell? ⟨w3.heap.size + 1, 0, none⟩ = some (.int .i64 (a - ma)) ∧ w'.cell? ⟨w3.heap.size + 1, 1, none⟩ = some (.int .i64 (b - mb)) ∧ w'.cell? ⟨w3.heap.size + 1, 2, none⟩ = some (.int .i64 (c - mc)) ∧ w'.cell? ⟨w3.heap.size + 1, 3, none⟩ = some (.int .i64 (d - md)) ∧ w'.cell? ⟨w3.heap.size + 1, 4, none⟩ = some (.int .i64 ac) ∧ w'.cell? ⟨w3.heap.size + 1, 5, none⟩ = some (.int .i64 0) ∧ w'.cell? ⟨w3.heap.size + 1, 6, none⟩ = some (.int .i64 cr) ∧ w'.cell? ⟨w3.heap.size + 1, 7, none⟩ = some (.int .i64 0)) ∧ (w'.cell? ⟨w.heap.size, 0, none⟩ = some (.int .i64 a) ∧ w'.cell? ⟨w.heap.size, 1, none⟩ = some (.int .i64 b) ∧ w'.cell? ⟨w.heap.size, 2, none⟩ = some (.int .i64 c) ∧ w'.cell? ⟨w.heap.size, 3, none⟩ = some (.int .i64 d) ∧ w'.cell? ⟨w.heap.size, 4, none⟩ = some (.int .i64 ac) ∧ w'.cell? ⟨w.heap.size, 5, none⟩ = some (.int .i64 en) ∧ w'.cell? ⟨w.heap.size, 6, none⟩ = some (.int .i64 cr) ∧ w'.cell? ⟨w.heap.size, 7, none⟩ = some (.int .i64 ex)) ∧ (w'.cell? ⟨w1.heap.size, 0, none⟩ = some (.int .i64 a) ∧ w'.cell? ⟨w1.heap.size, 1, none⟩ = some (.int .i64 b) ∧ w'.cell? ⟨w1.heap.size, 2, none⟩ = some (.int .i64 c) ∧ w'.cell? ⟨w1.heap.size, 3, none⟩ = some (.int .i64 d) ∧ w'.cell? ⟨w1.heap.size, 4, none⟩ = some (.int .i64 ac) ∧ w'.cell? ⟨w1.heap.size, 5, none⟩ = some (.int .i64 en) ∧ w'.cell? ⟨w1.heap.size, 6, none⟩ = some (.int .i64 cr) ∧ w'.cell? ⟨w1.heap.size, 7, none⟩ = some (.int .i64 ex) ∧ w'.cell? ⟨w1.heap.size, 8, none⟩ = some (.int .i64 dn) ∧ w'.cell? ⟨w1.heap.size, 9, none⟩ = some (.int .i64 wt)) ∧ (w'.cell? ⟨w3.heap.size, 0, none⟩ = some (.int .i64 ma) ∧ w'.cell? ⟨w3.heap.size, 1, none⟩ = some (.int .i64 mb) ∧ w'.cell? ⟨w3.heap.size, 2, none⟩ = some (.int .i64 mc) ∧ w'.cell? ⟨w3.heap.size, 3, none⟩ = some (.int .i64 md))) (first | (focus ((with_reducible refine ⟨?_, ?_, ?_, ?_, ?_⟩) <;> (first | ((with_reducible apply live_ten); (repeat (first | with_reducible assumption | ((with_reducible apply live_new) <;> (first | with_reducible rfl | (focus (simp; done)))) | with_reducible apply live_alloc | with_reducible apply live_drew | with_reducible apply live_drewN | ((with_reducible apply live_set_other); (case hb => first | omega | (simp; done))) | with_reducible apply live_set_same | (focus (simp; done)))); done) | ((with_reducible apply live_eight); (repeat (first | with_reducible assumption | ((with_reducible apply live_new) <;> (first | with_reducible rfl | (focus (simp; done)))) | with_reducible apply live_alloc | with_reducible apply live_drew | with_reducible apply live_drewN | ((with_reducible apply live_set_other); (case hb => first | omega | (simp; done))) | with_reducible apply live_set_same | (focus (simp; done)))); done) | ((with_reducible apply live_four); (repeat (first | with_reducible assumption | ((with_reducible apply live_new) <;> (first | with_reducible rfl | (focus (simp; done)))) | with_reducible apply live_alloc | with_reducible apply live_drew | with_reducible apply live_drewN | ((with_reducible apply live_set_other); (case hb => first | omega | (simp; done))) | with_reducible apply live_set_same | (focus (simp; done)))); done)))) | go_keep)
          (first | (go_at_call 32; refine (HMR.out _).mono ?_; rintro e w6 ⟨rfl, hb6⟩; have z6 := hb6.size; (try simp at z6); have L6a := live_below hb6 (b := w4.heap.size) (by (repeat (first | with_reducible assumption | ((with_reducible apply live_new) <;> (first | with_reducible rfl | (focus (simp; done)))) | with_reducible apply live_alloc | with_reducible apply live_drew | with_reducible apply live_drewN | ((with_reducible apply live_set_other); (case hb => first | omega | (simp; done))) | with_reducible apply live_set_same | (focus (simp; done))))); obtain ⟨p6a, e6a, f6a⟩ := id L6a; have L6b := live_below hb6 (b := w3.heap.size + 1) (by (repeat (first | with_reducible assumption | ((with_reducible apply live_new) <;> (first | with_reducible rfl | (focus (simp; done)))) | with_reducible apply live_alloc | with_reducible apply live_drew | with_reducible apply live_drewN | ((with_reducible apply live_set_other); (case hb => first | omega | (simp; done))) | with_reducible apply live_set_same | (focus (simp; done))))); obtain ⟨p6b, e6b, f6b⟩ := id L6b; have L6c := live_below hb6 (b := w.heap.size) (by (repeat (first | with_reducible assumption | ((with_reducible apply live_new) <;> (first | with_reducible rfl | (focus (simp; done)))) | with_reducible apply live_alloc | with_reducible apply live_drew | with_reducible apply live_drewN | ((with_reducible apply live_set_other); (case hb => first | omega | (simp; done))) | with_reducible apply live_set_same | (focus (simp; done))))); obtain ⟨p6c, e6c, f6c⟩ := id L6c; have L6d := live_below hb6 (b := w1.heap.size) (by (repeat (first | with_reducible assumption | ((with_reducible apply live_new) <;> (first | with_reducible rfl | (focus (simp; done)))) | with_reducible apply live_alloc | with_reducible apply live_drew | with_reducible apply live_drewN | ((with_reducible apply live_set_other); (case hb => first | omega | (simp; done))) | with_reducible apply live_set_same | (focus (simp; done))))); obtain ⟨p6d, e6d, f6d⟩ := id L6d; have L6e := live_below hb6 (b := w3.heap.size) (by (repeat (first | with_reducible assumption | ((with_reducible apply live_new) <;> (first | with_reducible rfl | (focus (simp; done)))) | with_reducible apply live_alloc | with_reducible apply live_drew | with_reducible apply live_drewN | ((with_reducible apply live_set_other); (case hb => first | omega | (simp; done))) | with_reducible apply live_set_same | (focus (simp; done))))); obtain ⟨p6e, e6e, f6e⟩ := id L6e) | (go_at_call 39; refine (ref42_dom _ _ _ _ _).mono ?_; (first | rw [HRD.out] | rw [HP.out]); rintro e wd ⟨rfl, rfl⟩) | (go_at_call 31; refine (law46_add _ _ _ _ _ _ _ _ _ ⟨?_, ?_⟩ ⟨?_, ?_⟩ ⟨?_, ?_⟩ ⟨?_, ?_⟩ ⟨?_, ?_⟩ ⟨?_, ?_⟩ ⟨?_, ?_⟩ ⟨?_, ?_⟩).mono ?_; (iterate 16 (· omega)); rw [HV4.out.1, HV4.out.2.1, HV4.out.2.2.1, HV4.out.2.2.2]; rintro e w7 ⟨rfl, hb7⟩; have z7 := hb7.size; (try simp at z7); have L7a := live_below hb7 (b := w4.heap.size) (by (repeat (first | with_reducible assumption | ((with_reducible apply live_new) <;> (first | with_reducible rfl | (focus (simp; done)))) | with_reducible apply live_alloc | with_reducible apply live_drew | with_reducible apply live_drewN | ((with_reducible apply live_set_other); (case hb => first | omega | (simp; done))) | with_reducible apply live_set_same | (focus (simp; done))))); obtain ⟨p7a, e7a, f7a⟩ := id L7a; have L7b := live_below hb7 (b := w3.heap.size + 1) (by (repeat (first | with_reducible assumption | ((with_reducible apply live_new) <;> (first | with_reducible rfl | (focus (simp; done)))) | with_reducible apply live_alloc | with_reducible apply live_drew | with_reducible apply live_drewN | ((with_reducible apply live_set_other); (case hb => first | omega | (simp; done))) | with_reducible apply live_set_same | (focus (simp; done))))); obtain ⟨p7b, e7b, f7b⟩ := id L7b; have L7c := live_below hb7 (b := w.heap.size) (by (repeat (first | with_reducible assumption | ((with_reducible apply live_new) <;> (first | with_reducible rfl | (focus (simp; done)))) | with_reducible apply live_alloc | with_reducible apply live_drew | with_reducible apply live_drewN | ((with_reducible apply live_set_other); (case hb => first | omega | (simp; done))) | with_reducible apply live_set_same | (focus (simp; done))))); obtain ⟨p7c, e7c, f7c⟩ := id L7c; have L7d := live_below hb7 (b := w1.heap.size) (by (repeat (first | with_reducible assumption | ((with_reducible apply live_new) <;> (first | with_reducible rfl | (focus (simp; done)))) | with_reducible apply live_alloc | with_reducible apply live_drew | with_reducible apply live_drewN | ((with_reducible apply live_set_other); (case hb => first | omega | (simp; done))) | with_reducible apply live_set_same | (focus (simp; done))))); obtain ⟨p7d, e7d, f7d⟩ := id L7d; have L7e := live_below hb7 (b := w3.heap.size) (by (repeat (first | with_reducible assumption | ((with_reducible apply live_new) <;> (first | with_reducible rfl | (focus (simp; done)))) | with_reducible apply live_alloc | with_reducible apply live_drew | with_reducible apply live_drewN | ((with_reducible apply live_set_other); (case hb => first | omega | (simp; done))) | with_reducible apply live_set_same | (focus (simp; done))))); obtain ⟨p7e, e7e, f7e⟩ := id L7e) | (go_at_call 26; refine (law46_works _).mono ?_; rintro e w9 ⟨rfl, hb9⟩; have z9 := hb9.size; (try simp at z9); have L9a := live_below hb9 (b := w4.heap.size) (by (repeat (first | with_reducible assumption | ((with_reducible apply live_new) <;> (first | with_reducible rfl | (focus (simp; done)))) | with_reducible apply live_alloc | with_reducible apply live_drew | with_reducible apply live_drewN | ((with_reducible apply live_set_other); (case hb => first | omega | (simp; done))) | with_reducible apply live_set_same | (focus (simp; done))))); obtain ⟨p9a, e9a, f9a⟩ := id L9a; have L9b := live_below hb9 (b := w3.heap.size + 1) (by (repeat (first | with_reducible assumption | ((with_reducible apply live_new) <;> (first | with_reducible rfl | (focus (simp; done)))) | with_reducible apply live_alloc | with_reducible apply live_drew | with_reducible apply live_drewN | ((with_reducible apply live_set_other); (case hb => first | omega | (simp; done))) | with_reducible apply live_set_same | (focus (simp; done))))); obtain ⟨p9b, e9b, f9b⟩ := id L9b; have L9c := live_below hb9 (b := w.heap.size) (by (repeat (first | with_reducible assumption | ((with_reducible apply live_new) <;> (first | with_reducible rfl | (focus (simp; done)))) | with_reducible apply live_alloc | with_reducible apply live_drew | with_reducible apply live_drewN | ((with_reducible apply live_set_other); (case hb => first | omega | (simp; done))) | with_reducible apply live_set_same | (focus (simp; done))))); obtain ⟨p9c, e9c, f9c⟩ := id L9c; have L9d := live_below hb9 (b := w1.heap.size) (by (repeat (first | with_reducible assumption | ((with_reducible apply live_new) <;> (first | with_reducible rfl | (focus (simp; done)))) | with_reducible apply live_alloc | with_reducible apply live_drew | with_reducible apply live_drewN | ((with_reducible apply live_set_other); (case hb => first | omega | (simp; done))) | with_reducible apply live_set_same | (focus (simp; done))))); obtain ⟨p9d, e9d, f9d⟩ := id L9d; have L9e := live_below hb9 (b := w3.heap.size) (by (repeat (first | with_reducible assumption | ((with_reducible apply live_new) <;> (first | with_reducible rfl | (focus (simp; done)))) | with_reducible apply live_alloc | with_reducible apply live_drew | with_reducible apply live_drewN | ((with_reducible apply live_set_other); (case hb => first | omega | (simp; done))) | with_reducible apply live_set_same | (focus (simp; done))))); obtain ⟨p9e, e9e, f9e⟩ := id L9e))
        all_goals go_wp2_with fail
        all_goals go_ret
        all_goals refine ⟨rfl, ?_⟩
        all_goals refine Below.trans hb0 ?_
        all_goals (repeat' (first | with_reducible exact Below.refl _ _ | with_reducible refine Below.drew ?_ | with_reducible refine below_drewN ?_ _ | with_reducible refine Below.alloc ?_ ?_ _ | with_reducible refine Below.setCell ?_ ?_ _ | with_reducible refine Below.trans ?_ (Below.mono (by with_reducible assumption) ?_) | (simp; done) | (simp; omega) | omega))

theorem walk (a b c d ac en cr ex t q : Int) (w : World) : Calls Try.prog 14 #[.agg #[.int .i64 a, .int .i64 b, .int .i64 c, .int .i64 d, .int .i64 ac, .int .i64 en, .int .i64 cr, .int .i64 ex], .int .i64 t, .int .i64 q] w fun e w' => e = .returned (.bool true) ∧ Below w.heap.size w w' := by
  by_cases h : blkValid a b c d ac en cr ex = false ∨ possB t = false
  · exact bad a b c d ac en cr ex t q w h
  · have hv : blkValid a b c d ac en cr ex = true := by
      cases hv : blkValid a b c d ac en cr ex
      · exact absurd (.inl hv) h
      · rfl
    have hp : possB t = true := by
      cases hp : possB t
      · exact absurd (.inr hp) h
      · rfl
    by_cases hl : q < 0 ∨ 3000 < q
    · exact out a b c d ac en cr ex t q w hv hp hl
    · obtain ⟨hn, n0⟩ := blk_pos _ _ _ _ _ _ _ _ hv
      have n1 := (blkN_in a b c d ac en cr ex).2
      have hb := hv
      simp [blkValid, blkSound] at hb
      obtain ⟨⟨hdv, a0, a1, c0, c1⟩, e0', e1', x0, x1⟩ := hb
      have hp2 := hp
      simp [possB] at hp2
      exact many a b c d ac en cr ex t q _ w hv rfl hn.symm hdv n0 n1 hp2.1 hp2.2 a0 a1 c0 c1 e0' x0 (by omega) (by omega)

set_option maxRecDepth 100000 in
theorem lifted (os : Os) (started : os.Started) (H : Type) (enc : TypeId × Value → H) :
    ReturnsInHanded {} Try.checked os 14 .any (Rows.pulseSplitsSpec.pre6 enc Try.prog Try.f14 Rows.pulseSplitsRow.domain false) (Rows.pulseSplitsSpec.post enc Try.prog Try.f14 false true false false) := by
  refine returnsInHanded_of_change (C := Try.checked) own started (by kernel_rfl) Try.func14
    (ChangeSpec.witness6 (enc := enc) (C := Try.checked) false ⟨#[], #[.agg #[.int .i64 0, .int .i64 0, .int .i64 0, .int .i64 0, .int .i64 0, .int .i64 0, .int .i64 0, .int .i64 0], .int .i64 0, .int .i64 0], []⟩ 8 (by kernel_rfl) (by kernel_rfl) (by kernel_rfl) (by kernel_rfl)) ?_
  intro W base args ds gs before hval0 hW _ _
  have hval : ∀ (j : Nat) t v, Try.f14.params[j]? = some t → args[j]? = some v → Value.okWide Try.prog W .any base t v := hval0
  have hW' := hW
  obtain ⟨p, q, hA0, hV, rfl, _, _⟩ := hW
  have hA : DataW.TrodAll enc Try.prog W 0 (fun _ => true) true Try.f14.params.toList args.toList ds p := hA0
  rw [Try.params14] at hA hval
  obtain ⟨v0, v1, v2, d0, d1, d2, p0, p1, p2, rfl, rfl, rfl, h0, h1, h2⟩ := trodAll_three hA
  clear hA hA0 hval0
  obtain ⟨f0, bf0, rfl⟩ := flat_ints (n := 8) (u := 3) (by kernel_rfl) (by kernel_rfl) (by kernel_rfl) Try.underlying3 (hval 0 24 v0 rfl rfl)
  obtain ⟨a1, rfl, ba1⟩ := int_open Try.underlying3 (hval 1 3 v1 rfl rfl)
  obtain ⟨a2, rfl, ba2⟩ := int_open Try.underlying3 (hval 2 3 v2 rfl rfl)
  exact (walk (f0 0) (f0 1) (f0 2) (f0 3) (f0 4) (f0 5) (f0 6) (f0 7) a1 a2 W).mono fun e W' ⟨he, hb⟩ => ⟨_, he, law_post laidOut (by kernel_rfl) rfl (fun _ => rfl) rfl Try.underlying4 hW' hb⟩

theorem holds : Rows.PulseSplitsSaid :=
  OpenClaim.holds_of_wide 14 Try.f14 rfl rfl rfl rfl rfl rfl rfl ⟨rfl, rfl, rfl, rfl, rfl⟩ rfl rfl rfl rfl rfl (by kernel_rfl) Try.func14 (by kernel_rfl)
    (of_decide_eq_true (by kernel_rfl)) (by unfold Func.isWrapper; rw [if_neg (of_decide_eq_false (by kernel_rfl))]; exact ⟨rfl, rfl⟩)
    (fun os started H enc _ => lifted os started H enc)

#print axioms holds
end Go.Proofs.Ytleohgnnbpicjaa.pulseSplits
