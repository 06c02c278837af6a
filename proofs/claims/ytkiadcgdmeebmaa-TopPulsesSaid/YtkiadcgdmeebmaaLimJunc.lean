/- limits.Junction -/
import Derived.Deep.RegionHeld3
import Derived.Deep.RegionWith
import Derived.RegionTactic
import Derived.BigRegion
import Derived.Test.YtkiadcgdmeebmaaLimFold
namespace Go.Proofs.Ytkiadcgdmeebmaa
open Go.RowKit
set_option linter.unusedVariables false

attribute [local go_sem] cell_past1 cell_past2 cell_past3 cell_past4 froz_past1 froz_past2 froz_past3

def jun1 (v j n k p q : Int) : Int := if ab (p * k - q * n) = 0 then v else lesser v (j * n) k (ab (p * k - q * n))
def junK (f : Nat → Int) (n k a b c d a' b' c' d' : Int) : Nat → Int
  | 0 => 1048576
  | i + 1 => jun1 (junK f n k a b c d a' b' c' d' i) (f (7 * i + 4)) n k (limC a b c d i) (limC a' b' c' d' i)
theorem junK_in (f : Nat → Int) (n k a b c d a' b' c' d' : Int) (hf : ∀ i, i < 4 → 0 ≤ f (7 * i + 4)) (hn : 0 ≤ n) (hk : 0 ≤ k) : ∀ i, i ≤ 4 → 0 ≤ junK f n k a b c d a' b' c' d' i ∧ junK f n k a b c d a' b' c' d' i ≤ 1048576
  | 0, _ => by show (0 : Int) ≤ 1048576 ∧ (1048576 : Int) ≤ 1048576; omega
  | i + 1, hi => by
    have h := junK_in f n k a b c d a' b' c' d' hf hn hk i (by omega)
    show 0 ≤ jun1 _ _ _ _ _ _ ∧ jun1 _ _ _ _ _ _ ≤ 1048576
    unfold jun1
    split
    · exact h
    · rename_i h0
      generalize limC a b c d i * k - limC a' b' c' d' i * n = D at *
      have := lesser_in (junK f n k a b c d a' b' c' d' i) (f (7 * i + 4) * n) k (ab D) h.1 (Int.mul_nonneg (hf i (by omega)) hn) hk (by unfold ab at *; omega)
      omega
theorem jun_bd (p q n k : Int) (hp : -16777216 ≤ p ∧ p ≤ 16777216) (hq : -16777216 ≤ q ∧ q ≤ 16777216) (hn : 0 ≤ n ∧ n ≤ 16777216) (hk : 0 ≤ k ∧ k ≤ 16777216) : (-281474976710656 ≤ p * k ∧ p * k ≤ 281474976710656) ∧ (-281474976710656 ≤ q * n ∧ q * n ≤ 281474976710656) := by
  have h1 := mul_bd p k 16777216 16777216 hp.1 hp.2 hk.1 hk.2 (by decide)
  have h2 := mul_bd q n 16777216 16777216 hq.1 hq.2 hn.1 hn.2 (by decide)
  omega
theorem jun_bj (j n : Int) (hj : 0 ≤ j ∧ j ≤ 1048576) (hn : 0 ≤ n ∧ n ≤ 16777216) : 0 ≤ j * n ∧ j * n ≤ 17592186044416 := by
  have h1 := mul_bd j n 1048576 16777216 (by omega) hj.2 hn.1 hn.2 (by decide)
  have h2 := Int.mul_nonneg hj.1 hn.1
  omega

theorem live_44 {w : World} {b b' : Nat} {x y z u x' y' z' u' : Value} (h : Live w b #[x, y, z, u]) (h' : Live w b' #[x', y', z', u']) : w.cell? ⟨b, 0, none⟩ = some x ∧ w.cell? ⟨b, 1, none⟩ = some y ∧ w.cell? ⟨b, 2, none⟩ = some z ∧ w.cell? ⟨b, 3, none⟩ = some u ∧ w.cell? ⟨b', 0, none⟩ = some x' ∧ w.cell? ⟨b', 1, none⟩ = some y' ∧ w.cell? ⟨b', 2, none⟩ = some z' ∧ w.cell? ⟨b', 3, none⟩ = some u' :=
  ⟨h.2.1 0, h.2.1 1, h.2.1 2, h.2.1 3, h'.2.1 0, h'.2.1 1, h'.2.1 2, h'.2.1 3⟩
def JRel (f : Nat → Int) (x : Bool) (t n k a b c d a' b' c' d' : Int) (w : World) (si sv : Value) (wx : World) : Prop :=
  ∃ i : Nat, si = .int .i64 i ∧ i ≤ 4 ∧ sv = .int .i64 (junK f n k a b c d a' b' c' d' i) ∧ Live wx w.heap.size (mach f x t) ∧ Live wx (w.heap.size + 1) #[.int .i64 a, .int .i64 b, .int .i64 c, .int .i64 d] ∧ Live wx (w.heap.size + 2) #[.int .i64 a', .int .i64 b', .int .i64 c', .int .i64 d'] ∧ Below w.heap.size w wx

set_option maxRecDepth 100000 in
set_option maxHeartbeats 8000000 in
theorem lim_junction_f (f : Nat → Int) (x : Bool) (t a b c d a' b' c' d' : Int) (w : World) (h : (ddaValid a b c d && (ddaValid a' b' c' d' && kinValid f t)) = false) :
    Calls Try.prog 19 #[.agg (mach f x t), .agg #[.int .i64 a, .int .i64 b, .int .i64 c, .int .i64 d], .agg #[.int .i64 a', .int .i64 b', .int .i64 c', .int .i64 d']] w fun e w' => e = .returned (.int .i64 0) ∧ Below w.heap.size w w' := by
  have KV := Lib.hid (fun g w h => lim_valid2 f x t a b c d a' b' c' d' g w h)
  rw [h] at KV
  clear h
  go_enter Try.func19, Try.ntmps19
  go_upto_region 1 with (fail)
  refine gen_world (fun wx => Live wx w.heap.size (mach f x t) ∧ Live wx (w.heap.size + 1) #[.int .i64 a, .int .i64 b, .int .i64 c, .int .i64 d] ∧ Live wx (w.heap.size + 2) #[.int .i64 a', .int .i64 b', .int .i64 c', .int .i64 d'] ∧ Below w.heap.size w wx) ?_ ?_
  · refine ⟨live_alloc (live_alloc (live_new _ _ rfl) _) _, live_alloc (live_new _ _ (by simp)) _, live_new _ _ (by simp), ?_⟩
    (repeat' (first | with_reducible exact Below.refl _ _ | with_reducible refine Below.drew ?_ | with_reducible refine below_drewN ?_ _ | with_reducible refine Below.alloc ?_ ?_ _ | with_reducible refine Below.setCell ?_ ?_ _ | with_reducible refine Below.trans ?_ (Below.mono (by with_reducible assumption) ?_) | (simp; done) | (simp; omega) | omega))
  rintro wx ⟨L, L1, L2, hb⟩
  have p0 := L.1
  have p1 := L1.1
  have p2 := L2.1
  obtain ⟨q0, q1, q2, q3⟩ := live_four L1
  obtain ⟨s0, s1, s2, s3⟩ := live_four L2
  go_wp2_with (first | ((with_reducible refine wpList_load_in (ty := 26) w.heap.size 0 (mach f x t) ?_ ?_ Try.underlying26 ?_ ?_ ?_); (· rfl); (· refine live_rangeAll ?_; (repeat (first | with_reducible assumption | ((with_reducible apply live_new) <;> (first | with_reducible rfl | (focus (simp; done)))) | with_reducible apply live_alloc | with_reducible apply live_drew | with_reducible apply live_drewN | ((with_reducible apply live_set_other); (case hb => first | omega | (simp; done))) | with_reducible apply live_set_same | (focus (simp; done))))); (· rfl); (· kernel_rfl)) | (go_at_call 34; refine (KV.out _ _ ?_).mono ?_; (· (repeat (first | with_reducible assumption | ((with_reducible apply live_new) <;> (first | with_reducible rfl | (focus (simp; done)))) | with_reducible apply live_alloc | with_reducible apply live_drew | with_reducible apply live_drewN | ((with_reducible apply live_set_other); (case hb => first | omega | (simp; done))) | with_reducible apply live_set_same | (focus (simp; done))))); rintro e w1 ⟨rfl, hb1⟩; have z1 := hb1.size; (try simp at z1); have L1a := live_below hb1 (b := w.heap.size) (by (repeat (first | with_reducible assumption | ((with_reducible apply live_new) <;> (first | with_reducible rfl | (focus (simp; done)))) | with_reducible apply live_alloc | with_reducible apply live_drew | with_reducible apply live_drewN | ((with_reducible apply live_set_other); (case hb => first | omega | (simp; done))) | with_reducible apply live_set_same | (focus (simp; done))))); obtain ⟨p1a, e1a, f1a⟩ := id L1a; have L1b := live_below hb1 (b := w.heap.size + 1) (by (repeat (first | with_reducible assumption | ((with_reducible apply live_new) <;> (first | with_reducible rfl | (focus (simp; done)))) | with_reducible apply live_alloc | with_reducible apply live_drew | with_reducible apply live_drewN | ((with_reducible apply live_set_other); (case hb => first | omega | (simp; done))) | with_reducible apply live_set_same | (focus (simp; done))))); obtain ⟨p1b, e1b, f1b⟩ := id L1b))
  go_ret
  refine ⟨rfl, ?_⟩
  (repeat' (first | with_reducible exact Below.refl _ _ | with_reducible refine Below.drew ?_ | with_reducible refine below_drewN ?_ _ | with_reducible refine Below.alloc ?_ ?_ _ | with_reducible refine Below.setCell ?_ ?_ _ | with_reducible refine Below.trans ?_ (Below.mono (by with_reducible assumption) ?_) | (simp; done) | (simp; omega) | omega))
set_option maxRecDepth 100000 in
set_option maxHeartbeats 8000000 in
theorem lim_junction_t (f : Nat → Int) (x : Bool) (t a b c d a' b' c' d' : Int) (w : World) (hz : kinValid f t = true) (hv : ddaValid a b c d = true) (hv' : ddaValid a' b' c' d' = true) :
    Calls Try.prog 19 #[.agg (mach f x t), .agg #[.int .i64 a, .int .i64 b, .int .i64 c, .int .i64 d], .agg #[.int .i64 a', .int .i64 b', .int .i64 c', .int .i64 d']] w fun e w' => e = .returned (.int .i64 (junK f (ddaDom a b c d) (ddaDom a' b' c' d') a b c d a' b' c' d' 4)) ∧ Below w.heap.size w w' := by
  have hb4 : (-16777216 ≤ a ∧ a ≤ 16777216) ∧ (-16777216 ≤ b ∧ b ≤ 16777216) ∧ (-16777216 ≤ c ∧ c ≤ 16777216) ∧ (-16777216 ≤ d ∧ d ≤ 16777216) := by
    have := hv; simp [ddaValid] at this; omega
  have hb4' : (-16777216 ≤ a' ∧ a' ≤ 16777216) ∧ (-16777216 ≤ b' ∧ b' ≤ 16777216) ∧ (-16777216 ≤ c' ∧ c' ≤ 16777216) ∧ (-16777216 ≤ d' ∧ d' ≤ 16777216) := by
    have := hv'; simp [ddaValid] at this; omega
  have hn := ddaDom_in a b c d
  have hm := ddaDom_in a' b' c' d'
  have hax := acc_facts f t hz
  have hK := junK_in f (ddaDom a b c d) (ddaDom a' b' c' d') a b c d a' b' c' d' (fun k hk => (hax k hk).2.2.1) hn.1 hm.1
  have KV := Lib.hid (fun g w h => lim_valid2 f x t a b c d a' b' c' d' g w h)
  rw [hz, hv, hv'] at KV
  have KD := Lib.hid (fun w => dda_dom a b c d w)
  have KE := Lib.hid (fun w => dda_dom a' b' c' d' w)
  generalize ddaDom a b c d = n at *
  generalize ddaDom a' b' c' d' = m at *
  have HB := Lib.hid hb4
  have HB' := Lib.hid hb4'
  have HN := Lib.hid hn
  have HM := Lib.hid hm
  have HA := Lib.hid hax
  have HK := Lib.hid hK
  clear hb4 hb4' hn hm hax hK hz hv hv'
  go_enter Try.func19, Try.ntmps19
  go_upto_region 1 with (fail)
  refine gen_world (fun wx => Live wx w.heap.size (mach f x t) ∧ Live wx (w.heap.size + 1) #[.int .i64 a, .int .i64 b, .int .i64 c, .int .i64 d] ∧ Live wx (w.heap.size + 2) #[.int .i64 a', .int .i64 b', .int .i64 c', .int .i64 d'] ∧ Below w.heap.size w wx) ?_ ?_
  · refine ⟨live_alloc (live_alloc (live_new _ _ rfl) _) _, live_alloc (live_new _ _ (by simp)) _, live_new _ _ (by simp), ?_⟩
    (repeat' (first | with_reducible exact Below.refl _ _ | with_reducible refine Below.drew ?_ | with_reducible refine below_drewN ?_ _ | with_reducible refine Below.alloc ?_ ?_ _ | with_reducible refine Below.setCell ?_ ?_ _ | with_reducible refine Below.trans ?_ (Below.mono (by with_reducible assumption) ?_) | (simp; done) | (simp; omega) | omega))
  rintro wx ⟨L, L1, L2, hb⟩
  have p0 := L.1
  have p1 := L1.1
  have p2 := L2.1
  obtain ⟨q0, q1, q2, q3⟩ := live_four L1
  obtain ⟨s0, s1, s2, s3⟩ := live_four L2
  go_upto_region 3 with (first | ((with_reducible refine wpList_load_in (ty := 26) w.heap.size 0 (mach f x t) ?_ ?_ Try.underlying26 ?_ ?_ ?_); (· rfl); (· refine live_rangeAll ?_; (repeat (first | with_reducible assumption | ((with_reducible apply live_new) <;> (first | with_reducible rfl | (focus (simp; done)))) | with_reducible apply live_alloc | with_reducible apply live_drew | with_reducible apply live_drewN | ((with_reducible apply live_set_other); (case hb => first | omega | (simp; done))) | with_reducible apply live_set_same | (focus (simp; done))))); (· rfl); (· kernel_rfl)) | (go_at_call 34; refine (KV.out _ _ ?_).mono ?_; (· (repeat (first | with_reducible assumption | ((with_reducible apply live_new) <;> (first | with_reducible rfl | (focus (simp; done)))) | with_reducible apply live_alloc | with_reducible apply live_drew | with_reducible apply live_drewN | ((with_reducible apply live_set_other); (case hb => first | omega | (simp; done))) | with_reducible apply live_set_same | (focus (simp; done))))); rintro e w1 ⟨rfl, hb1⟩; have z1 := hb1.size; (try simp at z1); have L1a := live_below hb1 (b := w.heap.size) (by (repeat (first | with_reducible assumption | ((with_reducible apply live_new) <;> (first | with_reducible rfl | (focus (simp; done)))) | with_reducible apply live_alloc | with_reducible apply live_drew | with_reducible apply live_drewN | ((with_reducible apply live_set_other); (case hb => first | omega | (simp; done))) | with_reducible apply live_set_same | (focus (simp; done))))); obtain ⟨p1a, e1a, f1a⟩ := id L1a; have L1b := live_below hb1 (b := w.heap.size + 1) (by (repeat (first | with_reducible assumption | ((with_reducible apply live_new) <;> (first | with_reducible rfl | (focus (simp; done)))) | with_reducible apply live_alloc | with_reducible apply live_drew | with_reducible apply live_drewN | ((with_reducible apply live_set_other); (case hb => first | omega | (simp; done))) | with_reducible apply live_set_same | (focus (simp; done))))); obtain ⟨p1b, e1b, f1b⟩ := id L1b; have L1c := live_below hb1 (b := w.heap.size + 2) (by (repeat (first | with_reducible assumption | ((with_reducible apply live_new) <;> (first | with_reducible rfl | (focus (simp; done)))) | with_reducible apply live_alloc | with_reducible apply live_drew | with_reducible apply live_drewN | ((with_reducible apply live_set_other); (case hb => first | omega | (simp; done))) | with_reducible apply live_set_same | (focus (simp; done))))); obtain ⟨p1c, e1c, f1c⟩ := id L1c; clear e1a; obtain ⟨r0, r1, r2, r3⟩ := live_four L1b; obtain ⟨v0, v1, v2, v3⟩ := live_four L1c))
  go_cut [7, 8, 9] (fun s7 s8 s9 wx => s7 = .int .i64 n ∧ s8 = .int .i64 m ∧ s9 = .int .i64 1048576 ∧ Live wx w.heap.size (mach f x t) ∧ Live wx (w.heap.size + 1) #[.int .i64 a, .int .i64 b, .int .i64 c, .int .i64 d] ∧ Live wx (w.heap.size + 2) #[.int .i64 a', .int .i64 b', .int .i64 c', .int .i64 d'] ∧ Below w.heap.size w wx)
  case first =>
    go_region_held3 (fun w' => w'.cell? ⟨w.heap.size + 1, 0, none⟩ = some (.int .i64 a) ∧ w'.cell? ⟨w.heap.size + 1, 1, none⟩ = some (.int .i64 b) ∧ w'.cell? ⟨w.heap.size + 1, 2, none⟩ = some (.int .i64 c) ∧ w'.cell? ⟨w.heap.size + 1, 3, none⟩ = some (.int .i64 d) ∧ w'.cell? ⟨w.heap.size + 2, 0, none⟩ = some (.int .i64 a') ∧ w'.cell? ⟨w.heap.size + 2, 1, none⟩ = some (.int .i64 b') ∧ w'.cell? ⟨w.heap.size + 2, 2, none⟩ = some (.int .i64 c') ∧ w'.cell? ⟨w.heap.size + 2, 3, none⟩ = some (.int .i64 d')) (first | (focus (((with_reducible apply live_44) <;> ((repeat (first | with_reducible assumption | ((with_reducible apply live_new) <;> (first | with_reducible rfl | (focus (simp; done)))) | with_reducible apply live_alloc | with_reducible apply live_drew | with_reducible apply live_drewN | ((with_reducible apply live_set_other); (case hb => first | omega | (simp; done))) | with_reducible apply live_set_same | (focus (simp; done)))))); done)) | go_keep)
      (first | (go_at_call 29; (with_reducible refine (KD.out _).mono ?_); rintro e w2 ⟨rfl, rfl⟩) | (go_at_call 29; (with_reducible refine (KE.out _).mono ?_); rintro e w2 ⟨rfl, rfl⟩))
    all_goals (try go_wp2_with fail)
    all_goals go_meet
    all_goals refine ⟨rfl, rfl, rfl, ?_, ?_, ?_, ?_⟩
    all_goals first | (focus ((repeat (first | with_reducible assumption | ((with_reducible apply live_new) <;> (first | with_reducible rfl | (focus (simp; done)))) | with_reducible apply live_alloc | with_reducible apply live_drew | with_reducible apply live_drewN | ((with_reducible apply live_set_other); (case hb => first | omega | (simp; done))) | with_reducible apply live_set_same | (focus (simp; done)))); done)) | (repeat' (first | with_reducible exact Below.refl _ _ | with_reducible refine Below.drew ?_ | with_reducible refine below_drewN ?_ _ | with_reducible refine Below.alloc ?_ ?_ _ | with_reducible refine Below.setCell ?_ ?_ _ | with_reducible refine Below.trans ?_ (Below.mono (by with_reducible assumption) ?_) | (simp; done) | (simp; omega) | omega))
  case rest =>
  obtain ⟨rfl, rfl, rfl, L, L1, L2, hb⟩ := hcut
  go_wp2_with fail
  go_loopw [22, 9] (JRel f x t n m a b c d a' b' c' d' w) (fun i _ _ => 4 - (intOf i).toNat)
  case atStart => exact ⟨0, rfl, by omega, rfl, L, L1, L2, hb⟩
  case round =>
    obtain ⟨k, rfl, hk, rfl, L, L1, L2, hb⟩ := hrel
    obtain ⟨q0, q1, q2, q3⟩ := live_four L1
    obtain ⟨s0, s1, s2, s3⟩ := live_four L2
    have p0 := L.1
    have p1 := L1.1
    have p2 := L2.1
    rcases (by omega : k = 0 ∨ k = 1 ∨ k = 2 ∨ k = 3 ∨ k = 4) with rfl | rfl | rfl | rfl | rfl
    · obtain ⟨u0, u1, u2, u3, u4, u5, u6⟩ := mach_ax0 f x t L
      have hj : 0 ≤ f 4 ∧ f 4 ≤ 1048576 := (HA.out 0 (by omega)).2.2
      have hbd := jun_bd a a' n m (by have := HB.out; omega) (by have := HB'.out; omega) HN.out HM.out
      have hbj := jun_bj (f 4) n hj HN.out
      have w1 : RowKit.wrap64 (a * m) = a * m := by unfold RowKit.wrap64; omega
      have w2 : RowKit.wrap64 (a' * n) = a' * n := by unfold RowKit.wrap64; omega
      have w3 : RowKit.wrap64 (a * m - a' * n) = a * m - a' * n := by unfold RowKit.wrap64; omega
      have w4 : RowKit.wrap64 (f 4 * n) = f 4 * n := by unfold RowKit.wrap64; omega
      have v1 : IntKind.i64.wrap (a * m) = a * m := IntWalk.i64_in _ (by omega)
      have v2 : IntKind.i64.wrap (a' * n) = a' * n := IntWalk.i64_in _ (by omega)
      have v3 : IntKind.i64.wrap (a * m - a' * n) = a * m - a' * n := IntWalk.i64_in _ (by omega)
      have v4 : IntKind.i64.wrap (f 4 * n) = f 4 * n := IntWalk.i64_in _ (by omega)
      have KS := Lib.hid (fun w => lim_size (a * m - a' * n) w (by omega))
      have hS0 : 0 ≤ ab (a * m - a' * n) := by unfold ab; omega
      have hS1 : ab (a * m - a' * n) ≤ 1000000000000000 := by unfold ab; omega
      go_upto_region 7 with (fail)
      go_cut [11] (fun s11 wx => s11 = .int .i64 (ab (a * m - a' * n)) ∧ Live wx w.heap.size (mach f x t) ∧ Live wx (w.heap.size + 1) #[.int .i64 a, .int .i64 b, .int .i64 c, .int .i64 d] ∧ Live wx (w.heap.size + 2) #[.int .i64 a', .int .i64 b', .int .i64 c', .int .i64 d'] ∧ Below w.heap.size w wx)
      case first =>
        go_region_held3 (fun w' => w'.cell? ⟨w.heap.size + 1, 0, none⟩ = some (.int .i64 a) ∧ w'.cell? ⟨w.heap.size + 2, 0, none⟩ = some (.int .i64 a')) (go_keep)
          ((go_at_call 36; (with_reducible refine (KS.out _).mono ?_); rintro e w1 ⟨rfl, rfl⟩))
        all_goals (try go_wp2_with fail)
        all_goals go_meet
        all_goals refine ⟨rfl, ?_, ?_, ?_, ?_⟩
        all_goals first | (focus ((repeat (first | with_reducible assumption | ((with_reducible apply live_new) <;> (first | with_reducible rfl | (focus (simp; done)))) | with_reducible apply live_alloc | with_reducible apply live_drew | with_reducible apply live_drewN | ((with_reducible apply live_set_other); (case hb => first | omega | (simp; done))) | with_reducible apply live_set_same | (focus (simp; done)))); done)) | (repeat' (first | with_reducible exact Below.refl _ _ | with_reducible refine Below.drew ?_ | with_reducible refine below_drewN ?_ _ | with_reducible refine Below.alloc ?_ ?_ _ | with_reducible refine Below.setCell ?_ ?_ _ | with_reducible refine Below.trans ?_ (Below.mono (by with_reducible assumption) ?_) | (simp; done) | (simp; omega) | omega))
      case rest =>
        obtain ⟨rfl, L, L1, L2, hb⟩ := hcut
        have p0 := L.1
        obtain ⟨u0, u1, u2, u3, u4, u5, u6⟩ := mach_ax0 f x t L
        by_cases h0 : ab (a * m - a' * n) = 0
        · have e : junK f n m a b c d a' b' c' d' 1 = junK f n m a b c d a' b' c' d' 0 := by show jun1 _ _ _ _ (limC a b c d 0) (limC a' b' c' d' 0) = _; unfold jun1; exact if_pos h0
          have E := Lib.hid e
          clear e KS hS0 hS1
          generalize junK f n m a b c d a' b' c' d' 0 = V at *
          generalize ab (a * m - a' * n) = S at *
          subst h0
          go_wp2_with fail
          go_roundw
          case rel => exact ⟨1, by go_num, by omega, by rw [E.out], L, L1, L2, hb⟩
          case measure => first | (simp [intOf]; done) | (simp [intOf]; omega)
        · have e : junK f n m a b c d a' b' c' d' 1 = lesser (junK f n m a b c d a' b' c' d' 0) (f 4 * n) m (ab (a * m - a' * n)) := by show jun1 _ _ _ _ (limC a b c d 0) (limC a' b' c' d' 0) = _; unfold jun1; exact if_neg h0
          have KB := Lib.hid (fun w => lim_bounded (f 4 * n) m (ab (a * m - a' * n)) (junK f n m a b c d a' b' c' d' 0) w (by omega) (by have := HM.out; omega) (by omega) (by have := HK.out 0 (by omega); omega))
          rw [← e] at KB
          have hS : 0 < ab (a * m - a' * n) := by omega
          clear e KS hS1
          generalize junK f n m a b c d a' b' c' d' 0 = V at *
          generalize ab (a * m - a' * n) = S at *
          go_wp2_with (go_at_call 35; refine (KB.out _).mono ?_; rintro e w1 ⟨rfl, hb1⟩; have z1 := hb1.size; (try simp at z1); have L1a := live_below hb1 (b := w.heap.size) (by (repeat (first | with_reducible assumption | ((with_reducible apply live_new) <;> (first | with_reducible rfl | (focus (simp; done)))) | with_reducible apply live_alloc | with_reducible apply live_drew | with_reducible apply live_drewN | ((with_reducible apply live_set_other); (case hb => first | omega | (simp; done))) | with_reducible apply live_set_same | (focus (simp; done))))); obtain ⟨p1a, e1a, f1a⟩ := id L1a; have L1b := live_below hb1 (b := w.heap.size + 1) (by (repeat (first | with_reducible assumption | ((with_reducible apply live_new) <;> (first | with_reducible rfl | (focus (simp; done)))) | with_reducible apply live_alloc | with_reducible apply live_drew | with_reducible apply live_drewN | ((with_reducible apply live_set_other); (case hb => first | omega | (simp; done))) | with_reducible apply live_set_same | (focus (simp; done))))); obtain ⟨p1b, e1b, f1b⟩ := id L1b; have L1c := live_below hb1 (b := w.heap.size + 2) (by (repeat (first | with_reducible assumption | ((with_reducible apply live_new) <;> (first | with_reducible rfl | (focus (simp; done)))) | with_reducible apply live_alloc | with_reducible apply live_drew | with_reducible apply live_drewN | ((with_reducible apply live_set_other); (case hb => first | omega | (simp; done))) | with_reducible apply live_set_same | (focus (simp; done))))); obtain ⟨p1c, e1c, f1c⟩ := id L1c)
          go_roundw
          case rel => exact ⟨1, by go_num, by omega, rfl, L1a, L1b, L1c, by (repeat' (first | with_reducible exact Below.refl _ _ | with_reducible refine Below.drew ?_ | with_reducible refine below_drewN ?_ _ | with_reducible refine Below.alloc ?_ ?_ _ | with_reducible refine Below.setCell ?_ ?_ _ | with_reducible refine Below.trans ?_ (Below.mono (by with_reducible assumption) ?_) | (simp; done) | (simp; omega) | omega))⟩
          case measure => first | (simp [intOf]; done) | (simp [intOf]; omega)
    · obtain ⟨u0, u1, u2, u3, u4, u5, u6⟩ := mach_ax1 f x t L
      have hj : 0 ≤ f 11 ∧ f 11 ≤ 1048576 := (HA.out 1 (by omega)).2.2
      have hbd := jun_bd b b' n m (by have := HB.out; omega) (by have := HB'.out; omega) HN.out HM.out
      have hbj := jun_bj (f 11) n hj HN.out
      have w1 : RowKit.wrap64 (b * m) = b * m := by unfold RowKit.wrap64; omega
      have w2 : RowKit.wrap64 (b' * n) = b' * n := by unfold RowKit.wrap64; omega
      have w3 : RowKit.wrap64 (b * m - b' * n) = b * m - b' * n := by unfold RowKit.wrap64; omega
      have w4 : RowKit.wrap64 (f 11 * n) = f 11 * n := by unfold RowKit.wrap64; omega
      have v1 : IntKind.i64.wrap (b * m) = b * m := IntWalk.i64_in _ (by omega)
      have v2 : IntKind.i64.wrap (b' * n) = b' * n := IntWalk.i64_in _ (by omega)
      have v3 : IntKind.i64.wrap (b * m - b' * n) = b * m - b' * n := IntWalk.i64_in _ (by omega)
      have v4 : IntKind.i64.wrap (f 11 * n) = f 11 * n := IntWalk.i64_in _ (by omega)
      have KS := Lib.hid (fun w => lim_size (b * m - b' * n) w (by omega))
      have hS0 : 0 ≤ ab (b * m - b' * n) := by unfold ab; omega
      have hS1 : ab (b * m - b' * n) ≤ 1000000000000000 := by unfold ab; omega
      go_upto_region 7 with (fail)
      go_cut [11] (fun s11 wx => s11 = .int .i64 (ab (b * m - b' * n)) ∧ Live wx w.heap.size (mach f x t) ∧ Live wx (w.heap.size + 1) #[.int .i64 a, .int .i64 b, .int .i64 c, .int .i64 d] ∧ Live wx (w.heap.size + 2) #[.int .i64 a', .int .i64 b', .int .i64 c', .int .i64 d'] ∧ Below w.heap.size w wx)
      case first =>
        go_region_held3 (fun w' => w'.cell? ⟨w.heap.size + 1, 1, none⟩ = some (.int .i64 b) ∧ w'.cell? ⟨w.heap.size + 2, 1, none⟩ = some (.int .i64 b')) (go_keep)
          ((go_at_call 36; (with_reducible refine (KS.out _).mono ?_); rintro e w1 ⟨rfl, rfl⟩))
        all_goals (try go_wp2_with fail)
        all_goals go_meet
        all_goals refine ⟨rfl, ?_, ?_, ?_, ?_⟩
        all_goals first | (focus ((repeat (first | with_reducible assumption | ((with_reducible apply live_new) <;> (first | with_reducible rfl | (focus (simp; done)))) | with_reducible apply live_alloc | with_reducible apply live_drew | with_reducible apply live_drewN | ((with_reducible apply live_set_other); (case hb => first | omega | (simp; done))) | with_reducible apply live_set_same | (focus (simp; done)))); done)) | (repeat' (first | with_reducible exact Below.refl _ _ | with_reducible refine Below.drew ?_ | with_reducible refine below_drewN ?_ _ | with_reducible refine Below.alloc ?_ ?_ _ | with_reducible refine Below.setCell ?_ ?_ _ | with_reducible refine Below.trans ?_ (Below.mono (by with_reducible assumption) ?_) | (simp; done) | (simp; omega) | omega))
      case rest =>
        obtain ⟨rfl, L, L1, L2, hb⟩ := hcut
        have p0 := L.1
        obtain ⟨u0, u1, u2, u3, u4, u5, u6⟩ := mach_ax1 f x t L
        by_cases h0 : ab (b * m - b' * n) = 0
        · have e : junK f n m a b c d a' b' c' d' 2 = junK f n m a b c d a' b' c' d' 1 := by show jun1 _ _ _ _ (limC a b c d 1) (limC a' b' c' d' 1) = _; unfold jun1; exact if_pos h0
          have E := Lib.hid e
          clear e KS hS0 hS1
          generalize junK f n m a b c d a' b' c' d' 1 = V at *
          generalize ab (b * m - b' * n) = S at *
          subst h0
          go_wp2_with fail
          go_roundw
          case rel => exact ⟨2, by go_num, by omega, by rw [E.out], L, L1, L2, hb⟩
          case measure => first | (simp [intOf]; done) | (simp [intOf]; omega)
        · have e : junK f n m a b c d a' b' c' d' 2 = lesser (junK f n m a b c d a' b' c' d' 1) (f 11 * n) m (ab (b * m - b' * n)) := by show jun1 _ _ _ _ (limC a b c d 1) (limC a' b' c' d' 1) = _; unfold jun1; exact if_neg h0
          have KB := Lib.hid (fun w => lim_bounded (f 11 * n) m (ab (b * m - b' * n)) (junK f n m a b c d a' b' c' d' 1) w (by omega) (by have := HM.out; omega) (by omega) (by have := HK.out 1 (by omega); omega))
          rw [← e] at KB
          have hS : 0 < ab (b * m - b' * n) := by omega
          clear e KS hS1
          generalize junK f n m a b c d a' b' c' d' 1 = V at *
          generalize ab (b * m - b' * n) = S at *
          go_wp2_with (go_at_call 35; refine (KB.out _).mono ?_; rintro e w1 ⟨rfl, hb1⟩; have z1 := hb1.size; (try simp at z1); have L1a := live_below hb1 (b := w.heap.size) (by (repeat (first | with_reducible assumption | ((with_reducible apply live_new) <;> (first | with_reducible rfl | (focus (simp; done)))) | with_reducible apply live_alloc | with_reducible apply live_drew | with_reducible apply live_drewN | ((with_reducible apply live_set_other); (case hb => first | omega | (simp; done))) | with_reducible apply live_set_same | (focus (simp; done))))); obtain ⟨p1a, e1a, f1a⟩ := id L1a; have L1b := live_below hb1 (b := w.heap.size + 1) (by (repeat (first | with_reducible assumption | ((with_reducible apply live_new) <;> (first | with_reducible rfl | (focus (simp; done)))) | with_reducible apply live_alloc | with_reducible apply live_drew | with_reducible apply live_drewN | ((with_reducible apply live_set_other); (case hb => first | omega | (simp; done))) | with_reducible apply live_set_same | (focus (simp; done))))); obtain ⟨p1b, e1b, f1b⟩ := id L1b; have L1c := live_below hb1 (b := w.heap.size + 2) (by (repeat (first | with_reducible assumption | ((with_reducible apply live_new) <;> (first | with_reducible rfl | (focus (simp; done)))) | with_reducible apply live_alloc | with_reducible apply live_drew | with_reducible apply live_drewN | ((with_reducible apply live_set_other); (case hb => first | omega | (simp; done))) | with_reducible apply live_set_same | (focus (simp; done))))); obtain ⟨p1c, e1c, f1c⟩ := id L1c)
          go_roundw
          case rel => exact ⟨2, by go_num, by omega, rfl, L1a, L1b, L1c, by (repeat' (first | with_reducible exact Below.refl _ _ | with_reducible refine Below.drew ?_ | with_reducible refine below_drewN ?_ _ | with_reducible refine Below.alloc ?_ ?_ _ | with_reducible refine Below.setCell ?_ ?_ _ | with_reducible refine Below.trans ?_ (Below.mono (by with_reducible assumption) ?_) | (simp; done) | (simp; omega) | omega))⟩
          case measure => first | (simp [intOf]; done) | (simp [intOf]; omega)
    · obtain ⟨u0, u1, u2, u3, u4, u5, u6⟩ := mach_ax2 f x t L
      have hj : 0 ≤ f 18 ∧ f 18 ≤ 1048576 := (HA.out 2 (by omega)).2.2
      have hbd := jun_bd c c' n m (by have := HB.out; omega) (by have := HB'.out; omega) HN.out HM.out
      have hbj := jun_bj (f 18) n hj HN.out
      have w1 : RowKit.wrap64 (c * m) = c * m := by unfold RowKit.wrap64; omega
      have w2 : RowKit.wrap64 (c' * n) = c' * n := by unfold RowKit.wrap64; omega
      have w3 : RowKit.wrap64 (c * m - c' * n) = c * m - c' * n := by unfold RowKit.wrap64; omega
      have w4 : RowKit.wrap64 (f 18 * n) = f 18 * n := by unfold RowKit.wrap64; omega
      have v1 : IntKind.i64.wrap (c * m) = c * m := IntWalk.i64_in _ (by omega)
      have v2 : IntKind.i64.wrap (c' * n) = c' * n := IntWalk.i64_in _ (by omega)
      have v3 : IntKind.i64.wrap (c * m - c' * n) = c * m - c' * n := IntWalk.i64_in _ (by omega)
      have v4 : IntKind.i64.wrap (f 18 * n) = f 18 * n := IntWalk.i64_in _ (by omega)
      have KS := Lib.hid (fun w => lim_size (c * m - c' * n) w (by omega))
      have hS0 : 0 ≤ ab (c * m - c' * n) := by unfold ab; omega
      have hS1 : ab (c * m - c' * n) ≤ 1000000000000000 := by unfold ab; omega
      go_upto_region 7 with (fail)
      go_cut [11] (fun s11 wx => s11 = .int .i64 (ab (c * m - c' * n)) ∧ Live wx w.heap.size (mach f x t) ∧ Live wx (w.heap.size + 1) #[.int .i64 a, .int .i64 b, .int .i64 c, .int .i64 d] ∧ Live wx (w.heap.size + 2) #[.int .i64 a', .int .i64 b', .int .i64 c', .int .i64 d'] ∧ Below w.heap.size w wx)
      case first =>
        go_region_held3 (fun w' => w'.cell? ⟨w.heap.size + 1, 2, none⟩ = some (.int .i64 c) ∧ w'.cell? ⟨w.heap.size + 2, 2, none⟩ = some (.int .i64 c')) (go_keep)
          ((go_at_call 36; (with_reducible refine (KS.out _).mono ?_); rintro e w1 ⟨rfl, rfl⟩))
        all_goals (try go_wp2_with fail)
        all_goals go_meet
        all_goals refine ⟨rfl, ?_, ?_, ?_, ?_⟩
        all_goals first | (focus ((repeat (first | with_reducible assumption | ((with_reducible apply live_new) <;> (first | with_reducible rfl | (focus (simp; done)))) | with_reducible apply live_alloc | with_reducible apply live_drew | with_reducible apply live_drewN | ((with_reducible apply live_set_other); (case hb => first | omega | (simp; done))) | with_reducible apply live_set_same | (focus (simp; done)))); done)) | (repeat' (first | with_reducible exact Below.refl _ _ | with_reducible refine Below.drew ?_ | with_reducible refine below_drewN ?_ _ | with_reducible refine Below.alloc ?_ ?_ _ | with_reducible refine Below.setCell ?_ ?_ _ | with_reducible refine Below.trans ?_ (Below.mono (by with_reducible assumption) ?_) | (simp; done) | (simp; omega) | omega))
      case rest =>
        obtain ⟨rfl, L, L1, L2, hb⟩ := hcut
        have p0 := L.1
        obtain ⟨u0, u1, u2, u3, u4, u5, u6⟩ := mach_ax2 f x t L
        by_cases h0 : ab (c * m - c' * n) = 0
        · have e : junK f n m a b c d a' b' c' d' 3 = junK f n m a b c d a' b' c' d' 2 := by show jun1 _ _ _ _ (limC a b c d 2) (limC a' b' c' d' 2) = _; unfold jun1; exact if_pos h0
          have E := Lib.hid e
          clear e KS hS0 hS1
          generalize junK f n m a b c d a' b' c' d' 2 = V at *
          generalize ab (c * m - c' * n) = S at *
          subst h0
          go_wp2_with fail
          go_roundw
          case rel => exact ⟨3, by go_num, by omega, by rw [E.out], L, L1, L2, hb⟩
          case measure => first | (simp [intOf]; done) | (simp [intOf]; omega)
        · have e : junK f n m a b c d a' b' c' d' 3 = lesser (junK f n m a b c d a' b' c' d' 2) (f 18 * n) m (ab (c * m - c' * n)) := by show jun1 _ _ _ _ (limC a b c d 2) (limC a' b' c' d' 2) = _; unfold jun1; exact if_neg h0
          have KB := Lib.hid (fun w => lim_bounded (f 18 * n) m (ab (c * m - c' * n)) (junK f n m a b c d a' b' c' d' 2) w (by omega) (by have := HM.out; omega) (by omega) (by have := HK.out 2 (by omega); omega))
          rw [← e] at KB
          have hS : 0 < ab (c * m - c' * n) := by omega
          clear e KS hS1
          generalize junK f n m a b c d a' b' c' d' 2 = V at *
          generalize ab (c * m - c' * n) = S at *
          go_wp2_with (go_at_call 35; refine (KB.out _).mono ?_; rintro e w1 ⟨rfl, hb1⟩; have z1 := hb1.size; (try simp at z1); have L1a := live_below hb1 (b := w.heap.size) (by (repeat (first | with_reducible assumption | ((with_reducible apply live_new) <;> (first | with_reducible rfl | (focus (simp; done)))) | with_reducible apply live_alloc | with_reducible apply live_drew | with_reducible apply live_drewN | ((with_reducible apply live_set_other); (case hb => first | omega | (simp; done))) | with_reducible apply live_set_same | (focus (simp; done))))); obtain ⟨p1a, e1a, f1a⟩ := id L1a; have L1b := live_below hb1 (b := w.heap.size + 1) (by (repeat (first | with_reducible assumption | ((with_reducible apply live_new) <;> (first | with_reducible rfl | (focus (simp; done)))) | with_reducible apply live_alloc | with_reducible apply live_drew | with_reducible apply live_drewN | ((with_reducible apply live_set_other); (case hb => first | omega | (simp; done))) | with_reducible apply live_set_same | (focus (simp; done))))); obtain ⟨p1b, e1b, f1b⟩ := id L1b; have L1c := live_below hb1 (b := w.heap.size + 2) (by (repeat (first | with_reducible assumption | ((with_reducible apply live_new) <;> (first | with_reducible rfl | (focus (simp; done)))) | with_reducible apply live_alloc | with_reducible apply live_drew | with_reducible apply live_drewN | ((with_reducible apply live_set_other); (case hb => first | omega | (simp; done))) | with_reducible apply live_set_same | (focus (simp; done))))); obtain ⟨p1c, e1c, f1c⟩ := id L1c)
          go_roundw
          case rel => exact ⟨3, by go_num, by omega, rfl, L1a, L1b, L1c, by (repeat' (first | with_reducible exact Below.refl _ _ | with_reducible refine Below.drew ?_ | with_reducible refine below_drewN ?_ _ | with_reducible refine Below.alloc ?_ ?_ _ | with_reducible refine Below.setCell ?_ ?_ _ | with_reducible refine Below.trans ?_ (Below.mono (by with_reducible assumption) ?_) | (simp; done) | (simp; omega) | omega))⟩
          case measure => first | (simp [intOf]; done) | (simp [intOf]; omega)
    · obtain ⟨u0, u1, u2, u3, u4, u5, u6⟩ := mach_ax3 f x t L
      have hj : 0 ≤ f 25 ∧ f 25 ≤ 1048576 := (HA.out 3 (by omega)).2.2
      have hbd := jun_bd d d' n m (by have := HB.out; omega) (by have := HB'.out; omega) HN.out HM.out
      have hbj := jun_bj (f 25) n hj HN.out
      have w1 : RowKit.wrap64 (d * m) = d * m := by unfold RowKit.wrap64; omega
      have w2 : RowKit.wrap64 (d' * n) = d' * n := by unfold RowKit.wrap64; omega
      have w3 : RowKit.wrap64 (d * m - d' * n) = d * m - d' * n := by unfold RowKit.wrap64; omega
      have w4 : RowKit.wrap64 (f 25 * n) = f 25 * n := by unfold RowKit.wrap64; omega
      have v1 : IntKind.i64.wrap (d * m) = d * m := IntWalk.i64_in _ (by omega)
      have v2 : IntKind.i64.wrap (d' * n) = d' * n := IntWalk.i64_in _ (by omega)
      have v3 : IntKind.i64.wrap (d * m - d' * n) = d * m - d' * n := IntWalk.i64_in _ (by omega)
      have v4 : IntKind.i64.wrap (f 25 * n) = f 25 * n := IntWalk.i64_in _ (by omega)
      have KS := Lib.hid (fun w => lim_size (d * m - d' * n) w (by omega))
      have hS0 : 0 ≤ ab (d * m - d' * n) := by unfold ab; omega
      have hS1 : ab (d * m - d' * n) ≤ 1000000000000000 := by unfold ab; omega
      go_upto_region 7 with (fail)
      go_cut [11] (fun s11 wx => s11 = .int .i64 (ab (d * m - d' * n)) ∧ Live wx w.heap.size (mach f x t) ∧ Live wx (w.heap.size + 1) #[.int .i64 a, .int .i64 b, .int .i64 c, .int .i64 d] ∧ Live wx (w.heap.size + 2) #[.int .i64 a', .int .i64 b', .int .i64 c', .int .i64 d'] ∧ Below w.heap.size w wx)
      case first =>
        go_region_held3 (fun w' => w'.cell? ⟨w.heap.size + 1, 3, none⟩ = some (.int .i64 d) ∧ w'.cell? ⟨w.heap.size + 2, 3, none⟩ = some (.int .i64 d')) (go_keep)
          ((go_at_call 36; (with_reducible refine (KS.out _).mono ?_); rintro e w1 ⟨rfl, rfl⟩))
        all_goals (try go_wp2_with fail)
        all_goals go_meet
        all_goals refine ⟨rfl, ?_, ?_, ?_, ?_⟩
        all_goals first | (focus ((repeat (first | with_reducible assumption | ((with_reducible apply live_new) <;> (first | with_reducible rfl | (focus (simp; done)))) | with_reducible apply live_alloc | with_reducible apply live_drew | with_reducible apply live_drewN | ((with_reducible apply live_set_other); (case hb => first | omega | (simp; done))) | with_reducible apply live_set_same | (focus (simp; done)))); done)) | (repeat' (first | with_reducible exact Below.refl _ _ | with_reducible refine Below.drew ?_ | with_reducible refine below_drewN ?_ _ | with_reducible refine Below.alloc ?_ ?_ _ | with_reducible refine Below.setCell ?_ ?_ _ | with_reducible refine Below.trans ?_ (Below.mono (by with_reducible assumption) ?_) | (simp; done) | (simp; omega) | omega))
      case rest =>
        obtain ⟨rfl, L, L1, L2, hb⟩ := hcut
        have p0 := L.1
        obtain ⟨u0, u1, u2, u3, u4, u5, u6⟩ := mach_ax3 f x t L
        by_cases h0 : ab (d * m - d' * n) = 0
        · have e : junK f n m a b c d a' b' c' d' 4 = junK f n m a b c d a' b' c' d' 3 := by show jun1 _ _ _ _ (limC a b c d 3) (limC a' b' c' d' 3) = _; unfold jun1; exact if_pos h0
          have E := Lib.hid e
          clear e KS hS0 hS1
          generalize junK f n m a b c d a' b' c' d' 3 = V at *
          generalize ab (d * m - d' * n) = S at *
          subst h0
          go_wp2_with fail
          go_roundw
          case rel => exact ⟨4, by go_num, by omega, by rw [E.out], L, L1, L2, hb⟩
          case measure => first | (simp [intOf]; done) | (simp [intOf]; omega)
        · have e : junK f n m a b c d a' b' c' d' 4 = lesser (junK f n m a b c d a' b' c' d' 3) (f 25 * n) m (ab (d * m - d' * n)) := by show jun1 _ _ _ _ (limC a b c d 3) (limC a' b' c' d' 3) = _; unfold jun1; exact if_neg h0
          have KB := Lib.hid (fun w => lim_bounded (f 25 * n) m (ab (d * m - d' * n)) (junK f n m a b c d a' b' c' d' 3) w (by omega) (by have := HM.out; omega) (by omega) (by have := HK.out 3 (by omega); omega))
          rw [← e] at KB
          have hS : 0 < ab (d * m - d' * n) := by omega
          clear e KS hS1
          generalize junK f n m a b c d a' b' c' d' 3 = V at *
          generalize ab (d * m - d' * n) = S at *
          go_wp2_with (go_at_call 35; refine (KB.out _).mono ?_; rintro e w1 ⟨rfl, hb1⟩; have z1 := hb1.size; (try simp at z1); have L1a := live_below hb1 (b := w.heap.size) (by (repeat (first | with_reducible assumption | ((with_reducible apply live_new) <;> (first | with_reducible rfl | (focus (simp; done)))) | with_reducible apply live_alloc | with_reducible apply live_drew | with_reducible apply live_drewN | ((with_reducible apply live_set_other); (case hb => first | omega | (simp; done))) | with_reducible apply live_set_same | (focus (simp; done))))); obtain ⟨p1a, e1a, f1a⟩ := id L1a; have L1b := live_below hb1 (b := w.heap.size + 1) (by (repeat (first | with_reducible assumption | ((with_reducible apply live_new) <;> (first | with_reducible rfl | (focus (simp; done)))) | with_reducible apply live_alloc | with_reducible apply live_drew | with_reducible apply live_drewN | ((with_reducible apply live_set_other); (case hb => first | omega | (simp; done))) | with_reducible apply live_set_same | (focus (simp; done))))); obtain ⟨p1b, e1b, f1b⟩ := id L1b; have L1c := live_below hb1 (b := w.heap.size + 2) (by (repeat (first | with_reducible assumption | ((with_reducible apply live_new) <;> (first | with_reducible rfl | (focus (simp; done)))) | with_reducible apply live_alloc | with_reducible apply live_drew | with_reducible apply live_drewN | ((with_reducible apply live_set_other); (case hb => first | omega | (simp; done))) | with_reducible apply live_set_same | (focus (simp; done))))); obtain ⟨p1c, e1c, f1c⟩ := id L1c)
          go_roundw
          case rel => exact ⟨4, by go_num, by omega, rfl, L1a, L1b, L1c, by (repeat' (first | with_reducible exact Below.refl _ _ | with_reducible refine Below.drew ?_ | with_reducible refine below_drewN ?_ _ | with_reducible refine Below.alloc ?_ ?_ _ | with_reducible refine Below.setCell ?_ ?_ _ | with_reducible refine Below.trans ?_ (Below.mono (by with_reducible assumption) ?_) | (simp; done) | (simp; omega) | omega))⟩
          case measure => first | (simp [intOf]; done) | (simp [intOf]; omega)
    · go_wp2_with fail
      go_ret
      exact ⟨rfl, hb⟩
end Go.Proofs.Ytkiadcgdmeebmaa
