/- LimitsTurn: Junction is symmetric, a motion in the same direction has no junction limit, and a motor that turns back has the greatest jump -/
import Derived.Deep.DeepCutAuto
import Derived.BigQuiet
import Derived.Deep.RegionHeld3
import Derived.Deep.RegionWith
import Derived.RegionTactic
import Derived.BigRegion
import Derived.Test.YthodfmmmddfkmaaBase
import Derived.Test.YthodfmmmddfkmaaKinOpen
import Derived.Test.YthodfmmmddfkmaaL43ScaleP
import Derived.Test.YthodfmmmddfkmaaL43Awake
namespace Go.Proofs.Ythodfmmmddfkmaa.limitsTurn
open Go.ChangeShapes Go.WideShapes Go.ChangeAt Go.RowKit
set_option linter.unusedVariables false

attribute [local go_sem] cell_past1 cell_past2 cell_past3 cell_past4 froz_past1 froz_past2 froz_past3
attribute [local go_sem ↓] loadM_in

theorem live_M44 {w : World} {b b' c' : Nat} {f : Nat → Int} {x : Bool} {t : Int} {y z u v y' z' u' v' : Value} (h : Live w b (mach f x t)) (h' : Live w b' #[y, z, u, v]) (h2 : Live w c' #[y', z', u', v']) : w.rangeAt b 0 (mach f x t).toList ∧ w.cell? ⟨b', 0, none⟩ = some y ∧ w.cell? ⟨b', 1, none⟩ = some z ∧ w.cell? ⟨b', 2, none⟩ = some u ∧ w.cell? ⟨b', 3, none⟩ = some v ∧ w.cell? ⟨c', 0, none⟩ = some y' ∧ w.cell? ⟨c', 1, none⟩ = some z' ∧ w.cell? ⟨c', 2, none⟩ = some u' ∧ w.cell? ⟨c', 3, none⟩ = some v' :=
  ⟨live_rangeAll h, h'.2.1 0, h'.2.1 1, h'.2.1 2, h'.2.1 3, h2.2.1 0, h2.2.1 1, h2.2.1 2, h2.2.1 3⟩

theorem arr_at {w : World} {b : Nat} {x y z u : Int} (L : Live w b #[.int .i64 x, .int .i64 y, .int .i64 z, .int .i64 u]) (i : Nat) (hi : i < 4) : w.cell? ⟨b, i, none⟩ = some (.int .i64 (limC x y z u i)) := by
  rcases (by omega : i = 0 ∨ i = 1 ∨ i = 2 ∨ i = 3) with rfl | rfl | rfl | rfl
  · exact L.2.1 0
  · exact L.2.1 1
  · exact L.2.1 2
  · exact L.2.1 3
theorem mach_at {w : World} {b : Nat} {f : Nat → Int} {x : Bool} {t : Int} (L : Live w b (mach f x t)) (i : Nat) (hi : i < 4) : w.cell? ⟨b, i * 7 + 4, none⟩ = some (.int .i64 (f (7 * i + 4))) := by
  rcases (by omega : i = 0 ∨ i = 1 ∨ i = 2 ∨ i = 3) with rfl | rfl | rfl | rfl
  · exact L.2.1 4
  · exact L.2.1 11
  · exact L.2.1 18
  · exact L.2.1 25
theorem juncs2 (f : Nat → Int) (x : Bool) (t a b c d a' b' c' d' : Int) : ∃ U : Int, (∀ w : World, Calls Try.prog 32 #[.agg (mach f x t), .agg #[.int .i64 a, .int .i64 b, .int .i64 c, .int .i64 d], .agg #[.int .i64 a', .int .i64 b', .int .i64 c', .int .i64 d']] w fun e w' => e = .returned (.int .i64 U) ∧ Below w.heap.size w w') ∧ (∀ w : World, Calls Try.prog 32 #[.agg (mach f x t), .agg #[.int .i64 a', .int .i64 b', .int .i64 c', .int .i64 d'], .agg #[.int .i64 a, .int .i64 b, .int .i64 c, .int .i64 d]] w fun e w' => e = .returned (.int .i64 U) ∧ Below w.heap.size w w') ∧ ((ddaValid a b c d && kinValid f t) = false → U = 0) := by
  cases h : (ddaValid a b c d && (ddaValid a' b' c' d' && kinValid f t))
  · refine ⟨0, fun w => lim_junction_f f x t a b c d a' b' c' d' w h, fun w => lim_junction_f f x t a' b' c' d' a b c d w ?_, fun _ => rfl⟩
    revert h
    cases ddaValid a b c d <;> cases ddaValid a' b' c' d' <;> cases kinValid f t <;> simp
  · rw [Bool.and_eq_true, Bool.and_eq_true] at h
    refine ⟨_, fun w => lim_junction_t f x t a b c d a' b' c' d' w h.2.2 h.1 h.2.1, fun w => ?_, fun h2 => ?_⟩
    · have h3 := lim_junction_t f x t a' b' c' d' a b c d w h.2.2 h.2.1 h.1
      rw [junK_swap] at h3
      exact h3
    · rw [h.1, h.2.2] at h2
      cases h2

set_option maxRecDepth 100000 in
set_option maxHeartbeats 8000000 in
theorem turn_f (f : Nat → Int) (x : Bool) (t a b c d a' b' c' d' : Int) (w : World) (h : (ddaValid a b c d && kinValid f t) = false) :
    Calls Try.prog 13 #[.agg (mach f x t), .agg #[.int .i64 a, .int .i64 b, .int .i64 c, .int .i64 d], .agg #[.int .i64 a', .int .i64 b', .int .i64 c', .int .i64 d']] w fun e w' => e = .returned (.bool true) ∧ Below w.heap.size w w' := by
  obtain ⟨U, k1, k2, hU⟩ := juncs2 f x t a b c d a' b' c' d'
  have hU0 := hU h
  subst hU0
  have K1 := Lib.hid k1
  have K2 := Lib.hid k2
  have KV := Lib.hid (fun w => law43_valid f x t a b c d w)
  rw [h] at KV
  clear k1 k2 hU h
  go_enter Try.func13, Try.ntmps13
  go_upto_region 1 with (fail)
  refine gen_world (fun wx => Live wx w.heap.size (mach f x t) ∧ Live wx (w.heap.size + 1) #[.int .i64 a, .int .i64 b, .int .i64 c, .int .i64 d] ∧ Live wx (w.heap.size + 2) #[.int .i64 a', .int .i64 b', .int .i64 c', .int .i64 d'] ∧ Below w.heap.size w wx) ?_ ?_
  · refine ⟨live_alloc (live_alloc (live_new _ _ rfl) _) _, live_alloc (live_new _ _ (by simp)) _, live_new _ _ (by simp), ?_⟩
    (repeat' (first | with_reducible exact Below.refl _ _ | with_reducible refine Below.drew ?_ | with_reducible refine below_drewN ?_ _ | with_reducible refine Below.alloc ?_ ?_ _ | with_reducible refine Below.setCell ?_ ?_ _ | with_reducible refine Below.trans ?_ (Below.mono (by with_reducible assumption) ?_) | (simp; done) | (simp; omega) | omega))
  rintro wx ⟨L, L1, L2, hb⟩
  have p0 := L.1
  have p1 := L1.1
  have p2 := L2.1
  have lm := loadM_run (live_rangeAll L)
  obtain ⟨q0, q1, q2, q3⟩ := live_four L1
  obtain ⟨s0, s1, s2, s3⟩ := live_four L2
  have hld : ∀ w' : World, w'.rangeAt (w.heap.size) 0 (mach f x t).toList → (loadM (.pointer (some ⟨w.heap.size, 0, none⟩))).run Try.prog w' = .ok (.agg (mach f x t)) w' := fun w' h => loadM_run h
  go_region_held3 (fun w' => w'.rangeAt (w.heap.size) 0 (mach f x t).toList ∧ w'.cell? ⟨w.heap.size + 1, 0, none⟩ = some (.int .i64 a) ∧ w'.cell? ⟨w.heap.size + 1, 1, none⟩ = some (.int .i64 b) ∧ w'.cell? ⟨w.heap.size + 1, 2, none⟩ = some (.int .i64 c) ∧ w'.cell? ⟨w.heap.size + 1, 3, none⟩ = some (.int .i64 d) ∧ w'.cell? ⟨w.heap.size + 2, 0, none⟩ = some (.int .i64 a') ∧ w'.cell? ⟨w.heap.size + 2, 1, none⟩ = some (.int .i64 b') ∧ w'.cell? ⟨w.heap.size + 2, 2, none⟩ = some (.int .i64 c') ∧ w'.cell? ⟨w.heap.size + 2, 3, none⟩ = some (.int .i64 d')) (first | (focus (((with_reducible apply live_M44) <;> ((repeat (first | with_reducible assumption | ((with_reducible apply live_new) <;> (first | with_reducible rfl | (focus (simp; done)))) | with_reducible apply live_alloc | with_reducible apply live_drew | with_reducible apply live_drewN | ((with_reducible apply live_set_other); (case hb => first | omega | (simp; done))) | with_reducible apply live_set_same | (focus (simp; done)))))); done)) | go_keep)
    (first | (go_at_call 32; (with_reducible refine (K1.out _).mono ?_); rintro e w3 ⟨rfl, hb3⟩; have z3 := hb3.size; (try simp at z3); have L3a := live_below hb3 (b := w.heap.size) (by (repeat (first | with_reducible assumption | ((with_reducible apply live_new) <;> (first | with_reducible rfl | (focus (simp; done)))) | with_reducible apply live_alloc | with_reducible apply live_drew | with_reducible apply live_drewN | ((with_reducible apply live_set_other); (case hb => first | omega | (simp; done))) | with_reducible apply live_set_same | (focus (simp; done))))); obtain ⟨p3a, e3a, f3a⟩ := id L3a; have L3b := live_below hb3 (b := w.heap.size + 1) (by (repeat (first | with_reducible assumption | ((with_reducible apply live_new) <;> (first | with_reducible rfl | (focus (simp; done)))) | with_reducible apply live_alloc | with_reducible apply live_drew | with_reducible apply live_drewN | ((with_reducible apply live_set_other); (case hb => first | omega | (simp; done))) | with_reducible apply live_set_same | (focus (simp; done))))); obtain ⟨p3b, e3b, f3b⟩ := id L3b; have L3c := live_below hb3 (b := w.heap.size + 2) (by (repeat (first | with_reducible assumption | ((with_reducible apply live_new) <;> (first | with_reducible rfl | (focus (simp; done)))) | with_reducible apply live_alloc | with_reducible apply live_drew | with_reducible apply live_drewN | ((with_reducible apply live_set_other); (case hb => first | omega | (simp; done))) | with_reducible apply live_set_same | (focus (simp; done))))); obtain ⟨p3c, e3c, f3c⟩ := id L3c; clear e3a) | (go_at_call 32; (with_reducible refine (K2.out _).mono ?_); rintro e w4 ⟨rfl, hb4⟩; have z4 := hb4.size; (try simp at z4); have L4a := live_below hb4 (b := w.heap.size) (by (repeat (first | with_reducible assumption | ((with_reducible apply live_new) <;> (first | with_reducible rfl | (focus (simp; done)))) | with_reducible apply live_alloc | with_reducible apply live_drew | with_reducible apply live_drewN | ((with_reducible apply live_set_other); (case hb => first | omega | (simp; done))) | with_reducible apply live_set_same | (focus (simp; done))))); obtain ⟨p4a, e4a, f4a⟩ := id L4a; have L4b := live_below hb4 (b := w.heap.size + 1) (by (repeat (first | with_reducible assumption | ((with_reducible apply live_new) <;> (first | with_reducible rfl | (focus (simp; done)))) | with_reducible apply live_alloc | with_reducible apply live_drew | with_reducible apply live_drewN | ((with_reducible apply live_set_other); (case hb => first | omega | (simp; done))) | with_reducible apply live_set_same | (focus (simp; done))))); obtain ⟨p4b, e4b, f4b⟩ := id L4b; have L4c := live_below hb4 (b := w.heap.size + 2) (by (repeat (first | with_reducible assumption | ((with_reducible apply live_new) <;> (first | with_reducible rfl | (focus (simp; done)))) | with_reducible apply live_alloc | with_reducible apply live_drew | with_reducible apply live_drewN | ((with_reducible apply live_set_other); (case hb => first | omega | (simp; done))) | with_reducible apply live_set_same | (focus (simp; done))))); obtain ⟨p4c, e4c, f4c⟩ := id L4c; clear e4a))
  rename_i hh; clear hh
  refine gen_world (fun wx => Live wx w.heap.size (mach f x t) ∧ Live wx (w.heap.size + 1) #[.int .i64 a, .int .i64 b, .int .i64 c, .int .i64 d] ∧ Live wx (w.heap.size + 2) #[.int .i64 a', .int .i64 b', .int .i64 c', .int .i64 d'] ∧ Below w.heap.size w wx) ?_ ?_
  · refine ⟨?_, ?_, ?_, ?_⟩
    all_goals first | (focus ((repeat (first | with_reducible assumption | ((with_reducible apply live_new) <;> (first | with_reducible rfl | (focus (simp; done)))) | with_reducible apply live_alloc | with_reducible apply live_drew | with_reducible apply live_drewN | ((with_reducible apply live_set_other); (case hb => first | omega | (simp; done))) | with_reducible apply live_set_same | (focus (simp; done)))); done)) | (repeat' (first | with_reducible exact Below.refl _ _ | with_reducible refine Below.drew ?_ | with_reducible refine below_drewN ?_ _ | with_reducible refine Below.alloc ?_ ?_ _ | with_reducible refine Below.setCell ?_ ?_ _ | with_reducible refine Below.trans ?_ (Below.mono (by with_reducible assumption) ?_) | (simp; done) | (simp; omega) | omega))
  clear L L1 L2 hb p0 p1 p2 lm q0 q1 q2 q3 s0 s1 s2 s3
  rintro wx ⟨L, L1, L2, hb⟩
  have p0 := L.1
  have p1 := L1.1
  have p2 := L2.1
  have lm := loadM_run (live_rangeAll L)
  obtain ⟨q0, q1, q2, q3⟩ := live_four L1
  obtain ⟨s0, s1, s2, s3⟩ := live_four L2
  go_wp2_with (first | (go_at_call 34; (with_reducible refine (KV.out _).mono ?_); rintro e w1 ⟨rfl, hb1⟩; have z1 := hb1.size; (try simp at z1); have L1a := live_below hb1 (b := w.heap.size) (by (repeat (first | with_reducible assumption | ((with_reducible apply live_new) <;> (first | with_reducible rfl | (focus (simp; done)))) | with_reducible apply live_alloc | with_reducible apply live_drew | with_reducible apply live_drewN | ((with_reducible apply live_set_other); (case hb => first | omega | (simp; done))) | with_reducible apply live_set_same | (focus (simp; done))))); obtain ⟨p1a, e1a, f1a⟩ := id L1a; have L1b := live_below hb1 (b := w.heap.size + 1) (by (repeat (first | with_reducible assumption | ((with_reducible apply live_new) <;> (first | with_reducible rfl | (focus (simp; done)))) | with_reducible apply live_alloc | with_reducible apply live_drew | with_reducible apply live_drewN | ((with_reducible apply live_set_other); (case hb => first | omega | (simp; done))) | with_reducible apply live_set_same | (focus (simp; done))))); obtain ⟨p1b, e1b, f1b⟩ := id L1b; have L1c := live_below hb1 (b := w.heap.size + 2) (by (repeat (first | with_reducible assumption | ((with_reducible apply live_new) <;> (first | with_reducible rfl | (focus (simp; done)))) | with_reducible apply live_alloc | with_reducible apply live_drew | with_reducible apply live_drewN | ((with_reducible apply live_set_other); (case hb => first | omega | (simp; done))) | with_reducible apply live_set_same | (focus (simp; done))))); obtain ⟨p1c, e1c, f1c⟩ := id L1c; clear e1a; have lm1 := loadM_run (live_rangeAll L1a); obtain ⟨q10, q11, q12, q13⟩ := live_four L1b; obtain ⟨s10, s11, s12, s13⟩ := live_four L1c) | (go_at_call 32; (with_reducible refine (K1.out _).mono ?_); rintro e w2 ⟨rfl, hb2⟩; have z2 := hb2.size; (try simp at z2); have L2a := live_below hb2 (b := w.heap.size) (by (repeat (first | with_reducible assumption | ((with_reducible apply live_new) <;> (first | with_reducible rfl | (focus (simp; done)))) | with_reducible apply live_alloc | with_reducible apply live_drew | with_reducible apply live_drewN | ((with_reducible apply live_set_other); (case hb => first | omega | (simp; done))) | with_reducible apply live_set_same | (focus (simp; done))))); obtain ⟨p2a, e2a, f2a⟩ := id L2a; have L2b := live_below hb2 (b := w.heap.size + 1) (by (repeat (first | with_reducible assumption | ((with_reducible apply live_new) <;> (first | with_reducible rfl | (focus (simp; done)))) | with_reducible apply live_alloc | with_reducible apply live_drew | with_reducible apply live_drewN | ((with_reducible apply live_set_other); (case hb => first | omega | (simp; done))) | with_reducible apply live_set_same | (focus (simp; done))))); obtain ⟨p2b, e2b, f2b⟩ := id L2b; have L2c := live_below hb2 (b := w.heap.size + 2) (by (repeat (first | with_reducible assumption | ((with_reducible apply live_new) <;> (first | with_reducible rfl | (focus (simp; done)))) | with_reducible apply live_alloc | with_reducible apply live_drew | with_reducible apply live_drewN | ((with_reducible apply live_set_other); (case hb => first | omega | (simp; done))) | with_reducible apply live_set_same | (focus (simp; done))))); obtain ⟨p2c, e2c, f2c⟩ := id L2c; clear e2a; have lm2 := loadM_run (live_rangeAll L2a); obtain ⟨q20, q21, q22, q23⟩ := live_four L2b; obtain ⟨s20, s21, s22, s23⟩ := live_four L2c) | (go_at_call 29; refine (law43_awake _).mono ?_; rintro e w9 ⟨rfl, hb9⟩; have z9 := hb9.size; (try simp at z9)))
  go_ret
  refine ⟨rfl, ?_⟩
  (repeat' (first | with_reducible exact Below.refl _ _ | with_reducible refine Below.drew ?_ | with_reducible refine below_drewN ?_ _ | with_reducible refine Below.alloc ?_ ?_ _ | with_reducible refine Below.setCell ?_ ?_ _ | with_reducible refine Below.trans ?_ (Below.mono (by with_reducible assumption) ?_) | (simp; done) | (simp; omega) | omega))

def TRel (f : Nat → Int) (x : Bool) (t a b c d a' b' c' d' : Int) (w : World) (C : Nat) (s10 : Value) (wx : World) : Prop :=
  ∃ i : Nat, s10 = .int .i64 i ∧ i ≤ 4 ∧ Live wx w.heap.size (mach f x t) ∧ Live wx (w.heap.size + 1) #[.int .i64 a, .int .i64 b, .int .i64 c, .int .i64 d] ∧ Live wx (w.heap.size + 2) #[.int .i64 a', .int .i64 b', .int .i64 c', .int .i64 d'] ∧ Live wx C #[.int .i64 (-a), .int .i64 (-b), .int .i64 (-c), .int .i64 (-d)] ∧ Below w.heap.size w wx

set_option maxRecDepth 100000 in
set_option maxHeartbeats 8000000 in
theorem turn_t (f : Nat → Int) (x : Bool) (t a b c d a' b' c' d' : Int) (w : World) (hz : kinValid f t = true) (hv : ddaValid a b c d = true) :
    Calls Try.prog 13 #[.agg (mach f x t), .agg #[.int .i64 a, .int .i64 b, .int .i64 c, .int .i64 d], .agg #[.int .i64 a', .int .i64 b', .int .i64 c', .int .i64 d']] w fun e w' => e = .returned (.bool true) ∧ Below w.heap.size w w' := by
  obtain ⟨U, k1, k2, hU⟩ := juncs2 f x t a b c d a' b' c' d'
  have hUU : (U != U) = false := by simp
  have K1 := Lib.hid k1
  have K2 := Lib.hid k2
  have KV := Lib.hid (show ∀ w : World, Calls Try.prog 34 #[.agg (mach f x t), .agg #[.int .i64 a, .int .i64 b, .int .i64 c, .int .i64 d]] w fun e w' => e = .returned (.bool true) ∧ Below w.heap.size w w' from fun w => by have h := law43_valid f x t a b c d w; rw [hv, hz] at h; exact h)
  have hvn : ddaValid (-a) (-b) (-c) (-d) = true := by rw [ddaValid_neg]; exact hv
  have KJ := Lib.hid (fun w => lim_junction_t f x t a b c d (-a) (-b) (-c) (-d) w hz hv hvn)
  have KK := Lib.hid (fun w => lim_junction_t f x t a b c d a b c d w hz hv hv)
  rw [ddaDom_neg] at KJ
  rw [junK_same] at KK
  have KD := Lib.hid (fun w => ref42_dom_b a b c d w)
  have hn := ddaDom_in a b c d
  have hn1 := ddaDom_pos a b c d hv
  have hca := limC_range a b c d hv
  have hax := acc_facts f t hz
  have hback := junK_back f (ddaDom a b c d) a b c d hn1
  have rj := junK_in f (ddaDom a b c d) (ddaDom a b c d) a b c d (-a) (-b) (-c) (-d) (fun k hk => (hax k hk).2.2.1) hn.1 hn.1 4 (by omega)
  generalize junK f (ddaDom a b c d) (ddaDom a b c d) a b c d (-a) (-b) (-c) (-d) 4 = v at *
  generalize ddaDom a b c d = n at *
  have hb4 := hv
  simp only [ddaValid, decide_eq_true_eq] at hb4
  have w2v : RowKit.wrap64 (2 * v) = 2 * v := by unfold RowKit.wrap64; omega
  have i2v : IntKind.i64.wrap (2 * v) = 2 * v := IntWalk.i64_in _ (by omega)
  have n0 : RowKit.wrap64 (-a) = -a := by unfold RowKit.wrap64; omega
  have n1 : RowKit.wrap64 (-b) = -b := by unfold RowKit.wrap64; omega
  have n2 : RowKit.wrap64 (-c) = -c := by unfold RowKit.wrap64; omega
  have n3 : RowKit.wrap64 (-d) = -d := by unfold RowKit.wrap64; omega
  have HB4 := Lib.hid hb4
  have HAX := Lib.hid hax
  have HBACK := Lib.hid hback
  have HCA := Lib.hid hca
  have HN := Lib.hid hn
  have HRJ := Lib.hid rj
  clear k1 k2 hU hz hv hvn hn hn1 hca hax hback rj hb4
  go_enter Try.func13, Try.ntmps13
  go_upto_region 1 with (fail)
  refine gen_world (fun wx => Live wx w.heap.size (mach f x t) ∧ Live wx (w.heap.size + 1) #[.int .i64 a, .int .i64 b, .int .i64 c, .int .i64 d] ∧ Live wx (w.heap.size + 2) #[.int .i64 a', .int .i64 b', .int .i64 c', .int .i64 d'] ∧ Below w.heap.size w wx) ?_ ?_
  · refine ⟨live_alloc (live_alloc (live_new _ _ rfl) _) _, live_alloc (live_new _ _ (by simp)) _, live_new _ _ (by simp), ?_⟩
    (repeat' (first | with_reducible exact Below.refl _ _ | with_reducible refine Below.drew ?_ | with_reducible refine below_drewN ?_ _ | with_reducible refine Below.alloc ?_ ?_ _ | with_reducible refine Below.setCell ?_ ?_ _ | with_reducible refine Below.trans ?_ (Below.mono (by with_reducible assumption) ?_) | (simp; done) | (simp; omega) | omega))
  rintro wx ⟨L, L1, L2, hb⟩
  have p0 := L.1
  have p1 := L1.1
  have p2 := L2.1
  have lm := loadM_run (live_rangeAll L)
  obtain ⟨q0, q1, q2, q3⟩ := live_four L1
  obtain ⟨s0, s1, s2, s3⟩ := live_four L2
  have hld : ∀ w' : World, w'.rangeAt (w.heap.size) 0 (mach f x t).toList → (loadM (.pointer (some ⟨w.heap.size, 0, none⟩))).run Try.prog w' = .ok (.agg (mach f x t)) w' := fun w' h => loadM_run h
  go_region_held3 (fun w' => w'.rangeAt (w.heap.size) 0 (mach f x t).toList ∧ w'.cell? ⟨w.heap.size + 1, 0, none⟩ = some (.int .i64 a) ∧ w'.cell? ⟨w.heap.size + 1, 1, none⟩ = some (.int .i64 b) ∧ w'.cell? ⟨w.heap.size + 1, 2, none⟩ = some (.int .i64 c) ∧ w'.cell? ⟨w.heap.size + 1, 3, none⟩ = some (.int .i64 d) ∧ w'.cell? ⟨w.heap.size + 2, 0, none⟩ = some (.int .i64 a') ∧ w'.cell? ⟨w.heap.size + 2, 1, none⟩ = some (.int .i64 b') ∧ w'.cell? ⟨w.heap.size + 2, 2, none⟩ = some (.int .i64 c') ∧ w'.cell? ⟨w.heap.size + 2, 3, none⟩ = some (.int .i64 d')) (first | (focus (((with_reducible apply live_M44) <;> ((repeat (first | with_reducible assumption | ((with_reducible apply live_new) <;> (first | with_reducible rfl | (focus (simp; done)))) | with_reducible apply live_alloc | with_reducible apply live_drew | with_reducible apply live_drewN | ((with_reducible apply live_set_other); (case hb => first | omega | (simp; done))) | with_reducible apply live_set_same | (focus (simp; done)))))); done)) | go_keep)
    (first | (go_at_call 32; (with_reducible refine (K1.out _).mono ?_); rintro e w3 ⟨rfl, hb3⟩; have z3 := hb3.size; (try simp at z3); have L3a := live_below hb3 (b := w.heap.size) (by (repeat (first | with_reducible assumption | ((with_reducible apply live_new) <;> (first | with_reducible rfl | (focus (simp; done)))) | with_reducible apply live_alloc | with_reducible apply live_drew | with_reducible apply live_drewN | ((with_reducible apply live_set_other); (case hb => first | omega | (simp; done))) | with_reducible apply live_set_same | (focus (simp; done))))); obtain ⟨p3a, e3a, f3a⟩ := id L3a; have L3b := live_below hb3 (b := w.heap.size + 1) (by (repeat (first | with_reducible assumption | ((with_reducible apply live_new) <;> (first | with_reducible rfl | (focus (simp; done)))) | with_reducible apply live_alloc | with_reducible apply live_drew | with_reducible apply live_drewN | ((with_reducible apply live_set_other); (case hb => first | omega | (simp; done))) | with_reducible apply live_set_same | (focus (simp; done))))); obtain ⟨p3b, e3b, f3b⟩ := id L3b; have L3c := live_below hb3 (b := w.heap.size + 2) (by (repeat (first | with_reducible assumption | ((with_reducible apply live_new) <;> (first | with_reducible rfl | (focus (simp; done)))) | with_reducible apply live_alloc | with_reducible apply live_drew | with_reducible apply live_drewN | ((with_reducible apply live_set_other); (case hb => first | omega | (simp; done))) | with_reducible apply live_set_same | (focus (simp; done))))); obtain ⟨p3c, e3c, f3c⟩ := id L3c; clear e3a) | (go_at_call 32; (with_reducible refine (K2.out _).mono ?_); rintro e w4 ⟨rfl, hb4⟩; have z4 := hb4.size; (try simp at z4); have L4a := live_below hb4 (b := w.heap.size) (by (repeat (first | with_reducible assumption | ((with_reducible apply live_new) <;> (first | with_reducible rfl | (focus (simp; done)))) | with_reducible apply live_alloc | with_reducible apply live_drew | with_reducible apply live_drewN | ((with_reducible apply live_set_other); (case hb => first | omega | (simp; done))) | with_reducible apply live_set_same | (focus (simp; done))))); obtain ⟨p4a, e4a, f4a⟩ := id L4a; have L4b := live_below hb4 (b := w.heap.size + 1) (by (repeat (first | with_reducible assumption | ((with_reducible apply live_new) <;> (first | with_reducible rfl | (focus (simp; done)))) | with_reducible apply live_alloc | with_reducible apply live_drew | with_reducible apply live_drewN | ((with_reducible apply live_set_other); (case hb => first | omega | (simp; done))) | with_reducible apply live_set_same | (focus (simp; done))))); obtain ⟨p4b, e4b, f4b⟩ := id L4b; have L4c := live_below hb4 (b := w.heap.size + 2) (by (repeat (first | with_reducible assumption | ((with_reducible apply live_new) <;> (first | with_reducible rfl | (focus (simp; done)))) | with_reducible apply live_alloc | with_reducible apply live_drew | with_reducible apply live_drewN | ((with_reducible apply live_set_other); (case hb => first | omega | (simp; done))) | with_reducible apply live_set_same | (focus (simp; done))))); obtain ⟨p4c, e4c, f4c⟩ := id L4c; clear e4a))
  rename_i hh; clear hh
  refine gen_world (fun wx => Live wx w.heap.size (mach f x t) ∧ Live wx (w.heap.size + 1) #[.int .i64 a, .int .i64 b, .int .i64 c, .int .i64 d] ∧ Live wx (w.heap.size + 2) #[.int .i64 a', .int .i64 b', .int .i64 c', .int .i64 d'] ∧ Below w.heap.size w wx) ?_ ?_
  · refine ⟨?_, ?_, ?_, ?_⟩
    all_goals first | (focus ((repeat (first | with_reducible assumption | ((with_reducible apply live_new) <;> (first | with_reducible rfl | (focus (simp; done)))) | with_reducible apply live_alloc | with_reducible apply live_drew | with_reducible apply live_drewN | ((with_reducible apply live_set_other); (case hb => first | omega | (simp; done))) | with_reducible apply live_set_same | (focus (simp; done)))); done)) | (repeat' (first | with_reducible exact Below.refl _ _ | with_reducible refine Below.drew ?_ | with_reducible refine below_drewN ?_ _ | with_reducible refine Below.alloc ?_ ?_ _ | with_reducible refine Below.setCell ?_ ?_ _ | with_reducible refine Below.trans ?_ (Below.mono (by with_reducible assumption) ?_) | (simp; done) | (simp; omega) | omega))
  clear L L1 L2 hb p0 p1 p2 lm q0 q1 q2 q3 s0 s1 s2 s3
  rintro wx ⟨L, L1, L2, hb⟩
  have p0 := L.1
  have p1 := L1.1
  have p2 := L2.1
  have lm := loadM_run (live_rangeAll L)
  obtain ⟨q0, q1, q2, q3⟩ := live_four L1
  go_upto_region 6 with ((go_at_call 34; (with_reducible refine (KV.out _).mono ?_); rintro e w1 ⟨rfl, hb1⟩; have z1 := hb1.size; (try simp at z1); have L1a := live_below hb1 (b := w.heap.size) (by (repeat (first | with_reducible assumption | ((with_reducible apply live_new) <;> (first | with_reducible rfl | (focus (simp; done)))) | with_reducible apply live_alloc | with_reducible apply live_drew | with_reducible apply live_drewN | ((with_reducible apply live_set_other); (case hb => first | omega | (simp; done))) | with_reducible apply live_set_same | (focus (simp; done))))); obtain ⟨p1a, e1a, f1a⟩ := id L1a; have L1b := live_below hb1 (b := w.heap.size + 1) (by (repeat (first | with_reducible assumption | ((with_reducible apply live_new) <;> (first | with_reducible rfl | (focus (simp; done)))) | with_reducible apply live_alloc | with_reducible apply live_drew | with_reducible apply live_drewN | ((with_reducible apply live_set_other); (case hb => first | omega | (simp; done))) | with_reducible apply live_set_same | (focus (simp; done))))); obtain ⟨p1b, e1b, f1b⟩ := id L1b; have L1c := live_below hb1 (b := w.heap.size + 2) (by (repeat (first | with_reducible assumption | ((with_reducible apply live_new) <;> (first | with_reducible rfl | (focus (simp; done)))) | with_reducible apply live_alloc | with_reducible apply live_drew | with_reducible apply live_drewN | ((with_reducible apply live_set_other); (case hb => first | omega | (simp; done))) | with_reducible apply live_set_same | (focus (simp; done))))); obtain ⟨p1c, e1c, f1c⟩ := id L1c; clear e1a; have lm1 := loadM_run (live_rangeAll L1a); obtain ⟨q10, q11, q12, q13⟩ := live_four L1b; obtain ⟨s10, s11, s12, s13⟩ := live_four L1c))
  refine gen_world (fun wx => ∃ C, w.heap.size + 2 < C ∧ C = w1.heap.size ∧ Live wx w.heap.size (mach f x t) ∧ Live wx (w.heap.size + 1) #[.int .i64 a, .int .i64 b, .int .i64 c, .int .i64 d] ∧ Live wx (w.heap.size + 2) #[.int .i64 a', .int .i64 b', .int .i64 c', .int .i64 d'] ∧ Live wx C #[.int .i64 0, .int .i64 0, .int .i64 0, .int .i64 0] ∧ Below w.heap.size w wx) ?_ ?_
  · refine ⟨_, by omega, rfl, ?_, ?_, ?_, ?_, ?_⟩
    all_goals first | (focus (((apply live_conv); (· (repeat (first | with_reducible assumption | ((with_reducible apply live_new) <;> (first | with_reducible rfl | (focus (simp; done)))) | with_reducible apply live_alloc | with_reducible apply live_drew | with_reducible apply live_drewN | ((with_reducible apply live_set_other); (case hb => first | omega | (simp; done))) | with_reducible apply live_set_same | (focus (simp; done))))); (· first | rfl | (simp; done))); done)) | (repeat' (first | with_reducible exact Below.refl _ _ | with_reducible refine Below.drew ?_ | with_reducible refine below_drewN ?_ _ | with_reducible refine Below.alloc ?_ ?_ _ | with_reducible refine Below.setCell ?_ ?_ _ | with_reducible refine Below.trans ?_ (Below.mono (by with_reducible assumption) ?_) | (simp; done) | (simp; omega) | omega))
  clear L L1 L2 hb p0 p1 p2 lm q0 q1 q2 q3
  rintro wx ⟨C, hC, hCe, L, L1, L2, L3, hb⟩
  rw [← hCe]
  clear hCe hb1 z1 L1a L1b L1c p1a p1b p1c e1b e1c f1a f1b f1c lm1 q10 q11 q12 q13 s10 s11 s12 s13
  have p0 := L.1
  have p1 := L1.1
  have p2 := L2.1
  obtain ⟨p3, e3, f3⟩ := id L3
  obtain ⟨q0, q1, q2, q3⟩ := live_four L1
  go_wp2_with fail
  refine wp_loop_rounds 5 ?_
  rw [rounds_succ]
  go_wp2_with fail
  refine gen_world (fun wx => Live wx w.heap.size (mach f x t) ∧ Live wx (w.heap.size + 1) #[.int .i64 a, .int .i64 b, .int .i64 c, .int .i64 d] ∧ Live wx (w.heap.size + 2) #[.int .i64 a', .int .i64 b', .int .i64 c', .int .i64 d'] ∧ Live wx C #[.int .i64 (-a), .int .i64 0, .int .i64 0, .int .i64 0] ∧ Below w.heap.size w wx) ?_ ?_
  · refine ⟨?_, ?_, ?_, ?_, ?_⟩
    · exact live_set_other L _ _ _ (by omega)
    · exact live_set_other L1 _ _ _ (by omega)
    · exact live_set_other L2 _ _ _ (by omega)
    · exact live_conv (live_set_same L3 0 _ (by simp)) (by simp)
    · exact hb.setCell (by simp; omega) _
  clear L L1 L2 L3 hb p0 p1 p2 p3 e3 f3 q0 q1 q2 q3
  rintro wx ⟨L, L1, L2, L3, hb⟩
  have p0 := L.1
  have p1 := L1.1
  have p2 := L2.1
  obtain ⟨p3, e3, f3⟩ := id L3
  obtain ⟨q0, q1, q2, q3⟩ := live_four L1
  rw [rounds_succ]
  go_wp2_with fail
  refine gen_world (fun wx => Live wx w.heap.size (mach f x t) ∧ Live wx (w.heap.size + 1) #[.int .i64 a, .int .i64 b, .int .i64 c, .int .i64 d] ∧ Live wx (w.heap.size + 2) #[.int .i64 a', .int .i64 b', .int .i64 c', .int .i64 d'] ∧ Live wx C #[.int .i64 (-a), .int .i64 (-b), .int .i64 0, .int .i64 0] ∧ Below w.heap.size w wx) ?_ ?_
  · refine ⟨?_, ?_, ?_, ?_, ?_⟩
    · exact live_set_other L _ _ _ (by omega)
    · exact live_set_other L1 _ _ _ (by omega)
    · exact live_set_other L2 _ _ _ (by omega)
    · exact live_conv (live_set_same L3 1 _ (by simp)) (by simp)
    · exact hb.setCell (by simp; omega) _
  clear L L1 L2 L3 hb p0 p1 p2 p3 e3 f3 q0 q1 q2 q3
  rintro wx ⟨L, L1, L2, L3, hb⟩
  have p0 := L.1
  have p1 := L1.1
  have p2 := L2.1
  obtain ⟨p3, e3, f3⟩ := id L3
  obtain ⟨q0, q1, q2, q3⟩ := live_four L1
  rw [rounds_succ]
  go_wp2_with fail
  refine gen_world (fun wx => Live wx w.heap.size (mach f x t) ∧ Live wx (w.heap.size + 1) #[.int .i64 a, .int .i64 b, .int .i64 c, .int .i64 d] ∧ Live wx (w.heap.size + 2) #[.int .i64 a', .int .i64 b', .int .i64 c', .int .i64 d'] ∧ Live wx C #[.int .i64 (-a), .int .i64 (-b), .int .i64 (-c), .int .i64 0] ∧ Below w.heap.size w wx) ?_ ?_
  · refine ⟨?_, ?_, ?_, ?_, ?_⟩
    · exact live_set_other L _ _ _ (by omega)
    · exact live_set_other L1 _ _ _ (by omega)
    · exact live_set_other L2 _ _ _ (by omega)
    · exact live_conv (live_set_same L3 2 _ (by simp)) (by simp)
    · exact hb.setCell (by simp; omega) _
  clear L L1 L2 L3 hb p0 p1 p2 p3 e3 f3 q0 q1 q2 q3
  rintro wx ⟨L, L1, L2, L3, hb⟩
  have p0 := L.1
  have p1 := L1.1
  have p2 := L2.1
  obtain ⟨p3, e3, f3⟩ := id L3
  obtain ⟨q0, q1, q2, q3⟩ := live_four L1
  rw [rounds_succ]
  go_wp2_with fail
  refine gen_world (fun wx => Live wx w.heap.size (mach f x t) ∧ Live wx (w.heap.size + 1) #[.int .i64 a, .int .i64 b, .int .i64 c, .int .i64 d] ∧ Live wx (w.heap.size + 2) #[.int .i64 a', .int .i64 b', .int .i64 c', .int .i64 d'] ∧ Live wx C #[.int .i64 (-a), .int .i64 (-b), .int .i64 (-c), .int .i64 (-d)] ∧ Below w.heap.size w wx) ?_ ?_
  · refine ⟨?_, ?_, ?_, ?_, ?_⟩
    · exact live_set_other L _ _ _ (by omega)
    · exact live_set_other L1 _ _ _ (by omega)
    · exact live_set_other L2 _ _ _ (by omega)
    · exact live_conv (live_set_same L3 3 _ (by simp)) (by simp)
    · exact hb.setCell (by simp; omega) _
  clear L L1 L2 L3 hb p0 p1 p2 p3 e3 f3 q0 q1 q2 q3
  rintro wx ⟨L, L1, L2, L3, hb⟩
  have p0 := L.1
  have p1 := L1.1
  have p2 := L2.1
  obtain ⟨p3, e3, f3⟩ := id L3
  obtain ⟨q0, q1, q2, q3⟩ := live_four L1
  clear e3 f3 n0 n1 n2 n3
  have lm := loadM_run (live_rangeAll L)
  obtain ⟨u0, u1, u2, u3⟩ := live_four L3
  rw [rounds_succ]
  go_upto_region 11 with ((go_at_call 32; (with_reducible refine (KJ.out _).mono ?_); rintro e w1 ⟨rfl, hb1⟩; have z1 := hb1.size; (try simp at z1); have L1a := live_below hb1 (b := w.heap.size) (by (repeat (first | with_reducible assumption | ((with_reducible apply live_new) <;> (first | with_reducible rfl | (focus (simp; done)))) | with_reducible apply live_alloc | with_reducible apply live_drew | with_reducible apply live_drewN | ((with_reducible apply live_set_other); (case hb => first | omega | (simp; done))) | with_reducible apply live_set_same | (focus (simp; done))))); obtain ⟨p1a, e1a, f1a⟩ := id L1a; have L1b := live_below hb1 (b := w.heap.size + 1) (by (repeat (first | with_reducible assumption | ((with_reducible apply live_new) <;> (first | with_reducible rfl | (focus (simp; done)))) | with_reducible apply live_alloc | with_reducible apply live_drew | with_reducible apply live_drewN | ((with_reducible apply live_set_other); (case hb => first | omega | (simp; done))) | with_reducible apply live_set_same | (focus (simp; done))))); obtain ⟨p1b, e1b, f1b⟩ := id L1b; have L1c := live_below hb1 (b := w.heap.size + 2) (by (repeat (first | with_reducible assumption | ((with_reducible apply live_new) <;> (first | with_reducible rfl | (focus (simp; done)))) | with_reducible apply live_alloc | with_reducible apply live_drew | with_reducible apply live_drewN | ((with_reducible apply live_set_other); (case hb => first | omega | (simp; done))) | with_reducible apply live_set_same | (focus (simp; done))))); obtain ⟨p1c, e1c, f1c⟩ := id L1c; have L1d := live_below hb1 (b := C) (by (repeat (first | with_reducible assumption | ((with_reducible apply live_new) <;> (first | with_reducible rfl | (focus (simp; done)))) | with_reducible apply live_alloc | with_reducible apply live_drew | with_reducible apply live_drewN | ((with_reducible apply live_set_other); (case hb => first | omega | (simp; done))) | with_reducible apply live_set_same | (focus (simp; done))))); obtain ⟨p1d, e1d, f1d⟩ := id L1d; clear e1a; have lm1 := loadM_run (live_rangeAll L1a); obtain ⟨q10, q11, q12, q13⟩ := live_four L1b; obtain ⟨s10, s11, s12, s13⟩ := live_four L1d))
  refine gen_world (fun wx => Live wx w.heap.size (mach f x t) ∧ Live wx (w.heap.size + 1) #[.int .i64 a, .int .i64 b, .int .i64 c, .int .i64 d] ∧ Live wx (w.heap.size + 2) #[.int .i64 a', .int .i64 b', .int .i64 c', .int .i64 d'] ∧ Live wx C #[.int .i64 (-a), .int .i64 (-b), .int .i64 (-c), .int .i64 (-d)] ∧ Below w.heap.size w wx) ?_ ?_
  · refine ⟨?_, ?_, ?_, ?_, ?_⟩
    all_goals first | (focus ((repeat (first | with_reducible assumption | ((with_reducible apply live_new) <;> (first | with_reducible rfl | (focus (simp; done)))) | with_reducible apply live_alloc | with_reducible apply live_drew | with_reducible apply live_drewN | ((with_reducible apply live_set_other); (case hb => first | omega | (simp; done))) | with_reducible apply live_set_same | (focus (simp; done)))); done)) | (repeat' (first | with_reducible exact Below.refl _ _ | with_reducible refine Below.drew ?_ | with_reducible refine below_drewN ?_ _ | with_reducible refine Below.alloc ?_ ?_ _ | with_reducible refine Below.setCell ?_ ?_ _ | with_reducible refine Below.trans ?_ (Below.mono (by with_reducible assumption) ?_) | (simp; done) | (simp; omega) | omega))
  clear L L1 L2 L3 hb p0 p1 p2 p3 q0 q1 q2 q3 u0 u1 u2 u3 lm hb1 z1 L1a L1b L1c L1d p1a p1b p1c p1d e1b e1c e1d f1a f1b f1c f1d lm1 q10 q11 q12 q13 s10 s11 s12 s13
  rintro wx ⟨L, L1, L2, L3, hb⟩
  go_wp2_with fail
  go_loopw [10] (TRel f x t a b c d a' b' c' d' w C) (fun i _ => 4 - (intOf i).toNat)
  case atStart => exact ⟨0, rfl, by omega, L, L1, L2, L3, hb⟩
  case round =>
    obtain ⟨i, rfl, hi, L, L1, L2, L3, hb⟩ := hrel
    obtain ⟨q0, q1, q2, q3⟩ := live_four L1
    have p0 := L.1
    have p1 := L1.1
    have p2 := L2.1
    have p3 := L3.1
    by_cases hlt : i < 4
    · have hca := HCA.out i
      have KZ := Lib.hid (fun w => law43_size (limC a b c d i) w (by omega))
      have hf : 0 ≤ f (7 * i + 4) ∧ f (7 * i + 4) ≤ 1048576 := (HAX.out i hlt).2.2
      have hbk : ab (limC a b c d i) = n → 2 * v ≤ f (7 * i + 4) := fun h => HBACK.out i hlt h hf.1
      have ca := arr_at L1 i hlt
      have cm := mach_at L i hlt
      have CM := Lib.hid (fun (w' : World) (b : Nat) (h : Live w' b (mach f x t)) => mach_at h i hlt)
      have CB := Lib.hid (fun (w' : World) (g : Nat) (h : Live w' g #[.int .i64 a, .int .i64 b, .int .i64 c, .int .i64 d]) => arr_at h i hlt)
      generalize limC a b c d i = p at *
      generalize f (7 * i + 4) = J at *
      clear hca
      go_upto_region 14 with (fail)
      by_cases he : ab p = n
      · have b1 : (ab p == n) = true := by simpa using he
        have b2 : decide (J < 2 * v) = false := by have := hbk he; simp; omega
        clear he hbk
        generalize ab p = P at *
        go_region_held3 (fun w' => w'.cell? ⟨w.heap.size, i * 7 + 4, none⟩ = some (.int .i64 J) ∧ w'.cell? ⟨w.heap.size + 1, i, none⟩ = some (.int .i64 p) ∧ w'.cell? ⟨w.heap.size + 1, 0, none⟩ = some (.int .i64 a) ∧ w'.cell? ⟨w.heap.size + 1, 1, none⟩ = some (.int .i64 b) ∧ w'.cell? ⟨w.heap.size + 1, 2, none⟩ = some (.int .i64 c) ∧ w'.cell? ⟨w.heap.size + 1, 3, none⟩ = some (.int .i64 d)) (go_keep)
          (first | (go_at_call 37; (with_reducible refine (KZ.out _).mono ?_); rintro e w1 ⟨rfl, rfl⟩) | (go_at_call 35; (with_reducible refine (KD.out _).mono ?_); rintro e w2 ⟨rfl, hb2⟩; have z2 := hb2.size; (try simp at z2); have L2a := live_below hb2 (b := w.heap.size) (by (repeat (first | with_reducible assumption | ((with_reducible apply live_new) <;> (first | with_reducible rfl | (focus (simp; done)))) | with_reducible apply live_alloc | with_reducible apply live_drew | with_reducible apply live_drewN | ((with_reducible apply live_set_other); (case hb => first | omega | (simp; done))) | with_reducible apply live_set_same | (focus (simp; done))))); obtain ⟨p2a, e2a, f2a⟩ := id L2a; have L2b := live_below hb2 (b := w.heap.size + 1) (by (repeat (first | with_reducible assumption | ((with_reducible apply live_new) <;> (first | with_reducible rfl | (focus (simp; done)))) | with_reducible apply live_alloc | with_reducible apply live_drew | with_reducible apply live_drewN | ((with_reducible apply live_set_other); (case hb => first | omega | (simp; done))) | with_reducible apply live_set_same | (focus (simp; done))))); obtain ⟨p2b, e2b, f2b⟩ := id L2b; have L2c := live_below hb2 (b := w.heap.size + 2) (by (repeat (first | with_reducible assumption | ((with_reducible apply live_new) <;> (first | with_reducible rfl | (focus (simp; done)))) | with_reducible apply live_alloc | with_reducible apply live_drew | with_reducible apply live_drewN | ((with_reducible apply live_set_other); (case hb => first | omega | (simp; done))) | with_reducible apply live_set_same | (focus (simp; done))))); obtain ⟨p2c, e2c, f2c⟩ := id L2c; have L2d := live_below hb2 (b := C) (by (repeat (first | with_reducible assumption | ((with_reducible apply live_new) <;> (first | with_reducible rfl | (focus (simp; done)))) | with_reducible apply live_alloc | with_reducible apply live_drew | with_reducible apply live_drewN | ((with_reducible apply live_set_other); (case hb => first | omega | (simp; done))) | with_reducible apply live_set_same | (focus (simp; done))))); obtain ⟨p2d, e2d, f2d⟩ := id L2d; have cm2 := CM.out _ _ L2a; have ca2 := CB.out _ _ L2b; obtain ⟨q20, q21, q22, q23⟩ := live_four L2b; clear e2a e2b))
        all_goals (try go_wp2_with fail)
        all_goals go_roundw
        case rel => exact ⟨i+1, by go_num, by omega, by (repeat (first | with_reducible assumption | ((with_reducible apply live_new) <;> (first | with_reducible rfl | (focus (simp; done)))) | with_reducible apply live_alloc | with_reducible apply live_drew | with_reducible apply live_drewN | ((with_reducible apply live_set_other); (case hb => first | omega | (simp; done))) | with_reducible apply live_set_same | (focus (simp; done)))), by (repeat (first | with_reducible assumption | ((with_reducible apply live_new) <;> (first | with_reducible rfl | (focus (simp; done)))) | with_reducible apply live_alloc | with_reducible apply live_drew | with_reducible apply live_drewN | ((with_reducible apply live_set_other); (case hb => first | omega | (simp; done))) | with_reducible apply live_set_same | (focus (simp; done)))), by (repeat (first | with_reducible assumption | ((with_reducible apply live_new) <;> (first | with_reducible rfl | (focus (simp; done)))) | with_reducible apply live_alloc | with_reducible apply live_drew | with_reducible apply live_drewN | ((with_reducible apply live_set_other); (case hb => first | omega | (simp; done))) | with_reducible apply live_set_same | (focus (simp; done)))), by (repeat (first | with_reducible assumption | ((with_reducible apply live_new) <;> (first | with_reducible rfl | (focus (simp; done)))) | with_reducible apply live_alloc | with_reducible apply live_drew | with_reducible apply live_drewN | ((with_reducible apply live_set_other); (case hb => first | omega | (simp; done))) | with_reducible apply live_set_same | (focus (simp; done)))), by (repeat' (first | with_reducible exact Below.refl _ _ | with_reducible refine Below.drew ?_ | with_reducible refine below_drewN ?_ _ | with_reducible refine Below.alloc ?_ ?_ _ | with_reducible refine Below.setCell ?_ ?_ _ | with_reducible refine Below.trans ?_ (Below.mono (by with_reducible assumption) ?_) | (simp; done) | (simp; omega) | omega))⟩
        case measure => first | (simp [intOf]; done) | (simp [intOf]; omega)
      · have b1 : (ab p == n) = false := beq_eq_false_iff_ne.2 he
        clear he hbk
        generalize ab p = P at *
        refine wp_region_noPanic ?_
        refine wp_region_held_drew (S := (fun w' => w'.cell? ⟨w.heap.size + 1, i, none⟩ = some (.int .i64 p) ∧ w'.cell? ⟨w.heap.size + 1, 0, none⟩ = some (.int .i64 a) ∧ w'.cell? ⟨w.heap.size + 1, 1, none⟩ = some (.int .i64 b) ∧ w'.cell? ⟨w.heap.size + 1, 2, none⟩ = some (.int .i64 c) ∧ w'.cell? ⟨w.heap.size + 1, 3, none⟩ = some (.int .i64 d))) (by kernel_rfl) ?_ (fun hHeld => ?_)
        · (try dsimp only); go_keep
        refine wpAnyH_take (i := 0) (oi := ?z1oi) (v := ?z1v) ?z1hi (by kernel_rfl) (by kernel_rfl) (by kernel_rfl) (fun _ _ _ h => h) (Or.inl ⟨?z1hw, ?z1hy⟩) hHeld ?z1rest
        case z1hi => (simp only [List.getElem?_toArray, List.getElem?_cons_zero]; exact rfl)
        case z1hw => rfl
        case z1hy => (intro w hSw; (try dsimp only at hSw); go_simp; (try with_reducible rfl))
        (try simp only [Act.put, List.setIfInBounds_toArray, List.set_cons_zero, List.set_cons_succ])
        refine wpAnyH_take (i := 1) (oi := ?z2oi) (v := ?z2v) ?z2hi (by kernel_rfl) (by kernel_rfl) (by kernel_rfl) (fun _ _ _ h => h) (Or.inl ⟨?z2hw, ?z2hy⟩) hHeld ?z2rest
        case z2hi => (simp only [List.getElem?_toArray, List.getElem?_cons_succ, List.getElem?_cons_zero]; exact rfl)
        case z2hw => rfl
        case z2hy => (intro w hSw; (try dsimp only at hSw); go_simp; (try with_reducible rfl))
        (try simp only [Act.put, List.setIfInBounds_toArray, List.set_cons_zero, List.set_cons_succ])
        refine wpAnyH_take (i := 2) (oi := ?z3oi) (v := ?z3v) ?z3hi (by kernel_rfl) (by kernel_rfl) (by kernel_rfl) (fun _ _ _ h => h) (Or.inl ⟨?z3hw, ?z3hy⟩) hHeld ?z3rest
        case z3hi => (simp only [List.getElem?_toArray, List.getElem?_cons_succ, List.getElem?_cons_zero]; exact rfl)
        case z3hw => rfl
        case z3hy => (intro w hSw; (try dsimp only at hSw); go_simp; (try with_reducible rfl))
        (try simp only [Act.put, List.setIfInBounds_toArray, List.set_cons_zero, List.set_cons_succ])
        refine wpAnyH_take (i := 4) (oi := ?z4oi) (v := ?z4v) ?z4hi (by kernel_rfl) (by kernel_rfl) (by kernel_rfl) (fun _ _ _ h => h) (Or.inl ⟨?z4hw, ?z4hy⟩) hHeld ?z4rest
        case z4hi => (simp only [List.getElem?_toArray, List.getElem?_cons_succ, List.getElem?_cons_zero]; exact rfl)
        case z4hw => rfl
        case z4hy => (intro w hSw; (try dsimp only at hSw); go_simp; (try with_reducible rfl))
        (try simp only [Act.put, List.setIfInBounds_toArray, List.set_cons_zero, List.set_cons_succ])
        refine wpAnyH_ready (rs := [3]) (by kernel_rfl) (by simp) ?_
        refine AllReadyH.cons (o := ?z5oi) ?z5hi (fun K hK => ?_) AllReadyH.nil
        case z5hi => (simp only [List.getElem?_toArray, List.getElem?_cons_succ, List.getElem?_cons_zero]; exact rfl)
        go_simp
        (go_at_call 37; (with_reducible refine (KZ.out _).mono ?_); rintro e w1 ⟨rfl, rfl⟩)
        refine hK.out _ _ ?_ (fun hHeld => ?_)
        · (try dsimp only); go_keep
        clear hK K
        (try simp only [Act.put, List.setIfInBounds_toArray, List.set_cons_zero, List.set_cons_succ])
        refine wpAnyH_ready (rs := [5]) (by kernel_rfl) (by simp) ?_
        refine AllReadyH.cons (o := ?z6oi) ?z6hi (fun K hK => ?_) AllReadyH.nil
        case z6hi => (simp only [List.getElem?_toArray, List.getElem?_cons_succ, List.getElem?_cons_zero]; exact rfl)
        go_simp
        (go_at_call 35; (with_reducible refine (KD.out _).mono ?_); rintro e w2 ⟨rfl, hb2⟩; have z2 := hb2.size; (try simp at z2); have L2a := live_below hb2 (b := w.heap.size) (by (repeat (first | with_reducible assumption | ((with_reducible apply live_new) <;> (first | with_reducible rfl | (focus (simp; done)))) | with_reducible apply live_alloc | with_reducible apply live_drew | with_reducible apply live_drewN | ((with_reducible apply live_set_other); (case hb => first | omega | (simp; done))) | with_reducible apply live_set_same | (focus (simp; done))))); obtain ⟨p2a, e2a, f2a⟩ := id L2a; have L2b := live_below hb2 (b := w.heap.size + 1) (by (repeat (first | with_reducible assumption | ((with_reducible apply live_new) <;> (first | with_reducible rfl | (focus (simp; done)))) | with_reducible apply live_alloc | with_reducible apply live_drew | with_reducible apply live_drewN | ((with_reducible apply live_set_other); (case hb => first | omega | (simp; done))) | with_reducible apply live_set_same | (focus (simp; done))))); obtain ⟨p2b, e2b, f2b⟩ := id L2b; have L2c := live_below hb2 (b := w.heap.size + 2) (by (repeat (first | with_reducible assumption | ((with_reducible apply live_new) <;> (first | with_reducible rfl | (focus (simp; done)))) | with_reducible apply live_alloc | with_reducible apply live_drew | with_reducible apply live_drewN | ((with_reducible apply live_set_other); (case hb => first | omega | (simp; done))) | with_reducible apply live_set_same | (focus (simp; done))))); obtain ⟨p2c, e2c, f2c⟩ := id L2c; have L2d := live_below hb2 (b := C) (by (repeat (first | with_reducible assumption | ((with_reducible apply live_new) <;> (first | with_reducible rfl | (focus (simp; done)))) | with_reducible apply live_alloc | with_reducible apply live_drew | with_reducible apply live_drewN | ((with_reducible apply live_set_other); (case hb => first | omega | (simp; done))) | with_reducible apply live_set_same | (focus (simp; done))))); obtain ⟨p2d, e2d, f2d⟩ := id L2d; have ca2 := CB.out _ _ L2b; obtain ⟨q20, q21, q22, q23⟩ := live_four L2b; clear e2a e2b)
        refine hK.out _ _ ?_ (fun hHeld => ?_)
        · (try dsimp only); go_keep
        clear hK K
        (try simp only [Act.put, List.setIfInBounds_toArray, List.set_cons_zero, List.set_cons_succ])
        refine wpAnyH_take (i := 6) (oi := ?z7oi) (v := ?z7v) ?z7hi (by kernel_rfl) (by kernel_rfl) (by kernel_rfl) (fun _ _ _ h => h) (Or.inl ⟨?z7hw, ?z7hy⟩) hHeld ?z7rest
        case z7hi => (simp only [List.getElem?_toArray, List.getElem?_cons_succ, List.getElem?_cons_zero]; exact rfl)
        case z7hw => rfl
        case z7hy => (intro w hSw; (try dsimp only at hSw); go_simp; (try with_reducible rfl))
        (try simp only [Act.put, List.setIfInBounds_toArray, List.set_cons_zero, List.set_cons_succ])
        refine wpAnyH_take (i := 7) (oi := ?z8oi) (v := ?z8v) ?z8hi (by kernel_rfl) (by kernel_rfl) (by kernel_rfl) (fun _ _ _ h => h) (Or.inl ⟨?z8hw, ?z8hy⟩) hHeld ?z8rest
        case z8hi => (simp only [List.getElem?_toArray, List.getElem?_cons_succ, List.getElem?_cons_zero]; exact rfl)
        case z8hw => rfl
        case z8hy => (intro w hSw; (try dsimp only at hSw); go_simp; (try with_reducible rfl))
        (try simp only [Act.put, List.setIfInBounds_toArray, List.set_cons_zero, List.set_cons_succ])
        refine wpAnyH_take (i := 8) (oi := ?z9oi) (v := undef) ?z9hi (by kernel_rfl) (by kernel_rfl) (by kernel_rfl) (fun _ _ _ h => h) (Or.inr ⟨?z9hw, rfl⟩) hHeld ?z9rest
        case z9hi => (simp only [List.getElem?_toArray, List.getElem?_cons_succ, List.getElem?_cons_zero]; exact rfl)
        case z9hw => rfl
        (try simp only [Act.put, List.setIfInBounds_toArray, List.set_cons_zero, List.set_cons_succ])
        refine wpAnyH_take (i := 9) (oi := ?z10oi) (v := undef) ?z10hi (by kernel_rfl) (by kernel_rfl) (by kernel_rfl) (fun _ _ _ h => h) (Or.inr ⟨?z10hw, rfl⟩) hHeld ?z10rest
        case z10hi => (simp only [List.getElem?_toArray, List.getElem?_cons_succ, List.getElem?_cons_zero]; exact rfl)
        case z10hw => rfl
        (try simp only [Act.put, List.setIfInBounds_toArray, List.set_cons_zero, List.set_cons_succ])
        refine wpAnyH_take (i := 10) (oi := ?z11oi) (v := undef) ?z11hi (by kernel_rfl) (by kernel_rfl) (by kernel_rfl) (fun _ _ _ h => h) (Or.inr ⟨?z11hw, rfl⟩) hHeld ?z11rest
        case z11hi => (simp only [List.getElem?_toArray, List.getElem?_cons_succ, List.getElem?_cons_zero]; exact rfl)
        case z11hw => rfl
        (try simp only [Act.put, List.setIfInBounds_toArray, List.set_cons_zero, List.set_cons_succ])
        refine wpAnyH_take (i := 11) (oi := ?z12oi) (v := undef) ?z12hi (by kernel_rfl) (by kernel_rfl) (by kernel_rfl) (fun _ _ _ h => h) (Or.inr ⟨?z12hw, rfl⟩) hHeld ?z12rest
        case z12hi => (simp only [List.getElem?_toArray, List.getElem?_cons_succ, List.getElem?_cons_zero]; exact rfl)
        case z12hw => rfl
        (try simp only [Act.put, List.setIfInBounds_toArray, List.set_cons_zero, List.set_cons_succ])
        refine wpAnyH_take (i := 12) (oi := ?z13oi) (v := undef) ?z13hi (by kernel_rfl) (by kernel_rfl) (by kernel_rfl) (fun _ _ _ h => h) (Or.inr ⟨?z13hw, rfl⟩) hHeld ?z13rest
        case z13hi => (simp only [List.getElem?_toArray, List.getElem?_cons_succ, List.getElem?_cons_zero]; exact rfl)
        case z13hw => rfl
        (try simp only [Act.put, List.setIfInBounds_toArray, List.set_cons_zero, List.set_cons_succ])
        refine wpAnyH_take (i := 13) (oi := ?z14oi) (v := undef) ?z14hi (by kernel_rfl) (by kernel_rfl) (by kernel_rfl) (fun _ _ _ h => h) (Or.inr ⟨?z14hw, rfl⟩) hHeld ?z14rest
        case z14hi => (simp only [List.getElem?_toArray, List.getElem?_cons_succ, List.getElem?_cons_zero]; exact rfl)
        case z14hw => rfl
        (try simp only [Act.put, List.setIfInBounds_toArray, List.set_cons_zero, List.set_cons_succ])
        refine wpAnyH_take (i := 14) (oi := ?z15oi) (v := undef) ?z15hi (by kernel_rfl) (by kernel_rfl) (by kernel_rfl) (fun _ _ _ h => h) (Or.inr ⟨?z15hw, rfl⟩) hHeld ?z15rest
        case z15hi => (simp only [List.getElem?_toArray, List.getElem?_cons_succ, List.getElem?_cons_zero]; exact rfl)
        case z15hw => rfl
        (try simp only [Act.put, List.setIfInBounds_toArray, List.set_cons_zero, List.set_cons_succ])
        refine wpAnyH_take (i := 15) (oi := ?z16oi) (v := undef) ?z16hi (by kernel_rfl) (by kernel_rfl) (by kernel_rfl) (fun _ _ _ h => h) (Or.inr ⟨?z16hw, rfl⟩) hHeld ?z16rest
        case z16hi => (simp only [List.getElem?_toArray, List.getElem?_cons_succ, List.getElem?_cons_zero]; exact rfl)
        case z16hw => rfl
        (try simp only [Act.put, List.setIfInBounds_toArray, List.set_cons_zero, List.set_cons_succ])
        refine wpAnyH_take (i := 16) (oi := ?z17oi) (v := ?z17v) ?z17hi (by kernel_rfl) (by kernel_rfl) (by kernel_rfl) (fun _ _ _ h => h) (Or.inl ⟨?z17hw, ?z17hy⟩) hHeld ?z17rest
        case z17hi => (simp only [List.getElem?_toArray, List.getElem?_cons_succ, List.getElem?_cons_zero]; exact rfl)
        case z17hw => rfl
        case z17hy => (intro w hSw; (try dsimp only at hSw); go_simp; (try with_reducible rfl))
        (try simp only [Act.put, List.setIfInBounds_toArray, List.set_cons_zero, List.set_cons_succ])
        refine wpAnyH_done (by kernel_rfl) ?_ _
        refine NoPanic.normal ?_
        all_goals (try go_wp2_with fail)
        all_goals go_roundw
        case rel => exact ⟨i+1, by go_num, by omega, by (repeat (first | with_reducible assumption | ((with_reducible apply live_new) <;> (first | with_reducible rfl | (focus (simp; done)))) | with_reducible apply live_alloc | with_reducible apply live_drew | with_reducible apply live_drewN | ((with_reducible apply live_set_other); (case hb => first | omega | (simp; done))) | with_reducible apply live_set_same | (focus (simp; done)))), by (repeat (first | with_reducible assumption | ((with_reducible apply live_new) <;> (first | with_reducible rfl | (focus (simp; done)))) | with_reducible apply live_alloc | with_reducible apply live_drew | with_reducible apply live_drewN | ((with_reducible apply live_set_other); (case hb => first | omega | (simp; done))) | with_reducible apply live_set_same | (focus (simp; done)))), by (repeat (first | with_reducible assumption | ((with_reducible apply live_new) <;> (first | with_reducible rfl | (focus (simp; done)))) | with_reducible apply live_alloc | with_reducible apply live_drew | with_reducible apply live_drewN | ((with_reducible apply live_set_other); (case hb => first | omega | (simp; done))) | with_reducible apply live_set_same | (focus (simp; done)))), by (repeat (first | with_reducible assumption | ((with_reducible apply live_new) <;> (first | with_reducible rfl | (focus (simp; done)))) | with_reducible apply live_alloc | with_reducible apply live_drew | with_reducible apply live_drewN | ((with_reducible apply live_set_other); (case hb => first | omega | (simp; done))) | with_reducible apply live_set_same | (focus (simp; done)))), by (repeat' (first | with_reducible exact Below.refl _ _ | with_reducible refine Below.drew ?_ | with_reducible refine below_drewN ?_ _ | with_reducible refine Below.alloc ?_ ?_ _ | with_reducible refine Below.setCell ?_ ?_ _ | with_reducible refine Below.trans ?_ (Below.mono (by with_reducible assumption) ?_) | (simp; done) | (simp; omega) | omega))⟩
        case measure => first | (simp [intOf]; done) | (simp [intOf]; omega)
    · obtain rfl : i = 4 := by omega
      have lm := loadM_run (live_rangeAll L)
      go_wp2_with (first | (go_at_call 32; (with_reducible refine (KK.out _).mono ?_); rintro e w1 ⟨rfl, hb1⟩; have z1 := hb1.size; (try simp at z1); have L1a := live_below hb1 (b := w.heap.size) (by (repeat (first | with_reducible assumption | ((with_reducible apply live_new) <;> (first | with_reducible rfl | (focus (simp; done)))) | with_reducible apply live_alloc | with_reducible apply live_drew | with_reducible apply live_drewN | ((with_reducible apply live_set_other); (case hb => first | omega | (simp; done))) | with_reducible apply live_set_same | (focus (simp; done))))); obtain ⟨p1a, e1a, f1a⟩ := id L1a; have L1b := live_below hb1 (b := w.heap.size + 1) (by (repeat (first | with_reducible assumption | ((with_reducible apply live_new) <;> (first | with_reducible rfl | (focus (simp; done)))) | with_reducible apply live_alloc | with_reducible apply live_drew | with_reducible apply live_drewN | ((with_reducible apply live_set_other); (case hb => first | omega | (simp; done))) | with_reducible apply live_set_same | (focus (simp; done))))); obtain ⟨p1b, e1b, f1b⟩ := id L1b; have L1c := live_below hb1 (b := w.heap.size + 2) (by (repeat (first | with_reducible assumption | ((with_reducible apply live_new) <;> (first | with_reducible rfl | (focus (simp; done)))) | with_reducible apply live_alloc | with_reducible apply live_drew | with_reducible apply live_drewN | ((with_reducible apply live_set_other); (case hb => first | omega | (simp; done))) | with_reducible apply live_set_same | (focus (simp; done))))); obtain ⟨p1c, e1c, f1c⟩ := id L1c; have L1d := live_below hb1 (b := C) (by (repeat (first | with_reducible assumption | ((with_reducible apply live_new) <;> (first | with_reducible rfl | (focus (simp; done)))) | with_reducible apply live_alloc | with_reducible apply live_drew | with_reducible apply live_drewN | ((with_reducible apply live_set_other); (case hb => first | omega | (simp; done))) | with_reducible apply live_set_same | (focus (simp; done))))); obtain ⟨p1d, e1d, f1d⟩ := id L1d; clear e1a; have lm1 := loadM_run (live_rangeAll L1a); obtain ⟨q10, q11, q12, q13⟩ := live_four L1b; obtain ⟨s10, s11, s12, s13⟩ := live_four L1d) | (go_at_call 29; refine (law43_awake _).mono ?_; rintro e w9 ⟨rfl, hb9⟩; have z9 := hb9.size; (try simp at z9)))
      go_ret
      refine ⟨rfl, ?_⟩
      (repeat' (first | with_reducible exact Below.refl _ _ | with_reducible refine Below.drew ?_ | with_reducible refine below_drewN ?_ _ | with_reducible refine Below.alloc ?_ ?_ _ | with_reducible refine Below.setCell ?_ ?_ _ | with_reducible refine Below.trans ?_ (Below.mono (by with_reducible assumption) ?_) | (simp; done) | (simp; omega) | omega))

theorem walk (f : Nat → Int) (x : Bool) (t a b c d a' b' c' d' : Int) (w : World) : Calls Try.prog 13 #[.agg (mach f x t), .agg #[.int .i64 a, .int .i64 b, .int .i64 c, .int .i64 d], .agg #[.int .i64 a', .int .i64 b', .int .i64 c', .int .i64 d']] w fun e w' => e = .returned (.bool true) ∧ Below w.heap.size w w' := by
  cases h : (ddaValid a b c d && kinValid f t)
  · exact turn_f f x t a b c d a' b' c' d' w h
  · rw [Bool.and_eq_true] at h
    exact turn_t f x t a b c d a' b' c' d' w h.2 h.1

set_option maxRecDepth 100000 in
theorem lifted (os : Os) (started : os.Started) (H : Type) (enc : TypeId × Value → H) :
    ReturnsInHanded {} Try.checked os 13 .any (Rows.limitsTurnSpec.pre6 enc Try.prog Try.f13 Rows.limitsTurnRow.domain false) (Rows.limitsTurnSpec.post enc Try.prog Try.f13 false true false false) := by
  refine returnsInHanded_of_change (C := Try.checked) own started (by kernel_rfl) Try.func13
    (ChangeSpec.witness6 (enc := enc) (C := Try.checked) false ⟨#[], #[.agg #[.int .i64 0, .int .i64 0, .int .i64 0, .int .i64 0, .int .i64 0, .int .i64 0, .int .i64 0, .int .i64 0, .int .i64 0, .int .i64 0, .int .i64 0, .int .i64 0, .int .i64 0, .int .i64 0, .int .i64 0, .int .i64 0, .int .i64 0, .int .i64 0, .int .i64 0, .int .i64 0, .int .i64 0, .int .i64 0, .int .i64 0, .int .i64 0, .int .i64 0, .int .i64 0, .int .i64 0, .int .i64 0, .bool false, .int .i64 0], .agg #[.int .i64 0, .int .i64 0, .int .i64 0, .int .i64 0], .agg #[.int .i64 0, .int .i64 0, .int .i64 0, .int .i64 0]], []⟩ 8 (by kernel_rfl) (by kernel_rfl) (by kernel_rfl) (by kernel_rfl)) ?_
  intro W base args ds gs before hval0 hW _ _
  have hval : ∀ (j : Nat) t v, Try.f13.params[j]? = some t → args[j]? = some v → Value.okWide Try.prog W .any base t v := hval0
  have hW' := hW
  obtain ⟨p, q, hA0, hV, rfl, _, _⟩ := hW
  have hA : DataW.TrodAll enc Try.prog W 0 (fun _ => true) true Try.f13.params.toList args.toList ds p := hA0
  rw [Try.params13] at hA hval
  obtain ⟨v0, v1, v2, d0, d1, d2, p0, p1, p2, rfl, rfl, rfl, h0, h1, h2⟩ := trodAll_three hA
  clear hA hA0 hval0
  obtain ⟨f0, x0, t0, bf0, bt0, rfl⟩ := mach_open (hval 0 26 v0 rfl rfl)
  obtain ⟨f1, bf1, rfl⟩ := flat_ints (n := 4) (u := 3) (by kernel_rfl) (by kernel_rfl) (by kernel_rfl) Try.underlying3 (hval 1 36 v1 rfl rfl)
  obtain ⟨f2, bf2, rfl⟩ := flat_ints (n := 4) (u := 3) (by kernel_rfl) (by kernel_rfl) (by kernel_rfl) Try.underlying3 (hval 2 36 v2 rfl rfl)
  exact (walk f0 x0 t0 (f1 0) (f1 1) (f1 2) (f1 3) (f2 0) (f2 1) (f2 2) (f2 3) W).mono fun e W' ⟨he, hb⟩ => ⟨_, he, law_post laidOut (by kernel_rfl) rfl (fun _ => rfl) rfl Try.underlying4 hW' hb⟩

theorem holds : Rows.LimitsTurnSaid :=
  OpenClaim.holds_of_wide 13 Try.f13 rfl rfl rfl rfl rfl rfl rfl ⟨rfl, rfl, rfl, rfl, rfl⟩ rfl rfl rfl rfl rfl (by kernel_rfl) Try.func13 (by kernel_rfl)
    (of_decide_eq_true (by kernel_rfl)) (by unfold Func.isWrapper; rw [if_neg (of_decide_eq_false (by kernel_rfl))]; exact ⟨rfl, rfl⟩)
    (fun os started H enc _ => lifted os started H enc)

#print axioms holds
end Go.Proofs.Ythodfmmmddfkmaa.limitsTurn
