/- LimitsHold: at the speeds that are returned no motor exceeds its limits, and at greater ones one does -/
import Derived.Deep.DeepCutAuto
import Derived.BigQuiet
import Derived.Deep.RegionHeld3
import Derived.Deep.RegionWith
import Derived.RegionTactic
import Derived.BigRegion
import Derived.Test.YthodfmmmddfkmaaBase
import Derived.Test.YthodfmmmddfkmaaKinOpen
import Derived.Test.YthodfmmmddfkmaaLimAccel
import Derived.Test.YthodfmmmddfkmaaLimSpeed
import Derived.Test.YthodfmmmddfkmaaL43HoldP
import Derived.Test.YthodfmmmddfkmaaL43Awake
namespace Go.Proofs.Ythodfmmmddfkmaa.limitsHold
open Go.ChangeShapes Go.WideShapes Go.ChangeAt Go.RowKit
set_option linter.unusedVariables false

attribute [local go_sem] cell_past1 cell_past2 cell_past3 cell_past4 froz_past1 froz_past2 froz_past3
attribute [local go_sem ↓] loadM_in

theorem live_M44 {w : World} {b b' c' : Nat} {f : Nat → Int} {x : Bool} {t : Int} {y z u v y' z' u' v' : Value} (h : Live w b (mach f x t)) (h' : Live w b' #[y, z, u, v]) (h2 : Live w c' #[y', z', u', v']) : w.rangeAt b 0 (mach f x t).toList ∧ w.cell? ⟨b', 0, none⟩ = some y ∧ w.cell? ⟨b', 1, none⟩ = some z ∧ w.cell? ⟨b', 2, none⟩ = some u ∧ w.cell? ⟨b', 3, none⟩ = some v ∧ w.cell? ⟨c', 0, none⟩ = some y' ∧ w.cell? ⟨c', 1, none⟩ = some z' ∧ w.cell? ⟨c', 2, none⟩ = some u' ∧ w.cell? ⟨c', 3, none⟩ = some v' :=
  ⟨live_rangeAll h, h'.2.1 0, h'.2.1 1, h'.2.1 2, h'.2.1 3, h2.2.1 0, h2.2.1 1, h2.2.1 2, h2.2.1 3⟩
def axA (f : Nat → Int) (k : Nat) : Array Value := #[.int .i64 (f (7 * k)), .int .i64 (f (7 * k + 1)), .int .i64 (f (7 * k + 2)), .int .i64 (f (7 * k + 3)), .int .i64 (f (7 * k + 4)), .int .i64 (f (7 * k + 5)), .int .i64 (f (7 * k + 6))]
theorem mach_range (f : Nat → Int) (x : Bool) (t : Int) {w : World} {b : Nat} (L : Live w b (mach f x t)) (k : Nat) (hk : k < 4) : w.rangeAt b (k * 7) (axA f k).toList := by
  rcases (by omega : k = 0 ∨ k = 1 ∨ k = 2 ∨ k = 3) with rfl | rfl | rfl | rfl
  · exact live_rangeMid L 0 7
  · exact live_rangeMid L 7 7
  · exact live_rangeMid L 14 7
  · exact live_rangeMid L 21 7
theorem arr_at {w : World} {b : Nat} {x y z u : Int} (L : Live w b #[.int .i64 x, .int .i64 y, .int .i64 z, .int .i64 u]) (i : Nat) (hi : i < 4) : w.cell? ⟨b, i, none⟩ = some (.int .i64 (limC x y z u i)) := by
  rcases (by omega : i = 0 ∨ i = 1 ∨ i = 2 ∨ i = 3) with rfl | rfl | rfl | rfl
  · exact L.2.1 0
  · exact L.2.1 1
  · exact L.2.1 2
  · exact L.2.1 3
theorem axA_one (f : Nat → Int) (k : Nat) : (axA f k).all (·.oneCell') = true := ints7_one _ _ _ _ _ _ _
theorem axA_cells (f : Nat → Int) (k : Nat) {w : World} {b : Nat} (L : Live w b (axA f k)) : w.cell? ⟨b, 2, none⟩ = some (.int .i64 (f (7 * k + 2))) ∧ w.cell? ⟨b, 3, none⟩ = some (.int .i64 (f (7 * k + 3))) ∧ w.cell? ⟨b, 4, none⟩ = some (.int .i64 (f (7 * k + 4))) := ⟨L.2.1 2, L.2.1 3, L.2.1 4⟩

set_option maxRecDepth 100000 in
set_option maxHeartbeats 8000000 in
theorem hold_f (f : Nat → Int) (x : Bool) (t a b c d a' b' c' d' len feed : Int) (w : World) (hlen : -9223372036854775808 ≤ len ∧ len ≤ 9223372036854775807) (hfeed : -9223372036854775808 ≤ feed ∧ feed ≤ 9223372036854775807) (h : (ddaValid a b c d && (ddaValid a' b' c' d' && kinValid f t)) = false) :
    Calls Try.prog 11 #[.agg (mach f x t), .agg #[.int .i64 a, .int .i64 b, .int .i64 c, .int .i64 d], .agg #[.int .i64 a', .int .i64 b', .int .i64 c', .int .i64 d'], .int .i64 len, .int .i64 feed] w fun e w' => e = .returned (.bool true) ∧ Below w.heap.size w w' := by
  have KJ := Lib.hid (fun w => lim_junction_f f x t a b c d a' b' c' d' w h)
  obtain ⟨V, hs⟩ : ∃ V : Int, ∀ w : World, Calls Try.prog 27 #[.agg (mach f x t), .agg #[.int .i64 a, .int .i64 b, .int .i64 c, .int .i64 d], .int .i64 len, .int .i64 feed] w fun e w' => e = .returned (.int .i64 V) ∧ Below w.heap.size w w' := by
    cases h2 : (ddaValid a b c d && kinValid f t)
    · exact ⟨0, fun w => lim_speed_f f x t a b c d len feed w h2⟩
    · rw [Bool.and_eq_true] at h2
      exact ⟨_, fun w => lim_speed_t f x t a b c d len feed w h2.2 h2.1 hlen hfeed⟩
  have KS := Lib.hid hs
  clear hs
  have KV := Lib.hid (fun w => law43_valid f x t a b c d w)
  have KW := Lib.hid (fun w => law43_valid f x t a' b' c' d' w)
  have hm : (V * 0 == 0) = true := by simp
  have hcase : (ddaValid a b c d && kinValid f t) = false ∨ (ddaValid a b c d && kinValid f t) = true ∧ (ddaValid a' b' c' d' && kinValid f t) = false := by
    revert h; cases ddaValid a b c d <;> cases ddaValid a' b' c' d' <;> cases kinValid f t <;> simp
  clear h hlen hfeed
  generalize (ddaValid a b c d && kinValid f t) = z at *
  generalize (ddaValid a' b' c' d' && kinValid f t) = z' at *
  rcases hcase with rfl | ⟨rfl, rfl⟩
  · go_enter Try.func11, Try.ntmps11
    go_upto_region 1 with (fail)
    refine gen_world (fun wx => Live wx w.heap.size (mach f x t) ∧ Live wx (w.heap.size + 1) #[.int .i64 a, .int .i64 b, .int .i64 c, .int .i64 d] ∧ Live wx (w.heap.size + 2) #[.int .i64 a', .int .i64 b', .int .i64 c', .int .i64 d'] ∧ Below w.heap.size w wx) ?_ ?_
    · refine ⟨live_alloc (live_alloc (live_new _ _ rfl) _) _, live_alloc (live_new _ _ (by simp)) _, live_new _ _ (by simp), ?_⟩
      (repeat' (first | with_reducible exact Below.refl _ _ | with_reducible refine Below.drew ?_ | with_reducible refine below_drewN ?_ _ | with_reducible refine Below.alloc ?_ ?_ _ | with_reducible refine Below.setCell ?_ ?_ _ | with_reducible refine Below.trans ?_ (Below.mono (by with_reducible assumption) ?_) | (simp; done) | (simp; omega) | omega))
    rintro wx ⟨L, L1, L2, hb⟩
    have p0 := L.1
    have p1 := L1.1
    have p2 := L2.1
    have lm := loadM_run (live_rangeAll L)
    obtain ⟨q0, q1, q2, q3⟩ := live_four L1
    obtain ⟨s0, s1, s2, s3⟩ := live_four L2
    go_upto_region 2 with (first | (go_at_call 34; (with_reducible refine (KV.out _).mono ?_); rintro e w1 ⟨rfl, hb1⟩; have z1 := hb1.size; (try simp at z1); have L1a := live_below hb1 (b := w.heap.size) (by (repeat (first | with_reducible assumption | ((with_reducible apply live_new) <;> (first | with_reducible rfl | (focus (simp; done)))) | with_reducible apply live_alloc | with_reducible apply live_drew | with_reducible apply live_drewN | ((with_reducible apply live_set_other); (case hb => first | omega | (simp; done))) | with_reducible apply live_set_same | (focus (simp; done))))); obtain ⟨p1a, e1a, f1a⟩ := id L1a; have L1b := live_below hb1 (b := w.heap.size + 1) (by (repeat (first | with_reducible assumption | ((with_reducible apply live_new) <;> (first | with_reducible rfl | (focus (simp; done)))) | with_reducible apply live_alloc | with_reducible apply live_drew | with_reducible apply live_drewN | ((with_reducible apply live_set_other); (case hb => first | omega | (simp; done))) | with_reducible apply live_set_same | (focus (simp; done))))); obtain ⟨p1b, e1b, f1b⟩ := id L1b; have L1c := live_below hb1 (b := w.heap.size + 2) (by (repeat (first | with_reducible assumption | ((with_reducible apply live_new) <;> (first | with_reducible rfl | (focus (simp; done)))) | with_reducible apply live_alloc | with_reducible apply live_drew | with_reducible apply live_drewN | ((with_reducible apply live_set_other); (case hb => first | omega | (simp; done))) | with_reducible apply live_set_same | (focus (simp; done))))); obtain ⟨p1c, e1c, f1c⟩ := id L1c; clear e1a; have lm1 := loadM_run (live_rangeAll L1a); obtain ⟨q10, q11, q12, q13⟩ := live_four L1b; obtain ⟨s10, s11, s12, s13⟩ := live_four L1c))
    refine gen_world (fun wx => Live wx w.heap.size (mach f x t) ∧ Live wx (w.heap.size + 1) #[.int .i64 a, .int .i64 b, .int .i64 c, .int .i64 d] ∧ Live wx (w.heap.size + 2) #[.int .i64 a', .int .i64 b', .int .i64 c', .int .i64 d'] ∧ Below w.heap.size w wx) ?_ ?_
    · refine ⟨?_, ?_, ?_, ?_⟩
      · (repeat (first | with_reducible assumption | ((with_reducible apply live_new) <;> (first | with_reducible rfl | (focus (simp; done)))) | with_reducible apply live_alloc | with_reducible apply live_drew | with_reducible apply live_drewN | ((with_reducible apply live_set_other); (case hb => first | omega | (simp; done))) | with_reducible apply live_set_same | (focus (simp; done))))
      · (repeat (first | with_reducible assumption | ((with_reducible apply live_new) <;> (first | with_reducible rfl | (focus (simp; done)))) | with_reducible apply live_alloc | with_reducible apply live_drew | with_reducible apply live_drewN | ((with_reducible apply live_set_other); (case hb => first | omega | (simp; done))) | with_reducible apply live_set_same | (focus (simp; done))))
      · (repeat (first | with_reducible assumption | ((with_reducible apply live_new) <;> (first | with_reducible rfl | (focus (simp; done)))) | with_reducible apply live_alloc | with_reducible apply live_drew | with_reducible apply live_drewN | ((with_reducible apply live_set_other); (case hb => first | omega | (simp; done))) | with_reducible apply live_set_same | (focus (simp; done))))
      · (repeat' (first | with_reducible exact Below.refl _ _ | with_reducible refine Below.drew ?_ | with_reducible refine below_drewN ?_ _ | with_reducible refine Below.alloc ?_ ?_ _ | with_reducible refine Below.setCell ?_ ?_ _ | with_reducible refine Below.trans ?_ (Below.mono (by with_reducible assumption) ?_) | (simp; done) | (simp; omega) | omega))
    clear L L1 L2 hb p0 p1 p2 lm q0 q1 q2 q3 s0 s1 s2 s3
    rintro wx ⟨L, L1, L2, hb⟩
    have p0 := L.1
    have p1 := L1.1
    have p2 := L2.1
    have hld : ∀ w' : World, w'.rangeAt (w.heap.size) 0 (mach f x t).toList → (loadM (.pointer (some ⟨w.heap.size, 0, none⟩))).run Try.prog w' = .ok (.agg (mach f x t)) w' := fun w' h => loadM_run h
    go_region_held3 (fun w' => w'.rangeAt (w.heap.size) 0 (mach f x t).toList ∧ w'.cell? ⟨w.heap.size + 1, 0, none⟩ = some (.int .i64 a) ∧ w'.cell? ⟨w.heap.size + 1, 1, none⟩ = some (.int .i64 b) ∧ w'.cell? ⟨w.heap.size + 1, 2, none⟩ = some (.int .i64 c) ∧ w'.cell? ⟨w.heap.size + 1, 3, none⟩ = some (.int .i64 d) ∧ w'.cell? ⟨w.heap.size + 2, 0, none⟩ = some (.int .i64 a') ∧ w'.cell? ⟨w.heap.size + 2, 1, none⟩ = some (.int .i64 b') ∧ w'.cell? ⟨w.heap.size + 2, 2, none⟩ = some (.int .i64 c') ∧ w'.cell? ⟨w.heap.size + 2, 3, none⟩ = some (.int .i64 d')) (first | (focus (((with_reducible apply live_M44) <;> ((repeat (first | with_reducible assumption | ((with_reducible apply live_new) <;> (first | with_reducible rfl | (focus (simp; done)))) | with_reducible apply live_alloc | with_reducible apply live_drew | with_reducible apply live_drewN | ((with_reducible apply live_set_other); (case hb => first | omega | (simp; done))) | with_reducible apply live_set_same | (focus (simp; done)))))); done)) | go_keep)
      (first | (go_at_call 27; (with_reducible refine (KS.out _).mono ?_); rintro e w3 ⟨rfl, hb3⟩; have z3 := hb3.size; (try simp at z3); have L3a := live_below hb3 (b := w.heap.size) (by (repeat (first | with_reducible assumption | ((with_reducible apply live_new) <;> (first | with_reducible rfl | (focus (simp; done)))) | with_reducible apply live_alloc | with_reducible apply live_drew | with_reducible apply live_drewN | ((with_reducible apply live_set_other); (case hb => first | omega | (simp; done))) | with_reducible apply live_set_same | (focus (simp; done))))); obtain ⟨p3a, e3a, f3a⟩ := id L3a; have L3b := live_below hb3 (b := w.heap.size + 1) (by (repeat (first | with_reducible assumption | ((with_reducible apply live_new) <;> (first | with_reducible rfl | (focus (simp; done)))) | with_reducible apply live_alloc | with_reducible apply live_drew | with_reducible apply live_drewN | ((with_reducible apply live_set_other); (case hb => first | omega | (simp; done))) | with_reducible apply live_set_same | (focus (simp; done))))); obtain ⟨p3b, e3b, f3b⟩ := id L3b; have L3c := live_below hb3 (b := w.heap.size + 2) (by (repeat (first | with_reducible assumption | ((with_reducible apply live_new) <;> (first | with_reducible rfl | (focus (simp; done)))) | with_reducible apply live_alloc | with_reducible apply live_drew | with_reducible apply live_drewN | ((with_reducible apply live_set_other); (case hb => first | omega | (simp; done))) | with_reducible apply live_set_same | (focus (simp; done))))); obtain ⟨p3c, e3c, f3c⟩ := id L3c; clear e3a) | (go_at_call 32; (with_reducible refine (KJ.out _).mono ?_); rintro e w4 ⟨rfl, hb4⟩; have z4 := hb4.size; (try simp at z4); have L4a := live_below hb4 (b := w.heap.size) (by (repeat (first | with_reducible assumption | ((with_reducible apply live_new) <;> (first | with_reducible rfl | (focus (simp; done)))) | with_reducible apply live_alloc | with_reducible apply live_drew | with_reducible apply live_drewN | ((with_reducible apply live_set_other); (case hb => first | omega | (simp; done))) | with_reducible apply live_set_same | (focus (simp; done))))); obtain ⟨p4a, e4a, f4a⟩ := id L4a; have L4b := live_below hb4 (b := w.heap.size + 1) (by (repeat (first | with_reducible assumption | ((with_reducible apply live_new) <;> (first | with_reducible rfl | (focus (simp; done)))) | with_reducible apply live_alloc | with_reducible apply live_drew | with_reducible apply live_drewN | ((with_reducible apply live_set_other); (case hb => first | omega | (simp; done))) | with_reducible apply live_set_same | (focus (simp; done))))); obtain ⟨p4b, e4b, f4b⟩ := id L4b; have L4c := live_below hb4 (b := w.heap.size + 2) (by (repeat (first | with_reducible assumption | ((with_reducible apply live_new) <;> (first | with_reducible rfl | (focus (simp; done)))) | with_reducible apply live_alloc | with_reducible apply live_drew | with_reducible apply live_drewN | ((with_reducible apply live_set_other); (case hb => first | omega | (simp; done))) | with_reducible apply live_set_same | (focus (simp; done))))); obtain ⟨p4c, e4c, f4c⟩ := id L4c; clear e4a) | (go_at_call 29; refine (law43_awake _).mono ?_; rintro e w9 ⟨rfl, hb9⟩; have z9 := hb9.size; (try simp at z9); have L9a := live_below hb9 (b := w.heap.size) (by (repeat (first | with_reducible assumption | ((with_reducible apply live_new) <;> (first | with_reducible rfl | (focus (simp; done)))) | with_reducible apply live_alloc | with_reducible apply live_drew | with_reducible apply live_drewN | ((with_reducible apply live_set_other); (case hb => first | omega | (simp; done))) | with_reducible apply live_set_same | (focus (simp; done))))); obtain ⟨p9a, e9a, f9a⟩ := id L9a; have L9b := live_below hb9 (b := w.heap.size + 1) (by (repeat (first | with_reducible assumption | ((with_reducible apply live_new) <;> (first | with_reducible rfl | (focus (simp; done)))) | with_reducible apply live_alloc | with_reducible apply live_drew | with_reducible apply live_drewN | ((with_reducible apply live_set_other); (case hb => first | omega | (simp; done))) | with_reducible apply live_set_same | (focus (simp; done))))); obtain ⟨p9b, e9b, f9b⟩ := id L9b; have L9c := live_below hb9 (b := w.heap.size + 2) (by (repeat (first | with_reducible assumption | ((with_reducible apply live_new) <;> (first | with_reducible rfl | (focus (simp; done)))) | with_reducible apply live_alloc | with_reducible apply live_drew | with_reducible apply live_drewN | ((with_reducible apply live_set_other); (case hb => first | omega | (simp; done))) | with_reducible apply live_set_same | (focus (simp; done))))); obtain ⟨p9c, e9c, f9c⟩ := id L9c; clear e9a))
    all_goals (try go_wp2_with fail)
    all_goals go_ret
    all_goals refine ⟨rfl, ?_⟩
    all_goals (repeat' (first | with_reducible exact Below.refl _ _ | with_reducible refine Below.drew ?_ | with_reducible refine below_drewN ?_ _ | with_reducible refine Below.alloc ?_ ?_ _ | with_reducible refine Below.setCell ?_ ?_ _ | with_reducible refine Below.trans ?_ (Below.mono (by with_reducible assumption) ?_) | (simp; done) | (simp; omega) | omega))
  · go_enter Try.func11, Try.ntmps11
    go_upto_region 1 with (fail)
    refine gen_world (fun wx => Live wx w.heap.size (mach f x t) ∧ Live wx (w.heap.size + 1) #[.int .i64 a, .int .i64 b, .int .i64 c, .int .i64 d] ∧ Live wx (w.heap.size + 2) #[.int .i64 a', .int .i64 b', .int .i64 c', .int .i64 d'] ∧ Below w.heap.size w wx) ?_ ?_
    · refine ⟨live_alloc (live_alloc (live_new _ _ rfl) _) _, live_alloc (live_new _ _ (by simp)) _, live_new _ _ (by simp), ?_⟩
      (repeat' (first | with_reducible exact Below.refl _ _ | with_reducible refine Below.drew ?_ | with_reducible refine below_drewN ?_ _ | with_reducible refine Below.alloc ?_ ?_ _ | with_reducible refine Below.setCell ?_ ?_ _ | with_reducible refine Below.trans ?_ (Below.mono (by with_reducible assumption) ?_) | (simp; done) | (simp; omega) | omega))
    rintro wx ⟨L, L1, L2, hb⟩
    have p0 := L.1
    have p1 := L1.1
    have p2 := L2.1
    have lm := loadM_run (live_rangeAll L)
    obtain ⟨q0, q1, q2, q3⟩ := live_four L1
    obtain ⟨s0, s1, s2, s3⟩ := live_four L2
    go_upto_region 2 with (first | (go_at_call 34; (with_reducible refine (KV.out _).mono ?_); rintro e w1 ⟨rfl, hb1⟩; have z1 := hb1.size; (try simp at z1); have L1a := live_below hb1 (b := w.heap.size) (by (repeat (first | with_reducible assumption | ((with_reducible apply live_new) <;> (first | with_reducible rfl | (focus (simp; done)))) | with_reducible apply live_alloc | with_reducible apply live_drew | with_reducible apply live_drewN | ((with_reducible apply live_set_other); (case hb => first | omega | (simp; done))) | with_reducible apply live_set_same | (focus (simp; done))))); obtain ⟨p1a, e1a, f1a⟩ := id L1a; have L1b := live_below hb1 (b := w.heap.size + 1) (by (repeat (first | with_reducible assumption | ((with_reducible apply live_new) <;> (first | with_reducible rfl | (focus (simp; done)))) | with_reducible apply live_alloc | with_reducible apply live_drew | with_reducible apply live_drewN | ((with_reducible apply live_set_other); (case hb => first | omega | (simp; done))) | with_reducible apply live_set_same | (focus (simp; done))))); obtain ⟨p1b, e1b, f1b⟩ := id L1b; have L1c := live_below hb1 (b := w.heap.size + 2) (by (repeat (first | with_reducible assumption | ((with_reducible apply live_new) <;> (first | with_reducible rfl | (focus (simp; done)))) | with_reducible apply live_alloc | with_reducible apply live_drew | with_reducible apply live_drewN | ((with_reducible apply live_set_other); (case hb => first | omega | (simp; done))) | with_reducible apply live_set_same | (focus (simp; done))))); obtain ⟨p1c, e1c, f1c⟩ := id L1c; clear e1a; have lm1 := loadM_run (live_rangeAll L1a); obtain ⟨q10, q11, q12, q13⟩ := live_four L1b; obtain ⟨s10, s11, s12, s13⟩ := live_four L1c) | (go_at_call 34; (with_reducible refine (KW.out _).mono ?_); rintro e w2 ⟨rfl, hb2⟩; have z2 := hb2.size; (try simp at z2); have L2a := live_below hb2 (b := w.heap.size) (by (repeat (first | with_reducible assumption | ((with_reducible apply live_new) <;> (first | with_reducible rfl | (focus (simp; done)))) | with_reducible apply live_alloc | with_reducible apply live_drew | with_reducible apply live_drewN | ((with_reducible apply live_set_other); (case hb => first | omega | (simp; done))) | with_reducible apply live_set_same | (focus (simp; done))))); obtain ⟨p2a, e2a, f2a⟩ := id L2a; have L2b := live_below hb2 (b := w.heap.size + 1) (by (repeat (first | with_reducible assumption | ((with_reducible apply live_new) <;> (first | with_reducible rfl | (focus (simp; done)))) | with_reducible apply live_alloc | with_reducible apply live_drew | with_reducible apply live_drewN | ((with_reducible apply live_set_other); (case hb => first | omega | (simp; done))) | with_reducible apply live_set_same | (focus (simp; done))))); obtain ⟨p2b, e2b, f2b⟩ := id L2b; have L2c := live_below hb2 (b := w.heap.size + 2) (by (repeat (first | with_reducible assumption | ((with_reducible apply live_new) <;> (first | with_reducible rfl | (focus (simp; done)))) | with_reducible apply live_alloc | with_reducible apply live_drew | with_reducible apply live_drewN | ((with_reducible apply live_set_other); (case hb => first | omega | (simp; done))) | with_reducible apply live_set_same | (focus (simp; done))))); obtain ⟨p2c, e2c, f2c⟩ := id L2c; clear e2a; have lm2 := loadM_run (live_rangeAll L2a); obtain ⟨q20, q21, q22, q23⟩ := live_four L2b; obtain ⟨s20, s21, s22, s23⟩ := live_four L2c))
    refine gen_world (fun wx => Live wx w.heap.size (mach f x t) ∧ Live wx (w.heap.size + 1) #[.int .i64 a, .int .i64 b, .int .i64 c, .int .i64 d] ∧ Live wx (w.heap.size + 2) #[.int .i64 a', .int .i64 b', .int .i64 c', .int .i64 d'] ∧ Below w.heap.size w wx) ?_ ?_
    · refine ⟨?_, ?_, ?_, ?_⟩
      · (repeat (first | with_reducible assumption | ((with_reducible apply live_new) <;> (first | with_reducible rfl | (focus (simp; done)))) | with_reducible apply live_alloc | with_reducible apply live_drew | with_reducible apply live_drewN | ((with_reducible apply live_set_other); (case hb => first | omega | (simp; done))) | with_reducible apply live_set_same | (focus (simp; done))))
      · (repeat (first | with_reducible assumption | ((with_reducible apply live_new) <;> (first | with_reducible rfl | (focus (simp; done)))) | with_reducible apply live_alloc | with_reducible apply live_drew | with_reducible apply live_drewN | ((with_reducible apply live_set_other); (case hb => first | omega | (simp; done))) | with_reducible apply live_set_same | (focus (simp; done))))
      · (repeat (first | with_reducible assumption | ((with_reducible apply live_new) <;> (first | with_reducible rfl | (focus (simp; done)))) | with_reducible apply live_alloc | with_reducible apply live_drew | with_reducible apply live_drewN | ((with_reducible apply live_set_other); (case hb => first | omega | (simp; done))) | with_reducible apply live_set_same | (focus (simp; done))))
      · (repeat' (first | with_reducible exact Below.refl _ _ | with_reducible refine Below.drew ?_ | with_reducible refine below_drewN ?_ _ | with_reducible refine Below.alloc ?_ ?_ _ | with_reducible refine Below.setCell ?_ ?_ _ | with_reducible refine Below.trans ?_ (Below.mono (by with_reducible assumption) ?_) | (simp; done) | (simp; omega) | omega))
    clear L L1 L2 hb p0 p1 p2 lm q0 q1 q2 q3 s0 s1 s2 s3
    rintro wx ⟨L, L1, L2, hb⟩
    have p0 := L.1
    have p1 := L1.1
    have p2 := L2.1
    have hld : ∀ w' : World, w'.rangeAt (w.heap.size) 0 (mach f x t).toList → (loadM (.pointer (some ⟨w.heap.size, 0, none⟩))).run Try.prog w' = .ok (.agg (mach f x t)) w' := fun w' h => loadM_run h
    go_region_held3 (fun w' => w'.rangeAt (w.heap.size) 0 (mach f x t).toList ∧ w'.cell? ⟨w.heap.size + 1, 0, none⟩ = some (.int .i64 a) ∧ w'.cell? ⟨w.heap.size + 1, 1, none⟩ = some (.int .i64 b) ∧ w'.cell? ⟨w.heap.size + 1, 2, none⟩ = some (.int .i64 c) ∧ w'.cell? ⟨w.heap.size + 1, 3, none⟩ = some (.int .i64 d) ∧ w'.cell? ⟨w.heap.size + 2, 0, none⟩ = some (.int .i64 a') ∧ w'.cell? ⟨w.heap.size + 2, 1, none⟩ = some (.int .i64 b') ∧ w'.cell? ⟨w.heap.size + 2, 2, none⟩ = some (.int .i64 c') ∧ w'.cell? ⟨w.heap.size + 2, 3, none⟩ = some (.int .i64 d')) (first | (focus (((with_reducible apply live_M44) <;> ((repeat (first | with_reducible assumption | ((with_reducible apply live_new) <;> (first | with_reducible rfl | (focus (simp; done)))) | with_reducible apply live_alloc | with_reducible apply live_drew | with_reducible apply live_drewN | ((with_reducible apply live_set_other); (case hb => first | omega | (simp; done))) | with_reducible apply live_set_same | (focus (simp; done)))))); done)) | go_keep)
      (first | (go_at_call 27; (with_reducible refine (KS.out _).mono ?_); rintro e w3 ⟨rfl, hb3⟩; have z3 := hb3.size; (try simp at z3); have L3a := live_below hb3 (b := w.heap.size) (by (repeat (first | with_reducible assumption | ((with_reducible apply live_new) <;> (first | with_reducible rfl | (focus (simp; done)))) | with_reducible apply live_alloc | with_reducible apply live_drew | with_reducible apply live_drewN | ((with_reducible apply live_set_other); (case hb => first | omega | (simp; done))) | with_reducible apply live_set_same | (focus (simp; done))))); obtain ⟨p3a, e3a, f3a⟩ := id L3a; have L3b := live_below hb3 (b := w.heap.size + 1) (by (repeat (first | with_reducible assumption | ((with_reducible apply live_new) <;> (first | with_reducible rfl | (focus (simp; done)))) | with_reducible apply live_alloc | with_reducible apply live_drew | with_reducible apply live_drewN | ((with_reducible apply live_set_other); (case hb => first | omega | (simp; done))) | with_reducible apply live_set_same | (focus (simp; done))))); obtain ⟨p3b, e3b, f3b⟩ := id L3b; have L3c := live_below hb3 (b := w.heap.size + 2) (by (repeat (first | with_reducible assumption | ((with_reducible apply live_new) <;> (first | with_reducible rfl | (focus (simp; done)))) | with_reducible apply live_alloc | with_reducible apply live_drew | with_reducible apply live_drewN | ((with_reducible apply live_set_other); (case hb => first | omega | (simp; done))) | with_reducible apply live_set_same | (focus (simp; done))))); obtain ⟨p3c, e3c, f3c⟩ := id L3c; clear e3a) | (go_at_call 32; (with_reducible refine (KJ.out _).mono ?_); rintro e w4 ⟨rfl, hb4⟩; have z4 := hb4.size; (try simp at z4); have L4a := live_below hb4 (b := w.heap.size) (by (repeat (first | with_reducible assumption | ((with_reducible apply live_new) <;> (first | with_reducible rfl | (focus (simp; done)))) | with_reducible apply live_alloc | with_reducible apply live_drew | with_reducible apply live_drewN | ((with_reducible apply live_set_other); (case hb => first | omega | (simp; done))) | with_reducible apply live_set_same | (focus (simp; done))))); obtain ⟨p4a, e4a, f4a⟩ := id L4a; have L4b := live_below hb4 (b := w.heap.size + 1) (by (repeat (first | with_reducible assumption | ((with_reducible apply live_new) <;> (first | with_reducible rfl | (focus (simp; done)))) | with_reducible apply live_alloc | with_reducible apply live_drew | with_reducible apply live_drewN | ((with_reducible apply live_set_other); (case hb => first | omega | (simp; done))) | with_reducible apply live_set_same | (focus (simp; done))))); obtain ⟨p4b, e4b, f4b⟩ := id L4b; have L4c := live_below hb4 (b := w.heap.size + 2) (by (repeat (first | with_reducible assumption | ((with_reducible apply live_new) <;> (first | with_reducible rfl | (focus (simp; done)))) | with_reducible apply live_alloc | with_reducible apply live_drew | with_reducible apply live_drewN | ((with_reducible apply live_set_other); (case hb => first | omega | (simp; done))) | with_reducible apply live_set_same | (focus (simp; done))))); obtain ⟨p4c, e4c, f4c⟩ := id L4c; clear e4a) | (go_at_call 29; refine (law43_awake _).mono ?_; rintro e w9 ⟨rfl, hb9⟩; have z9 := hb9.size; (try simp at z9); have L9a := live_below hb9 (b := w.heap.size) (by (repeat (first | with_reducible assumption | ((with_reducible apply live_new) <;> (first | with_reducible rfl | (focus (simp; done)))) | with_reducible apply live_alloc | with_reducible apply live_drew | with_reducible apply live_drewN | ((with_reducible apply live_set_other); (case hb => first | omega | (simp; done))) | with_reducible apply live_set_same | (focus (simp; done))))); obtain ⟨p9a, e9a, f9a⟩ := id L9a; have L9b := live_below hb9 (b := w.heap.size + 1) (by (repeat (first | with_reducible assumption | ((with_reducible apply live_new) <;> (first | with_reducible rfl | (focus (simp; done)))) | with_reducible apply live_alloc | with_reducible apply live_drew | with_reducible apply live_drewN | ((with_reducible apply live_set_other); (case hb => first | omega | (simp; done))) | with_reducible apply live_set_same | (focus (simp; done))))); obtain ⟨p9b, e9b, f9b⟩ := id L9b; have L9c := live_below hb9 (b := w.heap.size + 2) (by (repeat (first | with_reducible assumption | ((with_reducible apply live_new) <;> (first | with_reducible rfl | (focus (simp; done)))) | with_reducible apply live_alloc | with_reducible apply live_drew | with_reducible apply live_drewN | ((with_reducible apply live_set_other); (case hb => first | omega | (simp; done))) | with_reducible apply live_set_same | (focus (simp; done))))); obtain ⟨p9c, e9c, f9c⟩ := id L9c; clear e9a))
    all_goals (try go_wp2_with fail)
    all_goals go_ret
    all_goals refine ⟨rfl, ?_⟩
    all_goals (repeat' (first | with_reducible exact Below.refl _ _ | with_reducible refine Below.drew ?_ | with_reducible refine below_drewN ?_ _ | with_reducible refine Below.alloc ?_ ?_ _ | with_reducible refine Below.setCell ?_ ?_ _ | with_reducible refine Below.trans ?_ (Below.mono (by with_reducible assumption) ?_) | (simp; done) | (simp; omega) | omega))

def HRel (f : Nat → Int) (x : Bool) (t a b c d a' b' c' d' v u n k : Int) (M : Bool) (w : World) (s16 s17 s18 : Value) (wx : World) : Prop :=
  ∃ i : Nat, s18 = .int .i64 i ∧ i ≤ 4 ∧ s16 = .bool (moB M v f n a b c d i) ∧ s17 = .bool (edB u f n k a b c d a' b' c' d' i) ∧ Live wx w.heap.size (mach f x t) ∧ Live wx (w.heap.size + 1) #[.int .i64 a, .int .i64 b, .int .i64 c, .int .i64 d] ∧ Live wx (w.heap.size + 2) #[.int .i64 a', .int .i64 b', .int .i64 c', .int .i64 d'] ∧ Below w.heap.size w wx

set_option maxRecDepth 100000 in
set_option maxHeartbeats 8000000 in
theorem hold_t (f : Nat → Int) (x : Bool) (t a b c d a' b' c' d' len feed : Int) (w : World) (hlen : -9223372036854775808 ≤ len ∧ len ≤ 9223372036854775807) (hfeed : -9223372036854775808 ≤ feed ∧ feed ≤ 9223372036854775807) (hz : kinValid f t = true) (hv : ddaValid a b c d = true) (hv' : ddaValid a' b' c' d' = true) :
    Calls Try.prog 11 #[.agg (mach f x t), .agg #[.int .i64 a, .int .i64 b, .int .i64 c, .int .i64 d], .agg #[.int .i64 a', .int .i64 b', .int .i64 c', .int .i64 d'], .int .i64 len, .int .i64 feed] w fun e w' => e = .returned (.bool true) ∧ Below w.heap.size w w' := by
  have hfacts := hold_facts f t a b c d a' b' c' d' len feed hz hv hv' hlen.2 hfeed.2 _ _ _ _ _ rfl rfl rfl rfl rfl
  have hca := limC_range a b c d hv
  have hcb := limC_range a' b' c' d' hv'
  have hD := junD_in a b c d a' b' c' d' hv hv'
  have hn := ddaDom_in a b c d
  have hk := ddaDom_in a' b' c' d'
  have hax := acc_facts f t hz
  have KV := Lib.hid (show ∀ w : World, Calls Try.prog 34 #[.agg (mach f x t), .agg #[.int .i64 a, .int .i64 b, .int .i64 c, .int .i64 d]] w fun e w' => e = .returned (.bool true) ∧ Below w.heap.size w w' from fun w => by have h := law43_valid f x t a b c d w; rw [hv, hz] at h; exact h)
  have KW := Lib.hid (show ∀ w : World, Calls Try.prog 34 #[.agg (mach f x t), .agg #[.int .i64 a', .int .i64 b', .int .i64 c', .int .i64 d']] w fun e w' => e = .returned (.bool true) ∧ Below w.heap.size w w' from fun w => by have h := law43_valid f x t a' b' c' d' w; rw [hv', hz] at h; exact h)
  have KS := Lib.hid (fun w => lim_speed_t f x t a b c d len feed w hz hv hlen hfeed)
  have KA := Lib.hid (fun w => lim_accel_t f x t a b c d w hz hv)
  have KJ := Lib.hid (fun w => lim_junction_t f x t a b c d a' b' c' d' w hz hv hv')
  have KD := Lib.hid (fun w => ref42_dom_b a b c d w)
  have KE := Lib.hid (fun w => ref42_dom_b a' b' c' d' w)
  generalize junK f (ddaDom a b c d) (ddaDom a' b' c' d') a b c d a' b' c' d' 4 = u at *
  generalize limK 3 f (ddaDom a b c d) 16777216 a b c d 4 = q at *
  generalize spdV (limK 2 f (ddaDom a b c d) 1048576 a b c d 4) (ddaDom a b c d) len feed = v at *
  generalize ddaDom a b c d = n at *
  generalize ddaDom a' b' c' d' = k at *
  obtain ⟨hv1, hq1, hu1, ho1, ho2, ho3, hmo, hed⟩ := hfacts
  have hnk := nk_in n k hn hk
  have HCA := Lib.hid hca
  have HCB := Lib.hid hcb
  have HD := Lib.hid hD
  have HN := Lib.hid hn
  have HK := Lib.hid hk
  have HNK := Lib.hid hnk
  have HAX := Lib.hid hax
  have HV1 := Lib.hid hv1
  have HQ1 := Lib.hid hq1
  have HU1 := Lib.hid hu1
  have HO1 := Lib.hid ho1
  have HO2 := Lib.hid ho2
  have HO3 := Lib.hid ho3
  have HMO := Lib.hid hmo
  have HED := Lib.hid hed
  have HLE := Lib.hid hlen
  have HFE := Lib.hid hfeed
  have KO := Lib.hid (fun w => law43_over (v + 1) len feed n w hlen hfeed (by omega))
  have hvw : IntKind.i64.wrap (v + 1) = v + 1 := IntWalk.i64_in _ (by omega)
  have hvw2 : RowKit.wrap64 (v + 1) = v + 1 := by unfold RowKit.wrap64; omega
  have huw : IntKind.i64.wrap (u + 1) = u + 1 := IntWalk.i64_in _ (by omega)
  have huw2 : RowKit.wrap64 (u + 1) = u + 1 := by unfold RowKit.wrap64; omega
  have hnw : IntKind.i64.wrap (n * k) = n * k := IntWalk.i64_in _ (by omega)
  have hnw2 : RowKit.wrap64 (n * k) = n * k := by unfold RowKit.wrap64; omega
  clear hca hcb hD hn hk hnk hax hv1 hq1 hu1 ho1 ho2 ho3 hmo hed hlen hfeed hz hv hv'
  go_enter Try.func11, Try.ntmps11
  go_upto_region 1 with (fail)
  refine gen_world (fun wx => Live wx w.heap.size (mach f x t) ∧ Live wx (w.heap.size + 1) #[.int .i64 a, .int .i64 b, .int .i64 c, .int .i64 d] ∧ Live wx (w.heap.size + 2) #[.int .i64 a', .int .i64 b', .int .i64 c', .int .i64 d'] ∧ Below w.heap.size w wx) ?_ ?_
  · refine ⟨live_alloc (live_alloc (live_new _ _ rfl) _) _, live_alloc (live_new _ _ (by simp)) _, live_new _ _ (by simp), ?_⟩
    (repeat' (first | with_reducible exact Below.refl _ _ | with_reducible refine Below.drew ?_ | with_reducible refine below_drewN ?_ _ | with_reducible refine Below.alloc ?_ ?_ _ | with_reducible refine Below.setCell ?_ ?_ _ | with_reducible refine Below.trans ?_ (Below.mono (by with_reducible assumption) ?_) | (simp; done) | (simp; omega) | omega))
  rintro wx ⟨L, L1, L2, hb⟩
  have p0 := L.1
  have p1 := L1.1
  have p2 := L2.1
  have lm := loadM_run (live_rangeAll L)
  obtain ⟨q0, q1, q2, q3⟩ := live_four L1
  obtain ⟨s0, s1, s2, s3⟩ := live_four L2
  go_upto_region 8 with (first | (go_at_call 34; (with_reducible refine (KV.out _).mono ?_); rintro e w1 ⟨rfl, hb1⟩; have z1 := hb1.size; (try simp at z1); have L1a := live_below hb1 (b := w.heap.size) (by (repeat (first | with_reducible assumption | ((with_reducible apply live_new) <;> (first | with_reducible rfl | (focus (simp; done)))) | with_reducible apply live_alloc | with_reducible apply live_drew | with_reducible apply live_drewN | ((with_reducible apply live_set_other); (case hb => first | omega | (simp; done))) | with_reducible apply live_set_same | (focus (simp; done))))); obtain ⟨p1a, e1a, f1a⟩ := id L1a; have L1b := live_below hb1 (b := w.heap.size + 1) (by (repeat (first | with_reducible assumption | ((with_reducible apply live_new) <;> (first | with_reducible rfl | (focus (simp; done)))) | with_reducible apply live_alloc | with_reducible apply live_drew | with_reducible apply live_drewN | ((with_reducible apply live_set_other); (case hb => first | omega | (simp; done))) | with_reducible apply live_set_same | (focus (simp; done))))); obtain ⟨p1b, e1b, f1b⟩ := id L1b; have L1c := live_below hb1 (b := w.heap.size + 2) (by (repeat (first | with_reducible assumption | ((with_reducible apply live_new) <;> (first | with_reducible rfl | (focus (simp; done)))) | with_reducible apply live_alloc | with_reducible apply live_drew | with_reducible apply live_drewN | ((with_reducible apply live_set_other); (case hb => first | omega | (simp; done))) | with_reducible apply live_set_same | (focus (simp; done))))); obtain ⟨p1c, e1c, f1c⟩ := id L1c; clear e1a; have lm1 := loadM_run (live_rangeAll L1a); obtain ⟨q10, q11, q12, q13⟩ := live_four L1b; obtain ⟨s10, s11, s12, s13⟩ := live_four L1c) | (go_at_call 34; (with_reducible refine (KW.out _).mono ?_); rintro e w2 ⟨rfl, hb2⟩; have z2 := hb2.size; (try simp at z2); have L2a := live_below hb2 (b := w.heap.size) (by (repeat (first | with_reducible assumption | ((with_reducible apply live_new) <;> (first | with_reducible rfl | (focus (simp; done)))) | with_reducible apply live_alloc | with_reducible apply live_drew | with_reducible apply live_drewN | ((with_reducible apply live_set_other); (case hb => first | omega | (simp; done))) | with_reducible apply live_set_same | (focus (simp; done))))); obtain ⟨p2a, e2a, f2a⟩ := id L2a; have L2b := live_below hb2 (b := w.heap.size + 1) (by (repeat (first | with_reducible assumption | ((with_reducible apply live_new) <;> (first | with_reducible rfl | (focus (simp; done)))) | with_reducible apply live_alloc | with_reducible apply live_drew | with_reducible apply live_drewN | ((with_reducible apply live_set_other); (case hb => first | omega | (simp; done))) | with_reducible apply live_set_same | (focus (simp; done))))); obtain ⟨p2b, e2b, f2b⟩ := id L2b; have L2c := live_below hb2 (b := w.heap.size + 2) (by (repeat (first | with_reducible assumption | ((with_reducible apply live_new) <;> (first | with_reducible rfl | (focus (simp; done)))) | with_reducible apply live_alloc | with_reducible apply live_drew | with_reducible apply live_drewN | ((with_reducible apply live_set_other); (case hb => first | omega | (simp; done))) | with_reducible apply live_set_same | (focus (simp; done))))); obtain ⟨p2c, e2c, f2c⟩ := id L2c; clear e2a; have lm2 := loadM_run (live_rangeAll L2a); obtain ⟨q20, q21, q22, q23⟩ := live_four L2b; obtain ⟨s20, s21, s22, s23⟩ := live_four L2c) | (go_at_call 35; (with_reducible refine (KD.out _).mono ?_); rintro e w6 ⟨rfl, hb6⟩; have z6 := hb6.size; (try simp at z6); have L6a := live_below hb6 (b := w.heap.size) (by (repeat (first | with_reducible assumption | ((with_reducible apply live_new) <;> (first | with_reducible rfl | (focus (simp; done)))) | with_reducible apply live_alloc | with_reducible apply live_drew | with_reducible apply live_drewN | ((with_reducible apply live_set_other); (case hb => first | omega | (simp; done))) | with_reducible apply live_set_same | (focus (simp; done))))); obtain ⟨p6a, e6a, f6a⟩ := id L6a; have L6b := live_below hb6 (b := w.heap.size + 1) (by (repeat (first | with_reducible assumption | ((with_reducible apply live_new) <;> (first | with_reducible rfl | (focus (simp; done)))) | with_reducible apply live_alloc | with_reducible apply live_drew | with_reducible apply live_drewN | ((with_reducible apply live_set_other); (case hb => first | omega | (simp; done))) | with_reducible apply live_set_same | (focus (simp; done))))); obtain ⟨p6b, e6b, f6b⟩ := id L6b; have L6c := live_below hb6 (b := w.heap.size + 2) (by (repeat (first | with_reducible assumption | ((with_reducible apply live_new) <;> (first | with_reducible rfl | (focus (simp; done)))) | with_reducible apply live_alloc | with_reducible apply live_drew | with_reducible apply live_drewN | ((with_reducible apply live_set_other); (case hb => first | omega | (simp; done))) | with_reducible apply live_set_same | (focus (simp; done))))); obtain ⟨p6c, e6c, f6c⟩ := id L6c; clear e6a; have lm6 := loadM_run (live_rangeAll L6a); obtain ⟨q60, q61, q62, q63⟩ := live_four L6b; obtain ⟨s60, s61, s62, s63⟩ := live_four L6c) | (go_at_call 35; (with_reducible refine (KE.out _).mono ?_); rintro e w7 ⟨rfl, hb7⟩; have z7 := hb7.size; (try simp at z7); have L7a := live_below hb7 (b := w.heap.size) (by (repeat (first | with_reducible assumption | ((with_reducible apply live_new) <;> (first | with_reducible rfl | (focus (simp; done)))) | with_reducible apply live_alloc | with_reducible apply live_drew | with_reducible apply live_drewN | ((with_reducible apply live_set_other); (case hb => first | omega | (simp; done))) | with_reducible apply live_set_same | (focus (simp; done))))); obtain ⟨p7a, e7a, f7a⟩ := id L7a; have L7b := live_below hb7 (b := w.heap.size + 1) (by (repeat (first | with_reducible assumption | ((with_reducible apply live_new) <;> (first | with_reducible rfl | (focus (simp; done)))) | with_reducible apply live_alloc | with_reducible apply live_drew | with_reducible apply live_drewN | ((with_reducible apply live_set_other); (case hb => first | omega | (simp; done))) | with_reducible apply live_set_same | (focus (simp; done))))); obtain ⟨p7b, e7b, f7b⟩ := id L7b; have L7c := live_below hb7 (b := w.heap.size + 2) (by (repeat (first | with_reducible assumption | ((with_reducible apply live_new) <;> (first | with_reducible rfl | (focus (simp; done)))) | with_reducible apply live_alloc | with_reducible apply live_drew | with_reducible apply live_drewN | ((with_reducible apply live_set_other); (case hb => first | omega | (simp; done))) | with_reducible apply live_set_same | (focus (simp; done))))); obtain ⟨p7c, e7c, f7c⟩ := id L7c; clear e7a; have lm7 := loadM_run (live_rangeAll L7a); obtain ⟨q70, q71, q72, q73⟩ := live_four L7b; obtain ⟨s70, s71, s72, s73⟩ := live_four L7c) | (go_at_call 27; (with_reducible refine (KS.out _).mono ?_); rintro e w3 ⟨rfl, hb3⟩; have z3 := hb3.size; (try simp at z3); have L3a := live_below hb3 (b := w.heap.size) (by (repeat (first | with_reducible assumption | ((with_reducible apply live_new) <;> (first | with_reducible rfl | (focus (simp; done)))) | with_reducible apply live_alloc | with_reducible apply live_drew | with_reducible apply live_drewN | ((with_reducible apply live_set_other); (case hb => first | omega | (simp; done))) | with_reducible apply live_set_same | (focus (simp; done))))); obtain ⟨p3a, e3a, f3a⟩ := id L3a; have L3b := live_below hb3 (b := w.heap.size + 1) (by (repeat (first | with_reducible assumption | ((with_reducible apply live_new) <;> (first | with_reducible rfl | (focus (simp; done)))) | with_reducible apply live_alloc | with_reducible apply live_drew | with_reducible apply live_drewN | ((with_reducible apply live_set_other); (case hb => first | omega | (simp; done))) | with_reducible apply live_set_same | (focus (simp; done))))); obtain ⟨p3b, e3b, f3b⟩ := id L3b; have L3c := live_below hb3 (b := w.heap.size + 2) (by (repeat (first | with_reducible assumption | ((with_reducible apply live_new) <;> (first | with_reducible rfl | (focus (simp; done)))) | with_reducible apply live_alloc | with_reducible apply live_drew | with_reducible apply live_drewN | ((with_reducible apply live_set_other); (case hb => first | omega | (simp; done))) | with_reducible apply live_set_same | (focus (simp; done))))); obtain ⟨p3c, e3c, f3c⟩ := id L3c; clear e3a; have lm3 := loadM_run (live_rangeAll L3a); obtain ⟨q30, q31, q32, q33⟩ := live_four L3b; obtain ⟨s30, s31, s32, s33⟩ := live_four L3c) | (go_at_call 30; (with_reducible refine (KA.out _).mono ?_); rintro e w4 ⟨rfl, hb4⟩; have z4 := hb4.size; (try simp at z4); have L4a := live_below hb4 (b := w.heap.size) (by (repeat (first | with_reducible assumption | ((with_reducible apply live_new) <;> (first | with_reducible rfl | (focus (simp; done)))) | with_reducible apply live_alloc | with_reducible apply live_drew | with_reducible apply live_drewN | ((with_reducible apply live_set_other); (case hb => first | omega | (simp; done))) | with_reducible apply live_set_same | (focus (simp; done))))); obtain ⟨p4a, e4a, f4a⟩ := id L4a; have L4b := live_below hb4 (b := w.heap.size + 1) (by (repeat (first | with_reducible assumption | ((with_reducible apply live_new) <;> (first | with_reducible rfl | (focus (simp; done)))) | with_reducible apply live_alloc | with_reducible apply live_drew | with_reducible apply live_drewN | ((with_reducible apply live_set_other); (case hb => first | omega | (simp; done))) | with_reducible apply live_set_same | (focus (simp; done))))); obtain ⟨p4b, e4b, f4b⟩ := id L4b; have L4c := live_below hb4 (b := w.heap.size + 2) (by (repeat (first | with_reducible assumption | ((with_reducible apply live_new) <;> (first | with_reducible rfl | (focus (simp; done)))) | with_reducible apply live_alloc | with_reducible apply live_drew | with_reducible apply live_drewN | ((with_reducible apply live_set_other); (case hb => first | omega | (simp; done))) | with_reducible apply live_set_same | (focus (simp; done))))); obtain ⟨p4c, e4c, f4c⟩ := id L4c; clear e4a; have lm4 := loadM_run (live_rangeAll L4a); obtain ⟨q40, q41, q42, q43⟩ := live_four L4b; obtain ⟨s40, s41, s42, s43⟩ := live_four L4c) | (go_at_call 32; (with_reducible refine (KJ.out _).mono ?_); rintro e w5 ⟨rfl, hb5⟩; have z5 := hb5.size; (try simp at z5); have L5a := live_below hb5 (b := w.heap.size) (by (repeat (first | with_reducible assumption | ((with_reducible apply live_new) <;> (first | with_reducible rfl | (focus (simp; done)))) | with_reducible apply live_alloc | with_reducible apply live_drew | with_reducible apply live_drewN | ((with_reducible apply live_set_other); (case hb => first | omega | (simp; done))) | with_reducible apply live_set_same | (focus (simp; done))))); obtain ⟨p5a, e5a, f5a⟩ := id L5a; have L5b := live_below hb5 (b := w.heap.size + 1) (by (repeat (first | with_reducible assumption | ((with_reducible apply live_new) <;> (first | with_reducible rfl | (focus (simp; done)))) | with_reducible apply live_alloc | with_reducible apply live_drew | with_reducible apply live_drewN | ((with_reducible apply live_set_other); (case hb => first | omega | (simp; done))) | with_reducible apply live_set_same | (focus (simp; done))))); obtain ⟨p5b, e5b, f5b⟩ := id L5b; have L5c := live_below hb5 (b := w.heap.size + 2) (by (repeat (first | with_reducible assumption | ((with_reducible apply live_new) <;> (first | with_reducible rfl | (focus (simp; done)))) | with_reducible apply live_alloc | with_reducible apply live_drew | with_reducible apply live_drewN | ((with_reducible apply live_set_other); (case hb => first | omega | (simp; done))) | with_reducible apply live_set_same | (focus (simp; done))))); obtain ⟨p5c, e5c, f5c⟩ := id L5c; clear e5a; have lm5 := loadM_run (live_rangeAll L5a); obtain ⟨q50, q51, q52, q53⟩ := live_four L5b; obtain ⟨s50, s51, s52, s53⟩ := live_four L5c))
  refine gen_world (fun wx => Live wx w.heap.size (mach f x t) ∧ Live wx (w.heap.size + 1) #[.int .i64 a, .int .i64 b, .int .i64 c, .int .i64 d] ∧ Live wx (w.heap.size + 2) #[.int .i64 a', .int .i64 b', .int .i64 c', .int .i64 d'] ∧ Below w.heap.size w wx) ?_ ?_
  · refine ⟨?_, ?_, ?_, ?_⟩
    · (repeat (first | with_reducible assumption | ((with_reducible apply live_new) <;> (first | with_reducible rfl | (focus (simp; done)))) | with_reducible apply live_alloc | with_reducible apply live_drew | with_reducible apply live_drewN | ((with_reducible apply live_set_other); (case hb => first | omega | (simp; done))) | with_reducible apply live_set_same | (focus (simp; done))))
    · (repeat (first | with_reducible assumption | ((with_reducible apply live_new) <;> (first | with_reducible rfl | (focus (simp; done)))) | with_reducible apply live_alloc | with_reducible apply live_drew | with_reducible apply live_drewN | ((with_reducible apply live_set_other); (case hb => first | omega | (simp; done))) | with_reducible apply live_set_same | (focus (simp; done))))
    · (repeat (first | with_reducible assumption | ((with_reducible apply live_new) <;> (first | with_reducible rfl | (focus (simp; done)))) | with_reducible apply live_alloc | with_reducible apply live_drew | with_reducible apply live_drewN | ((with_reducible apply live_set_other); (case hb => first | omega | (simp; done))) | with_reducible apply live_set_same | (focus (simp; done))))
    · (repeat' (first | with_reducible exact Below.refl _ _ | with_reducible refine Below.drew ?_ | with_reducible refine below_drewN ?_ _ | with_reducible refine Below.alloc ?_ ?_ _ | with_reducible refine Below.setCell ?_ ?_ _ | with_reducible refine Below.trans ?_ (Below.mono (by with_reducible assumption) ?_) | (simp; done) | (simp; omega) | omega))
  clear L L1 L2 hb p0 p1 p2 lm q0 q1 q2 q3 s0 s1 s2 s3 hb1 z1 L1a L1b L1c p1a p1b p1c e1b e1c f1a f1b f1c lm1 q10 q11 q12 q13 s10 s11 s12 s13 hb2 z2 L2a L2b L2c p2a p2b p2c e2b e2c f2a f2b f2c lm2 q20 q21 q22 q23 s20 s21 s22 s23 hb3 z3 L3a L3b L3c p3a p3b p3c e3b e3c f3a f3b f3c lm3 q30 q31 q32 q33 s30 s31 s32 s33 hb4 z4 L4a L4b L4c p4a p4b p4c e4b e4c f4a f4b f4c lm4 q40 q41 q42 q43 s40 s41 s42 s43 hb5 z5 L5a L5b L5c p5a p5b p5c e5b e5c f5a f5b f5c lm5 q50 q51 q52 q53 s50 s51 s52 s53 hb6 z6 L6a L6b L6c p6a p6b p6c e6b e6c f6a f6b f6c lm6 q60 q61 q62 q63 s60 s61 s62 s63 hb7 z7 L7a L7b L7c p7a p7b p7c e7b e7c f7a f7b f7c lm7 q70 q71 q72 q73 s70 s71 s72 s73
  rintro wx ⟨L, L1, L2, hb⟩
  have p0 := L.1
  have p1 := L1.1
  have p2 := L2.1
  go_cut [16] (fun s16 wx => s16 = .bool (mo0 v len feed n) ∧ Live wx w.heap.size (mach f x t) ∧ Live wx (w.heap.size + 1) #[.int .i64 a, .int .i64 b, .int .i64 c, .int .i64 d] ∧ Live wx (w.heap.size + 2) #[.int .i64 a', .int .i64 b', .int .i64 c', .int .i64 d'] ∧ Below w.heap.size w wx)
  case first =>
    by_cases c1 : v = 1048576
    · have b1 : (v == 1048576) = true := by simpa using c1
      clear c1
      go_wp2_with fail
      go_meet
      exact ⟨by unfold mo0; rw [b1]; rfl, L, L1, L2, hb⟩
    · have b1 : (v == 1048576) = false := beq_eq_false_iff_ne.2 c1
      clear c1
      by_cases c2 : 0 < len
      · have b2 : decide (0 < len) = true := by simpa using c2
        by_cases c3 : 0 < feed
        · have b3 : decide (0 < feed) = true := by simpa using c3
          by_cases c4 : v = 1
          · have b4 : (v == 1) = true := by simpa using c4
            clear c4
            go_wp2_with fail
            go_meet
            exact ⟨by unfold mo0; rw [b1, b2, b3, b4]; rfl, L, L1, L2, hb⟩
          · have b4 : (v == 1) = false := beq_eq_false_iff_ne.2 c4
            clear c4
            go_wp2_with (go_at_call 36; (with_reducible refine (KO.out _).mono ?_); rintro e w1 ⟨rfl, hb1⟩; have z1 := hb1.size; (try simp at z1); have L1a := live_below hb1 (b := w.heap.size) (by (repeat (first | with_reducible assumption | ((with_reducible apply live_new) <;> (first | with_reducible rfl | (focus (simp; done)))) | with_reducible apply live_alloc | with_reducible apply live_drew | with_reducible apply live_drewN | ((with_reducible apply live_set_other); (case hb => first | omega | (simp; done))) | with_reducible apply live_set_same | (focus (simp; done))))); obtain ⟨p1a, e1a, f1a⟩ := id L1a; have L1b := live_below hb1 (b := w.heap.size + 1) (by (repeat (first | with_reducible assumption | ((with_reducible apply live_new) <;> (first | with_reducible rfl | (focus (simp; done)))) | with_reducible apply live_alloc | with_reducible apply live_drew | with_reducible apply live_drewN | ((with_reducible apply live_set_other); (case hb => first | omega | (simp; done))) | with_reducible apply live_set_same | (focus (simp; done))))); obtain ⟨p1b, e1b, f1b⟩ := id L1b; have L1c := live_below hb1 (b := w.heap.size + 2) (by (repeat (first | with_reducible assumption | ((with_reducible apply live_new) <;> (first | with_reducible rfl | (focus (simp; done)))) | with_reducible apply live_alloc | with_reducible apply live_drew | with_reducible apply live_drewN | ((with_reducible apply live_set_other); (case hb => first | omega | (simp; done))) | with_reducible apply live_set_same | (focus (simp; done))))); obtain ⟨p1c, e1c, f1c⟩ := id L1c)
            go_meet
            exact ⟨by unfold mo0; rw [b1, b2, b3, b4]; simp, L1a, L1b, L1c, by (repeat' (first | with_reducible exact Below.refl _ _ | with_reducible refine Below.drew ?_ | with_reducible refine below_drewN ?_ _ | with_reducible refine Below.alloc ?_ ?_ _ | with_reducible refine Below.setCell ?_ ?_ _ | with_reducible refine Below.trans ?_ (Below.mono (by with_reducible assumption) ?_) | (simp; done) | (simp; omega) | omega))⟩
        · have b3 : decide (0 < feed) = false := by simpa using c3
          clear c3
          go_wp2_with fail
          go_meet
          exact ⟨by unfold mo0; rw [b1, b2, b3]; rfl, L, L1, L2, hb⟩
      · have b2 : decide (0 < len) = false := by simpa using c2
        clear c2
        go_wp2_with fail
        go_meet
        exact ⟨by unfold mo0; rw [b1, b2]; rfl, L, L1, L2, hb⟩
  case rest =>
  obtain ⟨rfl, L, L1, L2, hb⟩ := hcut
  clear KO HLE HFE
  generalize mo0 v len feed n = M at *
  go_wp2_with fail
  go_loopw [16, 17, 18] (HRel f x t a b c d a' b' c' d' v u n k M w) (fun _ _ i _ => 4 - (intOf i).toNat)
  case atStart => exact ⟨0, rfl, by omega, rfl, rfl, L, L1, L2, hb⟩
  case round =>
    obtain ⟨i, rfl, hi, rfl, rfl, L, L1, L2, hb⟩ := hrel
    have p0 := L.1
    have p1 := L1.1
    have p2 := L2.1
    by_cases hlt : i < 4
    · have hca : -16777216 ≤ limC a b c d i ∧ limC a b c d i ≤ 16777216 := HCA.out i
      have hcb : -16777216 ≤ limC a' b' c' d' i ∧ limC a' b' c' d' i ≤ 16777216 := HCB.out i
      have CB1 := Lib.hid (fun (w' : World) (g : Nat) (h : Live w' g #[.int .i64 a, .int .i64 b, .int .i64 c, .int .i64 d]) => arr_at h i hlt)
      have CB2 := Lib.hid (fun (w' : World) (g : Nat) (h : Live w' g #[.int .i64 a', .int .i64 b', .int .i64 c', .int .i64 d']) => arr_at h i hlt)
      have hD0 := HD.out i
      have ho1 := HO1.out i hlt
      have ho2 := HO2.out i hlt
      have ho3 := HO3.out i hlt
      have hM : moB M v f n a b c d (i + 1) = (moB M v f n a b c d i || ovB (v + 1) (ab (limC a b c d i)) (f (7 * i + 2)) n) := rfl
      have hE : edB u f n k a b c d a' b' c' d' (i + 1) = (edB u f n k a b c d a' b' c' d' i || ovB (u + 1) (junD n k a b c d a' b' c' d' i) (f (7 * i + 4)) (n * k)) := rfl
      unfold junD at hD0 ho3 hE
      generalize limC a b c d i = p at *
      generalize limC a' b' c' d' i = q' at *
      have hbd := jun_bd p q' n k hca hcb HN.out HK.out
      have w1 : RowKit.wrap64 (p * k) = p * k := by unfold RowKit.wrap64; omega
      have w2 : RowKit.wrap64 (q' * n) = q' * n := by unfold RowKit.wrap64; omega
      have w3 : RowKit.wrap64 (p * k - q' * n) = p * k - q' * n := by unfold RowKit.wrap64; omega
      have v1 : IntKind.i64.wrap (p * k) = p * k := IntWalk.i64_in _ (by omega)
      have v2 : IntKind.i64.wrap (q' * n) = q' * n := IntWalk.i64_in _ (by omega)
      have v3 : IntKind.i64.wrap (p * k - q' * n) = p * k - q' * n := IntWalk.i64_in _ (by omega)
      have KZ := Lib.hid (fun w => law43_size (p * k - q' * n) w (by omega))
      have KY := Lib.hid (fun w => law43_size p w (by omega))
      have hab : 0 ≤ ab p ∧ ab p ≤ 16777216 := by unfold ab; omega
      have hD : 0 ≤ ab (p * k - q' * n) ∧ ab (p * k - q' * n) ≤ 562949953421312 := hD0
      have hf : (0 ≤ f (7 * i + 2) ∧ f (7 * i + 2) ≤ 1048576) ∧ (0 ≤ f (7 * i + 3) ∧ f (7 * i + 3) ≤ 16777216) ∧ (0 ≤ f (7 * i + 4) ∧ f (7 * i + 4) ≤ 1048576) := HAX.out i hlt
      have KO1 := Lib.hid (fun w => law43_over v (ab p) (f (7 * i + 2)) n w (by omega) (by omega) (by have := HN.out; omega))
      have KO2 := Lib.hid (fun w => law43_over q (ab p) (f (7 * i + 3)) n w (by omega) (by omega) (by have := HN.out; omega))
      have KO3 := Lib.hid (fun w => law43_over u (ab (p * k - q' * n)) (f (7 * i + 4)) (n * k) w (by omega) (by omega) (by have := HNK.out; omega))
      have KO4 := Lib.hid (fun w => law43_over (v + 1) (ab p) (f (7 * i + 2)) n w (by omega) (by omega) (by have := HN.out; omega))
      have KO5 := Lib.hid (fun w => law43_over (u + 1) (ab (p * k - q' * n)) (f (7 * i + 4)) (n * k) w (by omega) (by omega) (by have := HNK.out; omega))
      rw [ho1] at KO1
      rw [ho2] at KO2
      rw [ho3] at KO3
      have HM := Lib.hid hM
      have HE := Lib.hid hE
      clear hM hE ho1 ho2 ho3 hf hbd hca hcb hD0
      generalize moB M v f n a b c d i = m0 at *
      generalize edB u f n k a b c d a' b' c' d' i = e0 at *
      generalize ovB (v + 1) (ab p) (f (7 * i + 2)) n = g1 at *
      generalize ovB (u + 1) (ab (p * k - q' * n)) (f (7 * i + 4)) (n * k) = g2 at *
      go_upto_region 14 with (first | ((with_reducible refine wpList_load_in (ty := 23) w.heap.size (i * 7) (axA f i) ?_ (mach_range f x t L i hlt) Try.underlying23 ?_ ?_ ?_); (· rfl); (· rfl); (· kernel_rfl)) | ((with_reducible refine wpList_store_in (ty := 23) wr.heap.size 0 (axA f i) ?_ ?_ ?_ ?_ (axA_one _ _) ?_); (· rfl); (· rfl); (· exact live_there (live_new _ _ rfl) 0 7 (by decide)); (· kernel_rfl)))
      refine gen_world (fun wx => ∃ X, X = wr.heap.size ∧ w.heap.size + 2 < X ∧ Live wx w.heap.size (mach f x t) ∧ Live wx (w.heap.size + 1) #[.int .i64 a, .int .i64 b, .int .i64 c, .int .i64 d] ∧ Live wx (w.heap.size + 2) #[.int .i64 a', .int .i64 b', .int .i64 c', .int .i64 d'] ∧ Live wx X (axA f i) ∧ Below w.heap.size w wx) ?_ ?_
      · refine ⟨_, rfl, by omega, ?_, ?_, ?_, ?_, ?_⟩
        · exact live_cells_other (live_alloc L _) _ _ (by omega)
        · exact live_cells_other (live_alloc L1 _) _ _ (by omega)
        · exact live_cells_other (live_alloc L2 _) _ _ (by omega)
        · exact live_whole (live_new _ _ rfl) _ rfl
        · exact below_setCells (by omega) _ _ _ (hb.alloc (by omega) _)
      rintro wx ⟨X, hX, hX2, L, L1, L2, L3, hb⟩
      rw [← hX]
      simp only [Act.put]
      clear hX p0 p1 p2
      have p0 := L.1
      have p1 := L1.1
      have p2 := L2.1
      have p3 := L3.1
      go_cut [20] (fun s20 wx => s20 = .int .i64 (ab (p * k - q' * n)) ∧ Live wx w.heap.size (mach f x t) ∧ Live wx (w.heap.size + 1) #[.int .i64 a, .int .i64 b, .int .i64 c, .int .i64 d] ∧ Live wx (w.heap.size + 2) #[.int .i64 a', .int .i64 b', .int .i64 c', .int .i64 d'] ∧ Live wx X (axA f i) ∧ Below w.heap.size w wx)
      case first =>
        have ca := CB1.out _ _ L1
        have cb := CB2.out _ _ L2
        go_region_held3 (fun w' => w'.cell? ⟨w.heap.size + 1, i, none⟩ = some (.int .i64 p) ∧ w'.cell? ⟨w.heap.size + 2, i, none⟩ = some (.int .i64 q')) (go_keep)
          ((go_at_call 37; (with_reducible refine (KZ.out _).mono ?_); rintro e w1 ⟨rfl, rfl⟩))
        all_goals (try go_wp2_with fail)
        all_goals go_meet
        all_goals refine ⟨rfl, ?_, ?_, ?_, ?_, ?_⟩
        all_goals first | (focus ((repeat (first | with_reducible assumption | ((with_reducible apply live_new) <;> (first | with_reducible rfl | (focus (simp; done)))) | with_reducible apply live_alloc | with_reducible apply live_drew | with_reducible apply live_drewN | ((with_reducible apply live_set_other); (case hb => first | omega | (simp; done))) | with_reducible apply live_set_same | (focus (simp; done)))); done)) | (repeat' (first | with_reducible exact Below.refl _ _ | with_reducible refine Below.drew ?_ | with_reducible refine below_drewN ?_ _ | with_reducible refine Below.alloc ?_ ?_ _ | with_reducible refine Below.setCell ?_ ?_ _ | with_reducible refine Below.trans ?_ (Below.mono (by with_reducible assumption) ?_) | (simp; done) | (simp; omega) | omega))
      case rest =>
      obtain ⟨rfl, L, L1, L2, L3, hb⟩ := hcut
      clear KZ w1 w2 w3 v1 v2 v3
      have p0 := L.1
      have p1 := L1.1
      have p2 := L2.1
      have p3 := L3.1
      generalize ab (p * k - q' * n) = D at *
      generalize hP : ab p = P at *
      have HP := Lib.hid hP
      clear hP
      obtain ⟨x0, x1, x2⟩ := axA_cells f i L3
      have ca := CB1.out _ _ L1
      go_upto_region 15 with (fail)
      go_region_held3 (fun w' => w'.cell? ⟨w.heap.size + 1, i, none⟩ = some (.int .i64 p) ∧ w'.cell? ⟨X, 2, none⟩ = some (.int .i64 (f (7 * i + 2))) ∧ w'.cell? ⟨X, 3, none⟩ = some (.int .i64 (f (7 * i + 3))) ∧ w'.cell? ⟨X, 4, none⟩ = some (.int .i64 (f (7 * i + 4)))) (go_keep)
        (first | (go_at_call 37; (with_reducible refine (KY.out _).mono ?_); rintro e w1 ⟨rfl, rfl⟩) | (go_at_call 36; (with_reducible refine (KO1.out _).mono ?_); rintro e w1 ⟨rfl, hb1⟩; have z1 := hb1.size; (try simp at z1); have L1a := live_below hb1 (b := w.heap.size) (by (repeat (first | with_reducible assumption | ((with_reducible apply live_new) <;> (first | with_reducible rfl | (focus (simp; done)))) | with_reducible apply live_alloc | with_reducible apply live_drew | with_reducible apply live_drewN | ((with_reducible apply live_set_other); (case hb => first | omega | (simp; done))) | with_reducible apply live_set_same | (focus (simp; done))))); obtain ⟨p1a, e1a, f1a⟩ := id L1a; have L1b := live_below hb1 (b := w.heap.size + 1) (by (repeat (first | with_reducible assumption | ((with_reducible apply live_new) <;> (first | with_reducible rfl | (focus (simp; done)))) | with_reducible apply live_alloc | with_reducible apply live_drew | with_reducible apply live_drewN | ((with_reducible apply live_set_other); (case hb => first | omega | (simp; done))) | with_reducible apply live_set_same | (focus (simp; done))))); obtain ⟨p1b, e1b, f1b⟩ := id L1b; have L1c := live_below hb1 (b := w.heap.size + 2) (by (repeat (first | with_reducible assumption | ((with_reducible apply live_new) <;> (first | with_reducible rfl | (focus (simp; done)))) | with_reducible apply live_alloc | with_reducible apply live_drew | with_reducible apply live_drewN | ((with_reducible apply live_set_other); (case hb => first | omega | (simp; done))) | with_reducible apply live_set_same | (focus (simp; done))))); obtain ⟨p1c, e1c, f1c⟩ := id L1c; have L1d := live_below hb1 (b := X) (by (repeat (first | with_reducible assumption | ((with_reducible apply live_new) <;> (first | with_reducible rfl | (focus (simp; done)))) | with_reducible apply live_alloc | with_reducible apply live_drew | with_reducible apply live_drewN | ((with_reducible apply live_set_other); (case hb => first | omega | (simp; done))) | with_reducible apply live_set_same | (focus (simp; done))))); obtain ⟨p1d, e1d, f1d⟩ := id L1d; clear e1a e1b e1c e1d; obtain ⟨x10, x11, x12⟩ := axA_cells f i L1d; have c1a := CB1.out _ _ L1b) | (go_at_call 36; (with_reducible refine (KO2.out _).mono ?_); rintro e w2 ⟨rfl, hb2⟩; have z2 := hb2.size; (try simp at z2); have L2a := live_below hb2 (b := w.heap.size) (by (repeat (first | with_reducible assumption | ((with_reducible apply live_new) <;> (first | with_reducible rfl | (focus (simp; done)))) | with_reducible apply live_alloc | with_reducible apply live_drew | with_reducible apply live_drewN | ((with_reducible apply live_set_other); (case hb => first | omega | (simp; done))) | with_reducible apply live_set_same | (focus (simp; done))))); obtain ⟨p2a, e2a, f2a⟩ := id L2a; have L2b := live_below hb2 (b := w.heap.size + 1) (by (repeat (first | with_reducible assumption | ((with_reducible apply live_new) <;> (first | with_reducible rfl | (focus (simp; done)))) | with_reducible apply live_alloc | with_reducible apply live_drew | with_reducible apply live_drewN | ((with_reducible apply live_set_other); (case hb => first | omega | (simp; done))) | with_reducible apply live_set_same | (focus (simp; done))))); obtain ⟨p2b, e2b, f2b⟩ := id L2b; have L2c := live_below hb2 (b := w.heap.size + 2) (by (repeat (first | with_reducible assumption | ((with_reducible apply live_new) <;> (first | with_reducible rfl | (focus (simp; done)))) | with_reducible apply live_alloc | with_reducible apply live_drew | with_reducible apply live_drewN | ((with_reducible apply live_set_other); (case hb => first | omega | (simp; done))) | with_reducible apply live_set_same | (focus (simp; done))))); obtain ⟨p2c, e2c, f2c⟩ := id L2c; have L2d := live_below hb2 (b := X) (by (repeat (first | with_reducible assumption | ((with_reducible apply live_new) <;> (first | with_reducible rfl | (focus (simp; done)))) | with_reducible apply live_alloc | with_reducible apply live_drew | with_reducible apply live_drewN | ((with_reducible apply live_set_other); (case hb => first | omega | (simp; done))) | with_reducible apply live_set_same | (focus (simp; done))))); obtain ⟨p2d, e2d, f2d⟩ := id L2d; clear e2a e2b e2c e2d; obtain ⟨x20, x21, x22⟩ := axA_cells f i L2d; have c2a := CB1.out _ _ L2b) | (go_at_call 36; (with_reducible refine (KO3.out _).mono ?_); rintro e w3 ⟨rfl, hb3⟩; have z3 := hb3.size; (try simp at z3); have L3a := live_below hb3 (b := w.heap.size) (by (repeat (first | with_reducible assumption | ((with_reducible apply live_new) <;> (first | with_reducible rfl | (focus (simp; done)))) | with_reducible apply live_alloc | with_reducible apply live_drew | with_reducible apply live_drewN | ((with_reducible apply live_set_other); (case hb => first | omega | (simp; done))) | with_reducible apply live_set_same | (focus (simp; done))))); obtain ⟨p3a, e3a, f3a⟩ := id L3a; have L3b := live_below hb3 (b := w.heap.size + 1) (by (repeat (first | with_reducible assumption | ((with_reducible apply live_new) <;> (first | with_reducible rfl | (focus (simp; done)))) | with_reducible apply live_alloc | with_reducible apply live_drew | with_reducible apply live_drewN | ((with_reducible apply live_set_other); (case hb => first | omega | (simp; done))) | with_reducible apply live_set_same | (focus (simp; done))))); obtain ⟨p3b, e3b, f3b⟩ := id L3b; have L3c := live_below hb3 (b := w.heap.size + 2) (by (repeat (first | with_reducible assumption | ((with_reducible apply live_new) <;> (first | with_reducible rfl | (focus (simp; done)))) | with_reducible apply live_alloc | with_reducible apply live_drew | with_reducible apply live_drewN | ((with_reducible apply live_set_other); (case hb => first | omega | (simp; done))) | with_reducible apply live_set_same | (focus (simp; done))))); obtain ⟨p3c, e3c, f3c⟩ := id L3c; have L3d := live_below hb3 (b := X) (by (repeat (first | with_reducible assumption | ((with_reducible apply live_new) <;> (first | with_reducible rfl | (focus (simp; done)))) | with_reducible apply live_alloc | with_reducible apply live_drew | with_reducible apply live_drewN | ((with_reducible apply live_set_other); (case hb => first | omega | (simp; done))) | with_reducible apply live_set_same | (focus (simp; done))))); obtain ⟨p3d, e3d, f3d⟩ := id L3d; clear e3a e3b e3c e3d; obtain ⟨x30, x31, x32⟩ := axA_cells f i L3d; have c3a := CB1.out _ _ L3b))
      rename_i hh; clear hh
      go_upto_region 17 with (fail)
      refine gen_world (fun wx => Live wx w.heap.size (mach f x t) ∧ Live wx (w.heap.size + 1) #[.int .i64 a, .int .i64 b, .int .i64 c, .int .i64 d] ∧ Live wx (w.heap.size + 2) #[.int .i64 a', .int .i64 b', .int .i64 c', .int .i64 d'] ∧ Live wx X (axA f i) ∧ Below w.heap.size w wx) ?_ ?_
      · refine ⟨?_, ?_, ?_, ?_, ?_⟩
        all_goals first | (focus ((repeat (first | with_reducible assumption | ((with_reducible apply live_new) <;> (first | with_reducible rfl | (focus (simp; done)))) | with_reducible apply live_alloc | with_reducible apply live_drew | with_reducible apply live_drewN | ((with_reducible apply live_set_other); (case hb => first | omega | (simp; done))) | with_reducible apply live_set_same | (focus (simp; done)))); done)) | (repeat' (first | with_reducible exact Below.refl _ _ | with_reducible refine Below.drew ?_ | with_reducible refine below_drewN ?_ _ | with_reducible refine Below.alloc ?_ ?_ _ | with_reducible refine Below.setCell ?_ ?_ _ | with_reducible refine Below.trans ?_ (Below.mono (by with_reducible assumption) ?_) | (simp; done) | (simp; omega) | omega))
      rintro wx ⟨L, L1, L2, L3, hb⟩
      have p0 := L.1
      have p1 := L1.1
      have p2 := L2.1
      have p3 := L3.1
      go_cut [16] (fun s16 wx => s16 = .bool (m0 || g1) ∧ Live wx w.heap.size (mach f x t) ∧ Live wx (w.heap.size + 1) #[.int .i64 a, .int .i64 b, .int .i64 c, .int .i64 d] ∧ Live wx (w.heap.size + 2) #[.int .i64 a', .int .i64 b', .int .i64 c', .int .i64 d'] ∧ Live wx X (axA f i) ∧ Below w.heap.size w wx)
      case first =>
        obtain ⟨x0, x1, x2⟩ := axA_cells f i L3
        have ca := CB1.out _ _ L1
        cases m0
        · go_region_held3 (fun w' => w'.cell? ⟨w.heap.size + 1, i, none⟩ = some (.int .i64 p) ∧ w'.cell? ⟨X, 2, none⟩ = some (.int .i64 (f (7 * i + 2)))) (go_keep)
            (first | (go_at_call 37; (with_reducible refine (KY.out _).mono ?_); rintro e w1 ⟨rfl, rfl⟩) | (go_at_call 36; (with_reducible refine (KO4.out _).mono ?_); rintro e w4 ⟨rfl, hb4⟩; have z4 := hb4.size; (try simp at z4); have L4a := live_below hb4 (b := w.heap.size) (by (repeat (first | with_reducible assumption | ((with_reducible apply live_new) <;> (first | with_reducible rfl | (focus (simp; done)))) | with_reducible apply live_alloc | with_reducible apply live_drew | with_reducible apply live_drewN | ((with_reducible apply live_set_other); (case hb => first | omega | (simp; done))) | with_reducible apply live_set_same | (focus (simp; done))))); obtain ⟨p4a, e4a, f4a⟩ := id L4a; have L4b := live_below hb4 (b := w.heap.size + 1) (by (repeat (first | with_reducible assumption | ((with_reducible apply live_new) <;> (first | with_reducible rfl | (focus (simp; done)))) | with_reducible apply live_alloc | with_reducible apply live_drew | with_reducible apply live_drewN | ((with_reducible apply live_set_other); (case hb => first | omega | (simp; done))) | with_reducible apply live_set_same | (focus (simp; done))))); obtain ⟨p4b, e4b, f4b⟩ := id L4b; have L4c := live_below hb4 (b := w.heap.size + 2) (by (repeat (first | with_reducible assumption | ((with_reducible apply live_new) <;> (first | with_reducible rfl | (focus (simp; done)))) | with_reducible apply live_alloc | with_reducible apply live_drew | with_reducible apply live_drewN | ((with_reducible apply live_set_other); (case hb => first | omega | (simp; done))) | with_reducible apply live_set_same | (focus (simp; done))))); obtain ⟨p4c, e4c, f4c⟩ := id L4c; have L4d := live_below hb4 (b := X) (by (repeat (first | with_reducible assumption | ((with_reducible apply live_new) <;> (first | with_reducible rfl | (focus (simp; done)))) | with_reducible apply live_alloc | with_reducible apply live_drew | with_reducible apply live_drewN | ((with_reducible apply live_set_other); (case hb => first | omega | (simp; done))) | with_reducible apply live_set_same | (focus (simp; done))))); obtain ⟨p4d, e4d, f4d⟩ := id L4d; clear e4a e4b e4c e4d; obtain ⟨x40, x41, x42⟩ := axA_cells f i L4d; have c4a := CB1.out _ _ L4b))
          all_goals (try go_wp2_with fail)
          all_goals go_meet
          all_goals refine ⟨rfl, ?_, ?_, ?_, ?_, ?_⟩
          all_goals first | (focus ((repeat (first | with_reducible assumption | ((with_reducible apply live_new) <;> (first | with_reducible rfl | (focus (simp; done)))) | with_reducible apply live_alloc | with_reducible apply live_drew | with_reducible apply live_drewN | ((with_reducible apply live_set_other); (case hb => first | omega | (simp; done))) | with_reducible apply live_set_same | (focus (simp; done)))); done)) | (repeat' (first | with_reducible exact Below.refl _ _ | with_reducible refine Below.drew ?_ | with_reducible refine below_drewN ?_ _ | with_reducible refine Below.alloc ?_ ?_ _ | with_reducible refine Below.setCell ?_ ?_ _ | with_reducible refine Below.trans ?_ (Below.mono (by with_reducible assumption) ?_) | (simp; done) | (simp; omega) | omega))
        · go_quiet (fail)
          all_goals (try go_wp2_with fail)
          all_goals go_meet
          all_goals refine ⟨rfl, ?_, ?_, ?_, ?_, ?_⟩
          all_goals first | (focus ((repeat (first | with_reducible assumption | ((with_reducible apply live_new) <;> (first | with_reducible rfl | (focus (simp; done)))) | with_reducible apply live_alloc | with_reducible apply live_drew | with_reducible apply live_drewN | ((with_reducible apply live_set_other); (case hb => first | omega | (simp; done))) | with_reducible apply live_set_same | (focus (simp; done)))); done)) | (repeat' (first | with_reducible exact Below.refl _ _ | with_reducible refine Below.drew ?_ | with_reducible refine below_drewN ?_ _ | with_reducible refine Below.alloc ?_ ?_ _ | with_reducible refine Below.setCell ?_ ?_ _ | with_reducible refine Below.trans ?_ (Below.mono (by with_reducible assumption) ?_) | (simp; done) | (simp; omega) | omega))
      case rest =>
      obtain ⟨rfl, L, L1, L2, L3, hb⟩ := hcut
      have p0 := L.1
      have p1 := L1.1
      have p2 := L2.1
      have p3 := L3.1
      go_upto_region 18 with (fail)
      obtain ⟨x0, x1, x2⟩ := axA_cells f i L3
      cases e0
      · go_wp2_with ((go_at_call 36; (with_reducible refine (KO5.out _).mono ?_); rintro e w5 ⟨rfl, hb5⟩; have z5 := hb5.size; (try simp at z5); have L5a := live_below hb5 (b := w.heap.size) (by (repeat (first | with_reducible assumption | ((with_reducible apply live_new) <;> (first | with_reducible rfl | (focus (simp; done)))) | with_reducible apply live_alloc | with_reducible apply live_drew | with_reducible apply live_drewN | ((with_reducible apply live_set_other); (case hb => first | omega | (simp; done))) | with_reducible apply live_set_same | (focus (simp; done))))); obtain ⟨p5a, e5a, f5a⟩ := id L5a; have L5b := live_below hb5 (b := w.heap.size + 1) (by (repeat (first | with_reducible assumption | ((with_reducible apply live_new) <;> (first | with_reducible rfl | (focus (simp; done)))) | with_reducible apply live_alloc | with_reducible apply live_drew | with_reducible apply live_drewN | ((with_reducible apply live_set_other); (case hb => first | omega | (simp; done))) | with_reducible apply live_set_same | (focus (simp; done))))); obtain ⟨p5b, e5b, f5b⟩ := id L5b; have L5c := live_below hb5 (b := w.heap.size + 2) (by (repeat (first | with_reducible assumption | ((with_reducible apply live_new) <;> (first | with_reducible rfl | (focus (simp; done)))) | with_reducible apply live_alloc | with_reducible apply live_drew | with_reducible apply live_drewN | ((with_reducible apply live_set_other); (case hb => first | omega | (simp; done))) | with_reducible apply live_set_same | (focus (simp; done))))); obtain ⟨p5c, e5c, f5c⟩ := id L5c; have L5d := live_below hb5 (b := X) (by (repeat (first | with_reducible assumption | ((with_reducible apply live_new) <;> (first | with_reducible rfl | (focus (simp; done)))) | with_reducible apply live_alloc | with_reducible apply live_drew | with_reducible apply live_drewN | ((with_reducible apply live_set_other); (case hb => first | omega | (simp; done))) | with_reducible apply live_set_same | (focus (simp; done))))); obtain ⟨p5d, e5d, f5d⟩ := id L5d; clear e5a e5b e5c e5d; obtain ⟨x50, x51, x52⟩ := axA_cells f i L5d; have c5a := CB1.out _ _ L5b))
        go_roundw
        case rel => exact ⟨i + 1, by go_num, by omega, by rw [HM.out], by rw [HE.out]; rfl, by (repeat (first | with_reducible assumption | ((with_reducible apply live_new) <;> (first | with_reducible rfl | (focus (simp; done)))) | with_reducible apply live_alloc | with_reducible apply live_drew | with_reducible apply live_drewN | ((with_reducible apply live_set_other); (case hb => first | omega | (simp; done))) | with_reducible apply live_set_same | (focus (simp; done)))), by (repeat (first | with_reducible assumption | ((with_reducible apply live_new) <;> (first | with_reducible rfl | (focus (simp; done)))) | with_reducible apply live_alloc | with_reducible apply live_drew | with_reducible apply live_drewN | ((with_reducible apply live_set_other); (case hb => first | omega | (simp; done))) | with_reducible apply live_set_same | (focus (simp; done)))), by (repeat (first | with_reducible assumption | ((with_reducible apply live_new) <;> (first | with_reducible rfl | (focus (simp; done)))) | with_reducible apply live_alloc | with_reducible apply live_drew | with_reducible apply live_drewN | ((with_reducible apply live_set_other); (case hb => first | omega | (simp; done))) | with_reducible apply live_set_same | (focus (simp; done)))), by (repeat' (first | with_reducible exact Below.refl _ _ | with_reducible refine Below.drew ?_ | with_reducible refine below_drewN ?_ _ | with_reducible refine Below.alloc ?_ ?_ _ | with_reducible refine Below.setCell ?_ ?_ _ | with_reducible refine Below.trans ?_ (Below.mono (by with_reducible assumption) ?_) | (simp; done) | (simp; omega) | omega))⟩
        case measure => first | (simp [intOf]; done) | (simp [intOf]; omega)
      · go_wp2_with fail
        go_roundw
        case rel => exact ⟨i + 1, by go_num, by omega, by rw [HM.out], by rw [HE.out]; rfl, by (repeat (first | with_reducible assumption | ((with_reducible apply live_new) <;> (first | with_reducible rfl | (focus (simp; done)))) | with_reducible apply live_alloc | with_reducible apply live_drew | with_reducible apply live_drewN | ((with_reducible apply live_set_other); (case hb => first | omega | (simp; done))) | with_reducible apply live_set_same | (focus (simp; done)))), by (repeat (first | with_reducible assumption | ((with_reducible apply live_new) <;> (first | with_reducible rfl | (focus (simp; done)))) | with_reducible apply live_alloc | with_reducible apply live_drew | with_reducible apply live_drewN | ((with_reducible apply live_set_other); (case hb => first | omega | (simp; done))) | with_reducible apply live_set_same | (focus (simp; done)))), by (repeat (first | with_reducible assumption | ((with_reducible apply live_new) <;> (first | with_reducible rfl | (focus (simp; done)))) | with_reducible apply live_alloc | with_reducible apply live_drew | with_reducible apply live_drewN | ((with_reducible apply live_set_other); (case hb => first | omega | (simp; done))) | with_reducible apply live_set_same | (focus (simp; done)))), by (repeat' (first | with_reducible exact Below.refl _ _ | with_reducible refine Below.drew ?_ | with_reducible refine below_drewN ?_ _ | with_reducible refine Below.alloc ?_ ?_ _ | with_reducible refine Below.setCell ?_ ?_ _ | with_reducible refine Below.trans ?_ (Below.mono (by with_reducible assumption) ?_) | (simp; done) | (simp; omega) | omega))⟩
        case measure => first | (simp [intOf]; done) | (simp [intOf]; omega)
    · obtain rfl : i = 4 := by omega
      have hmo := HMO.out
      have hed := HED.out
      have hv1 := HV1.out.1
      have hq1 := HQ1.out.1
      have hu1 := HU1.out.1
      rw [hmo, hed]
      go_wp2_with (go_at_call 29; refine (law43_awake _).mono ?_; rintro e w9 ⟨rfl, hb9⟩; have z9 := hb9.size; (try simp at z9))
      go_ret
      refine ⟨rfl, ?_⟩
      (repeat' (first | with_reducible exact Below.refl _ _ | with_reducible refine Below.drew ?_ | with_reducible refine below_drewN ?_ _ | with_reducible refine Below.alloc ?_ ?_ _ | with_reducible refine Below.setCell ?_ ?_ _ | with_reducible refine Below.trans ?_ (Below.mono (by with_reducible assumption) ?_) | (simp; done) | (simp; omega) | omega))

theorem walk (f : Nat → Int) (x : Bool) (t a b c d a' b' c' d' len feed : Int) (w : World) (hlen : -9223372036854775808 ≤ len ∧ len ≤ 9223372036854775807) (hfeed : -9223372036854775808 ≤ feed ∧ feed ≤ 9223372036854775807) : Calls Try.prog 11 #[.agg (mach f x t), .agg #[.int .i64 a, .int .i64 b, .int .i64 c, .int .i64 d], .agg #[.int .i64 a', .int .i64 b', .int .i64 c', .int .i64 d'], .int .i64 len, .int .i64 feed] w fun e w' => e = .returned (.bool true) ∧ Below w.heap.size w w' := by
  cases h : (ddaValid a b c d && (ddaValid a' b' c' d' && kinValid f t))
  · exact hold_f f x t a b c d a' b' c' d' len feed w hlen hfeed h
  · rw [Bool.and_eq_true, Bool.and_eq_true] at h
    exact hold_t f x t a b c d a' b' c' d' len feed w hlen hfeed h.2.2 h.1 h.2.1

set_option maxRecDepth 100000 in
theorem lifted (os : Os) (started : os.Started) (H : Type) (enc : TypeId × Value → H) :
    ReturnsInHanded {} Try.checked os 11 .any (Rows.limitsHoldSpec.pre6 enc Try.prog Try.f11 Rows.limitsHoldRow.domain false) (Rows.limitsHoldSpec.post enc Try.prog Try.f11 false true false false) := by
  refine returnsInHanded_of_change (C := Try.checked) own started (by kernel_rfl) Try.func11
    (ChangeSpec.witness6 (enc := enc) (C := Try.checked) false ⟨#[], #[.agg #[.int .i64 0, .int .i64 0, .int .i64 0, .int .i64 0, .int .i64 0, .int .i64 0, .int .i64 0, .int .i64 0, .int .i64 0, .int .i64 0, .int .i64 0, .int .i64 0, .int .i64 0, .int .i64 0, .int .i64 0, .int .i64 0, .int .i64 0, .int .i64 0, .int .i64 0, .int .i64 0, .int .i64 0, .int .i64 0, .int .i64 0, .int .i64 0, .int .i64 0, .int .i64 0, .int .i64 0, .int .i64 0, .bool false, .int .i64 0], .agg #[.int .i64 0, .int .i64 0, .int .i64 0, .int .i64 0], .agg #[.int .i64 0, .int .i64 0, .int .i64 0, .int .i64 0], .int .i64 0, .int .i64 0], []⟩ 8 (by kernel_rfl) (by kernel_rfl) (by kernel_rfl) (by kernel_rfl)) ?_
  intro W base args ds gs before hval0 hW _ _
  have hval : ∀ (j : Nat) t v, Try.f11.params[j]? = some t → args[j]? = some v → Value.okWide Try.prog W .any base t v := hval0
  have hW' := hW
  obtain ⟨p, q, hA0, hV, rfl, _, _⟩ := hW
  have hA : DataW.TrodAll enc Try.prog W 0 (fun _ => true) true Try.f11.params.toList args.toList ds p := hA0
  rw [Try.params11] at hA hval
  obtain ⟨v0, v1, v2, v3, v4, d0, d1, d2, d3, d4, p0, p1, p2, p3, p4, rfl, rfl, rfl, h0, h1, h2, h3, h4⟩ := trodAll_five hA
  clear hA hA0 hval0
  obtain ⟨f0, x0, t0, bf0, bt0, rfl⟩ := mach_open (hval 0 26 v0 rfl rfl)
  obtain ⟨f1, bf1, rfl⟩ := flat_ints (n := 4) (u := 3) (by kernel_rfl) (by kernel_rfl) (by kernel_rfl) Try.underlying3 (hval 1 36 v1 rfl rfl)
  obtain ⟨f2, bf2, rfl⟩ := flat_ints (n := 4) (u := 3) (by kernel_rfl) (by kernel_rfl) (by kernel_rfl) Try.underlying3 (hval 2 36 v2 rfl rfl)
  obtain ⟨a3, rfl, ba3⟩ := int_open Try.underlying3 (hval 3 3 v3 rfl rfl)
  obtain ⟨a4, rfl, ba4⟩ := int_open Try.underlying3 (hval 4 3 v4 rfl rfl)
  exact (walk f0 x0 t0 (f1 0) (f1 1) (f1 2) (f1 3) (f2 0) (f2 1) (f2 2) (f2 3) a3 a4 W ba3 ba4).mono fun e W' ⟨he, hb⟩ => ⟨_, he, law_post laidOut (by kernel_rfl) rfl (fun _ => rfl) rfl Try.underlying4 hW' hb⟩

theorem holds : Rows.LimitsHoldSaid :=
  OpenClaim.holds_of_wide 11 Try.f11 rfl rfl rfl rfl rfl rfl rfl ⟨rfl, rfl, rfl, rfl, rfl⟩ rfl rfl rfl rfl rfl (by kernel_rfl) Try.func11 (by kernel_rfl)
    (of_decide_eq_true (by kernel_rfl)) (by unfold Func.isWrapper; rw [if_neg (of_decide_eq_false (by kernel_rfl))]; exact ⟨rfl, rfl⟩)
    (fun os started H enc _ => lifted os started H enc)

#print axioms holds
end Go.Proofs.Ythodfmmmddfkmaa.limitsHold
