/- RampSlower: with a smaller Cruise no square is greater and no interval is shorter; an interval lies from 1 to ticks -/
import Derived.Deep.RegionWith
import Derived.Deep.RegionHeld3
import Derived.Deep.DeepCutAuto
import Derived.Handy
import Derived.IntWalk
import Derived.Test.YtjcnheakjgmidaaBase
import Derived.Test.YtjcnheakjgmidaaKit4
import Derived.Test.YtjcnheakjgmidaaL45Awake
import Derived.Test.YtjcnheakjgmidaaRmpSteps
import Derived.Test.YtjcnheakjgmidaaRmpPlain
namespace Go.Proofs.Ytjcnheakjgmidaa.rampSlower
open Go.ChangeShapes Go.WideShapes Go.ChangeAt Go.RowKit
set_option linter.unusedVariables false

attribute [local go_sem] cell_past1 cell_past2 cell_past3 cell_past4 froz_past1 froz_past2 froz_past3

theorem run_max4 {P : Program} (ts : Array TypeId) (t : TypeId) (x y z u : Int) (w : World) : (Builtin.max_ ts t #[.int .i64 x, .int .i64 y, .int .i64 z, .int .i64 u]).run P w = .ok (.int .i64 (max (max (max x y) z) u)) w := by
  simp [Builtin.max_, Builtin.max2]
  repeat' split
  all_goals omega

set_option maxRecDepth 100000 in
set_option maxHeartbeats 4000000 in
theorem few (a b c d ac en cr ex i t : Int) (w : World) (h : blkN a b c d ac en cr ex < 1 ∨ i < 1 ∨ blkN a b c d ac en cr ex < i ∨ t < 1 ∨ 1048576 < t) :
    Calls Try.prog 14 #[.agg #[.int .i64 a, .int .i64 b, .int .i64 c, .int .i64 d, .int .i64 ac, .int .i64 en, .int .i64 cr, .int .i64 ex], .int .i64 i, .int .i64 t] w fun e w' => e = .returned (.bool true) ∧ Below w.heap.size w w' := by
  generalize hn : blkN a b c d ac en cr ex = n at *
  have HN := Lib.hid hn
  clear hn
  rcases (by omega : n < 1 ∨ (1 ≤ n ∧ i < 1) ∨ (1 ≤ n ∧ 1 ≤ i ∧ n < i) ∨ (1 ≤ n ∧ 1 ≤ i ∧ i ≤ n ∧ t < 1) ∨ (1 ≤ n ∧ 1 ≤ i ∧ i ≤ n ∧ 1 ≤ t ∧ 1048576 < t)) with h | ⟨h1, h⟩ | ⟨h1, h2, h⟩ | ⟨h1, h2, h3, h⟩ | ⟨h1, h2, h3, h4, h⟩
  all_goals
    go_enter Try.func14, Try.ntmps14
    go_wp2_with (first | (go_at_call 30; refine (law45_steps _ _ _ _ _ _ _ _ _).mono ?_; rw [HN.out]; rintro e w1 ⟨rfl, hb1⟩; have z1 := hb1.size; (try simp at z1); have L1a := live_below hb1 (b := w.heap.size) (by (repeat (first | with_reducible assumption | ((with_reducible apply live_new) <;> (first | with_reducible rfl | (focus (simp; done)))) | with_reducible apply live_alloc | with_reducible apply live_drew | with_reducible apply live_drewN | ((with_reducible apply live_set_other); (case hb => first | omega | (simp; done))) | with_reducible apply live_set_same | (focus (simp; done))))); obtain ⟨p1a, e1a, f1a⟩ := id L1a) | (go_at_call 27; refine (law45_awake _).mono ?_; rintro e w9 ⟨rfl, hb9⟩; have z9 := hb9.size; (try simp at z9); have L9a := live_below hb9 (b := w.heap.size) (by (repeat (first | with_reducible assumption | ((with_reducible apply live_new) <;> (first | with_reducible rfl | (focus (simp; done)))) | with_reducible apply live_alloc | with_reducible apply live_drew | with_reducible apply live_drewN | ((with_reducible apply live_set_other); (case hb => first | omega | (simp; done))) | with_reducible apply live_set_same | (focus (simp; done))))); obtain ⟨p9a, e9a, f9a⟩ := id L9a))
  all_goals go_ret
  all_goals refine ⟨rfl, ?_⟩
  all_goals (repeat' (first | with_reducible exact Below.refl _ _ | with_reducible refine Below.drew ?_ | with_reducible refine below_drewN ?_ _ | with_reducible refine Below.alloc ?_ ?_ _ | with_reducible refine Below.setCell ?_ ?_ _ | with_reducible refine Below.trans ?_ (Below.mono (by with_reducible assumption) ?_) | (simp; done) | (simp; omega) | omega))

def Mid (X Y : Int) (B : Nat) (c : Array Value) (C : Nat) (c' : Array Value) (w : World) (s9 s10 : Value) (wx : World) : Prop :=
  s9 = .int .i64 X ∧ s10 = .int .i64 Y ∧ Live wx B c ∧ Live wx C c' ∧ Below B w wx

set_option maxRecDepth 100000 in
set_option maxHeartbeats 8000000 in
theorem many (a b c d ac en cr ex i t : Int) (w : World) (h0 : 1 ≤ i) (h1 : i ≤ blkN a b c d ac en cr ex) (t0 : 1 ≤ t) (t1 : t ≤ 1048576) :
    Calls Try.prog 14 #[.agg #[.int .i64 a, .int .i64 b, .int .i64 c, .int .i64 d, .int .i64 ac, .int .i64 en, .int .i64 cr, .int .i64 ex], .int .i64 i, .int .i64 t] w fun e w' => e = .returned (.bool true) ∧ Below w.heap.size w w' := by
  have hv : blkValid a b c d ac en cr ex = true := by
    cases hv : blkValid a b c d ac en cr ex
    · have : blkN a b c d ac en cr ex = 0 := by unfold blkN; simp [hv]
      omega
    · rfl
  have hn := blkN_in a b c d ac en cr ex
  have hN : blkN a b c d ac en cr ex = ddaDom a b c d := by unfold blkN; rw [if_pos hv]
  have hb := hv
  simp [blkValid, blkSound] at hb
  obtain ⟨⟨hdv, a0, a1, c0, c1⟩, e0', e1', x0, x1⟩ := hb
  have hv2 : blkValid a b c d ac en (max (max (max en ex) (cr / 2)) 1) ex = true := by
    simp [blkValid, blkSound, hdv]; omega
  have hN2 : blkN a b c d ac en (max (max (max en ex) (cr / 2)) 1) ex = ddaDom a b c d := by unfold blkN; rw [if_pos hv2]
  have hle : max (max (max en ex) (cr / 2)) 1 ≤ cr := by omega
  have hc2 : 1 ≤ max (max (max en ex) (cr / 2)) 1 := by omega
  rw [← hN] at hN2
  generalize hR : max (max (max en ex) (cr / 2)) 1 = cs at *
  have HR := Lib.hid hR
  generalize hD : blkN a b c d ac en cr ex = n at *
  have sa := sqI_in n ac en cr ex i a0 a1 c0 c1 e0' x0 (by omega) h0 h1
  have sb := sqI_in n ac en cs ex i a0 a1 hc2 (by omega) e0' x0 (by omega) h0 h1
  have sc := sqI_slow n ac en cr cs ex i hle
  have hX : sqV n ac en cr ex i = sqI n ac en cr ex i := by unfold sqV; rw [if_neg (by omega)]
  have hY : sqV n ac en cs ex i = sqI n ac en cs ex i := by unfold sqV; rw [if_neg (by omega)]
  generalize sqI n ac en cr ex i = X at *
  generalize sqI n ac en cs ex i = Y at *
  have ia := ivl_in X t (by omega) (by omega) t0
  have ib := ivl_in Y t (by omega) (by omega) t0
  have ic := ivl_mono Y X t (by omega) sc (by omega) t0
  have hI : ivV X t = ivl X t := by unfold ivV; rw [if_neg (by omega)]
  have hJ : ivV Y t = ivl Y t := by unfold ivV; rw [if_neg (by omega)]
  generalize ivl X t = I at *
  generalize ivl Y t = J at *
  have HX : Hid (sqV (blkN a b c d ac en cr ex) ac en cr ex i = X) := by show _ = _; rw [hD, hX]
  have HY : Hid (sqV (blkN a b c d ac en cs ex) ac en cs ex i = Y) := by show _ = _; rw [hN2, hY]
  have HI : Hid (ivV (sqV (blkN a b c d ac en cr ex) ac en cr ex i) t = I) := by show _ = _; rw [HX.out, hI]
  have HJ : Hid (ivV (sqV (blkN a b c d ac en cs ex) ac en cs ex i) t = J) := by show _ = _; rw [HY.out, hJ]
  have HN := Lib.hid hD
  have hmx : ∀ (ts : Array TypeId) (t : TypeId) (w : World), (Builtin.max_ ts t #[.int .i64 en, .int .i64 ex, .int .i64 (cr / 2), .int .i64 1]).run Try.prog w = .ok (.int .i64 cs) w := fun ts t w => by rw [run_max4, HR.out]
  obtain ⟨ia0, ia1⟩ := ia
  obtain ⟨ib0, ib1⟩ := ib
  clear hD hX hY hI hJ hN hN2 hv hv2 hdv hR
  go_enter Try.func14, Try.ntmps14
  go_wp2_with (go_at_call 30; refine (law45_steps _ _ _ _ _ _ _ _ _).mono ?_; rw [HN.out]; rintro e w1 ⟨rfl, hb1⟩; have z1 := hb1.size; (try simp at z1); have L1a := live_below hb1 (b := w.heap.size) (by (repeat (first | with_reducible assumption | ((with_reducible apply live_new) <;> (first | with_reducible rfl | (focus (simp; done)))) | with_reducible apply live_alloc | with_reducible apply live_drew | with_reducible apply live_drewN | ((with_reducible apply live_set_other); (case hb => first | omega | (simp; done))) | with_reducible apply live_set_same | (focus (simp; done))))); obtain ⟨p1a, e1a, f1a⟩ := id L1a)
  have hle1 : J ≤ t := by omega
  go_cut [9, 10] (fun s9 s10 wx => Mid I J w.heap.size #[.int .i64 a, .int .i64 b, .int .i64 c, .int .i64 d, .int .i64 ac, .int .i64 en, .int .i64 cr, .int .i64 ex] w1.heap.size #[.int .i64 a, .int .i64 b, .int .i64 c, .int .i64 d, .int .i64 ac, .int .i64 en, .int .i64 cs, .int .i64 ex] w s9 s10 wx)
  case first =>
    go_region_held3 (fun w' => (w'.cell? ⟨w.heap.size, 0, none⟩ = some (.int .i64 a) ∧ w'.cell? ⟨w.heap.size, 1, none⟩ = some (.int .i64 b) ∧ w'.cell? ⟨w.heap.size, 2, none⟩ = some (.int .i64 c) ∧ w'.cell? ⟨w.heap.size, 3, none⟩ = some (.int .i64 d) ∧ w'.cell? ⟨w.heap.size, 4, none⟩ = some (.int .i64 ac) ∧ w'.cell? ⟨w.heap.size, 5, none⟩ = some (.int .i64 en) ∧ w'.cell? ⟨w.heap.size, 6, none⟩ = some (.int .i64 cr) ∧ w'.cell? ⟨w.heap.size, 7, none⟩ = some (.int .i64 ex)) ∧ (w'.cell? ⟨w1.heap.size, 0, none⟩ = some (.int .i64 a) ∧ w'.cell? ⟨w1.heap.size, 1, none⟩ = some (.int .i64 b) ∧ w'.cell? ⟨w1.heap.size, 2, none⟩ = some (.int .i64 c) ∧ w'.cell? ⟨w1.heap.size, 3, none⟩ = some (.int .i64 d) ∧ w'.cell? ⟨w1.heap.size, 4, none⟩ = some (.int .i64 ac) ∧ w'.cell? ⟨w1.heap.size, 5, none⟩ = some (.int .i64 en) ∧ w'.cell? ⟨w1.heap.size, 6, none⟩ = some (.int .i64 cs) ∧ w'.cell? ⟨w1.heap.size, 7, none⟩ = some (.int .i64 ex))) (first | (focus ((with_reducible refine ⟨?_, ?_⟩) <;> ((with_reducible apply live_eight); (repeat (first | with_reducible assumption | ((with_reducible apply live_new) <;> (first | with_reducible rfl | (focus (simp; done)))) | with_reducible apply live_alloc | with_reducible apply live_drew | with_reducible apply live_drewN | ((with_reducible apply live_set_other); (case hb => first | omega | (simp; done))) | with_reducible apply live_set_same | (focus (simp; done))))); done)) | go_keep)
      ((go_at_call 28; refine (ramp_interval _ _ _ _ _ _ _ _ _ _ _).mono ?_; (first | rw [HI.out] | rw [HJ.out]); rintro e w2 ⟨rfl, hb2⟩; have z2 := hb2.size; (try simp at z2); have L2a := live_below hb2 (b := w.heap.size) (by (repeat (first | with_reducible assumption | ((with_reducible apply live_new) <;> (first | with_reducible rfl | (focus (simp; done)))) | with_reducible apply live_alloc | with_reducible apply live_drew | with_reducible apply live_drewN | ((with_reducible apply live_set_other); (case hb => first | omega | (simp; done))) | with_reducible apply live_set_same | (focus (simp; done))))); obtain ⟨p2a, e2a, f2a⟩ := id L2a; have L2b := live_below hb2 (b := w1.heap.size) (by (repeat (first | with_reducible assumption | ((with_reducible apply live_new) <;> (first | with_reducible rfl | (focus (simp; done)))) | with_reducible apply live_alloc | with_reducible apply live_drew | with_reducible apply live_drewN | ((with_reducible apply live_set_other); (case hb => first | omega | (simp; done))) | with_reducible apply live_set_same | (focus (simp; done))))); obtain ⟨p2b, e2b, f2b⟩ := id L2b))
    all_goals (try go_wp2_with fail)
    all_goals go_meet
    all_goals refine ⟨rfl, rfl, ?_, ?_, ?_⟩
    all_goals first | (focus (((apply live_conv); (· (repeat (first | with_reducible assumption | ((with_reducible apply live_new) <;> (first | with_reducible rfl | (focus (simp; done)))) | with_reducible apply live_alloc | with_reducible apply live_drew | with_reducible apply live_drewN | ((with_reducible apply live_set_other); (case hb => first | omega | (simp; done))) | with_reducible apply live_set_same | (focus (simp; done))))); (· first | rfl | (simp; done))); done)) | (repeat' (first | with_reducible exact Below.refl _ _ | with_reducible refine Below.drew ?_ | with_reducible refine below_drewN ?_ _ | with_reducible refine Below.alloc ?_ ?_ _ | with_reducible refine Below.setCell ?_ ?_ _ | with_reducible refine Below.trans ?_ (Below.mono (by with_reducible assumption) ?_) | (simp; done) | (simp; omega) | omega))
  case rest =>
    obtain ⟨rfl, rfl, L5, M5, hb5⟩ := hcut
    obtain ⟨p5, e5, f5⟩ := id L5
    obtain ⟨q5, g5, h5⟩ := id M5
    go_wp2_with fail
    go_region_held3 (fun w' => (w'.cell? ⟨w.heap.size, 0, none⟩ = some (.int .i64 a) ∧ w'.cell? ⟨w.heap.size, 1, none⟩ = some (.int .i64 b) ∧ w'.cell? ⟨w.heap.size, 2, none⟩ = some (.int .i64 c) ∧ w'.cell? ⟨w.heap.size, 3, none⟩ = some (.int .i64 d) ∧ w'.cell? ⟨w.heap.size, 4, none⟩ = some (.int .i64 ac) ∧ w'.cell? ⟨w.heap.size, 5, none⟩ = some (.int .i64 en) ∧ w'.cell? ⟨w.heap.size, 6, none⟩ = some (.int .i64 cr) ∧ w'.cell? ⟨w.heap.size, 7, none⟩ = some (.int .i64 ex)) ∧ (w'.cell? ⟨w1.heap.size, 0, none⟩ = some (.int .i64 a) ∧ w'.cell? ⟨w1.heap.size, 1, none⟩ = some (.int .i64 b) ∧ w'.cell? ⟨w1.heap.size, 2, none⟩ = some (.int .i64 c) ∧ w'.cell? ⟨w1.heap.size, 3, none⟩ = some (.int .i64 d) ∧ w'.cell? ⟨w1.heap.size, 4, none⟩ = some (.int .i64 ac) ∧ w'.cell? ⟨w1.heap.size, 5, none⟩ = some (.int .i64 en) ∧ w'.cell? ⟨w1.heap.size, 6, none⟩ = some (.int .i64 cs) ∧ w'.cell? ⟨w1.heap.size, 7, none⟩ = some (.int .i64 ex))) (first | (focus ((with_reducible refine ⟨?_, ?_⟩) <;> ((with_reducible apply live_eight); (repeat (first | with_reducible assumption | ((with_reducible apply live_new) <;> (first | with_reducible rfl | (focus (simp; done)))) | with_reducible apply live_alloc | with_reducible apply live_drew | with_reducible apply live_drewN | ((with_reducible apply live_set_other); (case hb => first | omega | (simp; done))) | with_reducible apply live_set_same | (focus (simp; done))))); done)) | go_keep)
      (first | (go_at_call 25; refine (ramp_square _ _ _ _ _ _ _ _ _ _).mono ?_; (first | rw [HX.out] | rw [HY.out]); rintro e w3 ⟨rfl, hb3⟩; have z3 := hb3.size; (try simp at z3); have L3a := live_below hb3 (b := w.heap.size) (by (repeat (first | with_reducible assumption | ((with_reducible apply live_new) <;> (first | with_reducible rfl | (focus (simp; done)))) | with_reducible apply live_alloc | with_reducible apply live_drew | with_reducible apply live_drewN | ((with_reducible apply live_set_other); (case hb => first | omega | (simp; done))) | with_reducible apply live_set_same | (focus (simp; done))))); obtain ⟨p3a, e3a, f3a⟩ := id L3a; have L3b := live_below hb3 (b := w1.heap.size) (by (repeat (first | with_reducible assumption | ((with_reducible apply live_new) <;> (first | with_reducible rfl | (focus (simp; done)))) | with_reducible apply live_alloc | with_reducible apply live_drew | with_reducible apply live_drewN | ((with_reducible apply live_set_other); (case hb => first | omega | (simp; done))) | with_reducible apply live_set_same | (focus (simp; done))))); obtain ⟨p3b, e3b, f3b⟩ := id L3b) | (go_at_call 27; refine (law45_awake _).mono ?_; rintro e w9 ⟨rfl, hb9⟩; have z9 := hb9.size; (try simp at z9); have L9a := live_below hb9 (b := w.heap.size) (by (repeat (first | with_reducible assumption | ((with_reducible apply live_new) <;> (first | with_reducible rfl | (focus (simp; done)))) | with_reducible apply live_alloc | with_reducible apply live_drew | with_reducible apply live_drewN | ((with_reducible apply live_set_other); (case hb => first | omega | (simp; done))) | with_reducible apply live_set_same | (focus (simp; done))))); obtain ⟨p9a, e9a, f9a⟩ := id L9a; have L9b := live_below hb9 (b := w1.heap.size) (by (repeat (first | with_reducible assumption | ((with_reducible apply live_new) <;> (first | with_reducible rfl | (focus (simp; done)))) | with_reducible apply live_alloc | with_reducible apply live_drew | with_reducible apply live_drewN | ((with_reducible apply live_set_other); (case hb => first | omega | (simp; done))) | with_reducible apply live_set_same | (focus (simp; done))))); obtain ⟨p9b, e9b, f9b⟩ := id L9b))
    all_goals go_wp2_with fail
    all_goals go_ret
    all_goals refine ⟨rfl, ?_⟩
    all_goals refine Below.trans hb5 ?_
    all_goals (repeat' (first | with_reducible exact Below.refl _ _ | with_reducible refine Below.drew ?_ | with_reducible refine below_drewN ?_ _ | with_reducible refine Below.alloc ?_ ?_ _ | with_reducible refine Below.setCell ?_ ?_ _ | with_reducible refine Below.trans ?_ (Below.mono (by with_reducible assumption) ?_) | (simp; done) | (simp; omega) | omega))

theorem walk (a b c d ac en cr ex i t : Int) (w : World) :
    Calls Try.prog 14 #[.agg #[.int .i64 a, .int .i64 b, .int .i64 c, .int .i64 d, .int .i64 ac, .int .i64 en, .int .i64 cr, .int .i64 ex], .int .i64 i, .int .i64 t] w fun e w' => e = .returned (.bool true) ∧ Below w.heap.size w w' := by
  by_cases h : blkN a b c d ac en cr ex < 1 ∨ i < 1 ∨ blkN a b c d ac en cr ex < i ∨ t < 1 ∨ 1048576 < t
  · exact few a b c d ac en cr ex i t w h
  · exact many a b c d ac en cr ex i t w (by omega) (by omega) (by omega) (by omega)

set_option maxRecDepth 100000 in
theorem lifted (os : Os) (started : os.Started) (H : Type) (enc : TypeId × Value → H) :
    ReturnsInHanded {} Try.checked os 14 .any (Rows.rampSlowerSpec.pre6 enc Try.prog Try.f14 Rows.rampSlowerRow.domain false) (Rows.rampSlowerSpec.post enc Try.prog Try.f14 false true false false) := by
  refine returnsInHanded_of_change (C := Try.checked) own started (by kernel_rfl) Try.func14
    (ChangeSpec.witness6 (enc := enc) (C := Try.checked) false ⟨#[], #[.agg #[.int .i64 0, .int .i64 0, .int .i64 0, .int .i64 0, .int .i64 0, .int .i64 0, .int .i64 0, .int .i64 0], .int .i64 0, .int .i64 0], []⟩ 8 (by kernel_rfl) (by kernel_rfl) (by kernel_rfl) (by kernel_rfl)) ?_
  intro W base args ds gs before hval0 hW _ _
  have hval : ∀ (j : Nat) t v, Try.f14.params[j]? = some t → args[j]? = some v → Value.okWide Try.prog W .any base t v := hval0
  have hW' := hW
  obtain ⟨p, q, hA0, hV, rfl, _, _⟩ := hW
  have hA : DataW.TrodAll enc Try.prog W 0 (fun _ => true) true Try.f14.params.toList args.toList ds p := hA0
  rw [Try.params14] at hA hval
  obtain ⟨v0, v1, v2, d0, d1, d2, p0, p1, p2, rfl, rfl, rfl, h0, h1, h2⟩ := trodAll_three hA
  clear hA hA0 hval0
  obtain ⟨f0, bf0, rfl⟩ := flat_ints (n := 8) (u := 3) (by kernel_rfl) (by kernel_rfl) (by kernel_rfl) Try.underlying3 (hval 0 30 v0 rfl rfl)
  obtain ⟨a1, rfl, ba1⟩ := int_open Try.underlying3 (hval 1 3 v1 rfl rfl)
  obtain ⟨a2, rfl, ba2⟩ := int_open Try.underlying3 (hval 2 3 v2 rfl rfl)
  exact (walk (f0 0) (f0 1) (f0 2) (f0 3) (f0 4) (f0 5) (f0 6) (f0 7) a1 a2 W).mono fun e W' ⟨he, hb⟩ => ⟨_, he, law_post laidOut (by kernel_rfl) rfl (fun _ => rfl) rfl Try.underlying4 hW' hb⟩

theorem holds : Rows.RampSlowerSaid :=
  OpenClaim.holds_of_wide 14 Try.f14 rfl rfl rfl rfl rfl rfl rfl ⟨rfl, rfl, rfl, rfl, rfl⟩ rfl rfl rfl rfl rfl (by kernel_rfl) Try.func14 (by kernel_rfl)
    (of_decide_eq_true (by kernel_rfl)) (by unfold Func.isWrapper; rw [if_neg (of_decide_eq_false (by kernel_rfl))]; exact ⟨rfl, rfl⟩)
    (fun os started H enc _ => lifted os started H enc)

#print axioms holds
end Go.Proofs.Ytjcnheakjgmidaa.rampSlower
