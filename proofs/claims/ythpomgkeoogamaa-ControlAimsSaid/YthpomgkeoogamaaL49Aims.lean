/- ControlAims: Aim sets the target and clears the sum, and a controller without a target never heats, for all controllers and targets and at most 50 readings -/
import Derived.Deep.RegionWith
import Derived.Deep.LoopGhost
import Derived.Deep.DeepCutAuto
import Derived.RegionTactic
import Derived.ChangeAlike
import Derived.Test.YthpomgkeoogamaaBase
import Derived.Test.YthpomgkeoogamaaKit2
import Derived.Test.YthpomgkeoogamaaL49Awake
import Derived.Test.YthpomgkeoogamaaCtlAim
namespace Go.Proofs.Ythpomgkeoogamaa.controlAims
open Go.ChangeShapes Go.WideShapes Go.ChangeAt Go.RowKit

set_option linter.unusedVariables false

attribute [local go_sem] cell_past1 cell_past2 cell_past3 cell_past4 froz_past1 froz_past2 froz_past3

theorem zero_run (kp ki sc su li r : Int) : ctlDuty2 0 kp ki sc 0 li r = 0 ∧ ctlSum2 0 kp ki sc 0 li r = 0 := by
  unfold ctlDuty2 ctlSum2
  simp

def Rel (kp ki sc li : Int) (x B len : Nat) (w : World) (g : Nat) (i : Value) (wr : World) : Prop :=
  ∃ (k : Nat), i = .int .i64 k ∧ k ≤ len ∧ len - k ≤ g ∧ B ≤ x ∧ Live wr x #[.int .i64 0, .int .i64 kp, .int .i64 ki, .int .i64 sc, .int .i64 0, .int .i64 li] ∧ Below B w wr

set_option maxRecDepth 100000 in
set_option maxHeartbeats 4000000 in
theorem walk_bad (t kp ki sc su li g : Int) (a : Option Addr) (len cap : Nat) (w : World) (hv : ctlValid t kp ki sc su li = false ∨ g < 0 ∨ 400000 < g) :
    Calls Try.prog 14 #[.agg #[.int .i64 t, .int .i64 kp, .int .i64 ki, .int .i64 sc, .int .i64 su, .int .i64 li], .int .i64 g, .slice a len cap] w fun e w' => e = .returned (.bool true) ∧ Below w.heap.size w w' := by
  have HV := Lib.hid hv
  clear hv
  go_enter Try.func14, Try.ntmps14
  go_wp2_with (first | (go_at_call 29; refine (control_aim_bad _ _ _ _ _ _ _ _ HV.out).mono ?_; rintro e w1 ⟨rfl, hb1⟩; have z1 := hb1.size; (try simp at z1); have L1a := live_below hb1 (b := w.heap.size) (by (repeat (first | with_reducible assumption | ((with_reducible apply live_new) <;> (first | with_reducible rfl | (focus (simp; done)))) | with_reducible apply live_alloc | with_reducible apply live_drew | with_reducible apply live_drewN | ((with_reducible apply live_set_other); (case hb => first | omega | (simp; done))) | with_reducible apply live_set_same | (focus (simp; done))))); obtain ⟨p1a, e1a, f1a⟩ := id L1a) | (go_at_call 17; refine (law49_awake _).mono ?_; rintro e w9 ⟨rfl, hb9⟩; have z9 := hb9.size; (try simp at z9)))
  all_goals go_ret
  all_goals refine ⟨rfl, ?_⟩
  all_goals (repeat' (first | with_reducible exact Below.refl _ _ | with_reducible refine Below.drew ?_ | with_reducible refine below_drewN ?_ _ | with_reducible refine Below.alloc ?_ ?_ _ | with_reducible refine Below.setCell ?_ ?_ _ | with_reducible refine Below.trans ?_ (Below.mono (by with_reducible assumption) ?_) | (simp; done) | (simp; omega) | omega))

set_option maxRecDepth 100000 in
set_option maxHeartbeats 4000000 in
theorem walk_ok (t kp ki sc su li g : Int) (a : Option Addr) (len cap : Nat) (w : World) (hl : len ≤ 9223372036854775807) (ha : IntsB w a len) (hv : ctlValid t kp ki sc su li = true) (h0 : 0 ≤ g) (h1 : g ≤ 400000) :
    Calls Try.prog 14 #[.agg #[.int .i64 t, .int .i64 kp, .int .i64 ki, .int .i64 sc, .int .i64 su, .int .i64 li], .int .i64 g, .slice a len cap] w fun e w' => e = .returned (.bool true) ∧ Below w.heap.size w w' := by
  have hw : ctlValid g kp ki sc 0 li = true := by
    have hc : 0 ≤ t ∧ t ≤ 400000 ∧ 0 ≤ kp ∧ kp ≤ 1048576 ∧ 0 ≤ ki ∧ ki ≤ 1048576 ∧ 1 ≤ sc ∧ sc ≤ 1073741824 ∧ 0 ≤ li ∧ li ≤ 1099511627776 ∧ 0 ≤ su ∧ su ≤ li := by simpa [ctlValid] using hv
    simp [ctlValid]; omega
  have HV := Lib.hid hv
  have HW := Lib.hid hw
  clear hv hw
  go_enter Try.func14, Try.ntmps14
  go_wp2_with fail
  refine (control_aim_ok _ _ _ _ _ _ _ _ HV.out h0 h1).mono ?_; rintro e w1 ⟨rfl, hb1⟩; have z1 := hb1.size; (try simp at z1); have L1a := live_below hb1 (b := w.heap.size) (by (repeat (first | with_reducible assumption | ((with_reducible apply live_new) <;> (first | with_reducible rfl | (focus (simp; done)))) | with_reducible apply live_alloc | with_reducible apply live_drew | with_reducible apply live_drewN | ((with_reducible apply live_set_other); (case hb => first | omega | (simp; done))) | with_reducible apply live_set_same | (focus (simp; done))))); obtain ⟨p1a, e1a, f1a⟩ := id L1a
  go_wp2_with ((go_at_call 18; refine (control_valid _ _ _ _ _ _ _).mono ?_; rw [HW.out]; rintro e wv ⟨rfl, rfl⟩))
  refine (control_aim_ok _ _ _ _ _ _ _ _ HW.out (by omega) (by omega)).mono ?_; rintro e w2 ⟨rfl, hb2⟩; have z2 := hb2.size; (try simp at z2)
  go_wp2_with fail
  go_loopg [11] len (Rel kp ki sc li w2.heap.size w.heap.size len w)
  case atStart =>
    exact ⟨0, rfl, Nat.zero_le _, by omega, by omega, by (repeat (first | with_reducible assumption | ((with_reducible apply live_new) <;> (first | with_reducible rfl | (focus (simp; done)))) | with_reducible apply live_alloc | with_reducible apply live_drew | with_reducible apply live_drewN | ((with_reducible apply live_set_other); (case hb => first | omega | (simp; done))) | with_reducible apply live_set_same | (focus (simp; done)))), by (repeat' (first | with_reducible exact Below.refl _ _ | with_reducible refine Below.drew ?_ | with_reducible refine below_drewN ?_ _ | with_reducible refine Below.alloc ?_ ?_ _ | with_reducible refine Below.setCell ?_ ?_ _ | with_reducible refine Below.trans ?_ (Below.mono (by with_reducible assumption) ?_) | (simp; done) | (simp; omega) | omega))⟩
  case round =>
    obtain ⟨k, rfl, hk, hg, hx, L0a, hb0⟩ := hrel
    have hg' := Lib.hid hg
    clear hg z1 z2 p1a e1a f1a hb1 hb2
    obtain ⟨p0a, e0a, f0a⟩ := id L0a
    by_cases hlt : k < len
    · obtain ⟨b, off, rfl, hbl, hcl⟩ := ha (by omega)
      obtain ⟨z, hz, _, _⟩ := hcl k hlt
      have hz0 : wr.cell? ⟨b, off + k, none⟩ = some (.int .i64 z) := (hb0.cell (p := ⟨b, off + k, none⟩) hbl).trans hz
      clear hz hcl
      by_cases h2 : k < 50
      · go_wp2
        obtain ⟨j1, j2⟩ := zero_run kp ki sc su li z
        have J1 := Lib.hid j1
        have J2 := Lib.hid j2
        clear j1 j2
        go_cut [12] (fun d wx => d = .int .i64 0 ∧ Live wx w2.heap.size #[.int .i64 0, .int .i64 kp, .int .i64 ki, .int .i64 sc, .int .i64 0, .int .i64 li] ∧ Below w.heap.size w wx)
        case first =>
          go_region_with (go_at_call 15; refine (control_step _ _ _ _ _ _ _ _).mono ?_; rw [J1.out, J2.out]; rintro e w3 ⟨rfl, hb3⟩; have z3 := hb3.size; (try simp at z3); have L3a := live_below hb3 (b := w2.heap.size) (by (repeat (first | with_reducible assumption | ((with_reducible apply live_new) <;> (first | with_reducible rfl | (focus (simp; done)))) | with_reducible apply live_alloc | with_reducible apply live_drew | with_reducible apply live_drewN | ((with_reducible apply live_set_other); (case hb => first | omega | (simp; done))) | with_reducible apply live_set_same | (focus (simp; done))))); obtain ⟨p3a, e3a, f3a⟩ := id L3a)
          all_goals (try go_wp2_with fail)
          all_goals go_meet
          all_goals refine ⟨rfl, ?_, ?_⟩
          all_goals first | ((apply live_conv); (· (repeat (first | with_reducible assumption | ((with_reducible apply live_new) <;> (first | with_reducible rfl | (focus (simp; done)))) | with_reducible apply live_alloc | with_reducible apply live_drew | with_reducible apply live_drewN | ((with_reducible apply live_set_other); (case hb => first | omega | (simp; done))) | with_reducible apply live_set_same | (focus (simp; done))))); (· first | rfl | (simp; done))) | (refine Below.trans hb0 ?_; (repeat' (first | with_reducible exact Below.refl _ _ | with_reducible refine Below.drew ?_ | with_reducible refine below_drewN ?_ _ | with_reducible refine Below.alloc ?_ ?_ _ | with_reducible refine Below.setCell ?_ ?_ _ | with_reducible refine Below.trans ?_ (Below.mono (by with_reducible assumption) ?_) | (simp; done) | (simp; omega) | omega)))
        case rest =>
          obtain ⟨rfl, L1a, hb1⟩ := hcut
          obtain ⟨p1a, e1a, f1a⟩ := id L1a
          clear hz0 e0a f0a
          go_wp2
          go_roundg (gk - 1)
          case measure => have := hg'.out; omega
          case rel => exact ⟨k + 1, by go_num, by omega, by have := hg'.out; omega, hx, L1a, hb1⟩
      · go_wp2_with ((go_at_call 17; refine (law49_awake _).mono ?_; rintro e w9 ⟨rfl, hb9⟩; have z9 := hb9.size; (try simp at z9)))
        all_goals go_ret
        all_goals refine ⟨rfl, ?_⟩
        all_goals (repeat' (first | with_reducible exact Below.refl _ _ | with_reducible refine Below.drew ?_ | with_reducible refine below_drewN ?_ _ | with_reducible refine Below.alloc ?_ ?_ _ | with_reducible refine Below.setCell ?_ ?_ _ | with_reducible refine Below.trans ?_ (Below.mono (by with_reducible assumption) ?_) | (simp; done) | (simp; omega) | omega))
    · go_wp2_with ((go_at_call 17; refine (law49_awake _).mono ?_; rintro e w9 ⟨rfl, hb9⟩; have z9 := hb9.size; (try simp at z9)))
      all_goals go_ret
      all_goals refine ⟨rfl, ?_⟩
      all_goals (repeat' (first | with_reducible exact Below.refl _ _ | with_reducible refine Below.drew ?_ | with_reducible refine below_drewN ?_ _ | with_reducible refine Below.alloc ?_ ?_ _ | with_reducible refine Below.setCell ?_ ?_ _ | with_reducible refine Below.trans ?_ (Below.mono (by with_reducible assumption) ?_) | (simp; done) | (simp; omega) | omega))

theorem walk (t kp ki sc su li g : Int) (a : Option Addr) (len cap : Nat) (w : World) (hl : len ≤ 9223372036854775807) (ha : IntsB w a len) :
    Calls Try.prog 14 #[.agg #[.int .i64 t, .int .i64 kp, .int .i64 ki, .int .i64 sc, .int .i64 su, .int .i64 li], .int .i64 g, .slice a len cap] w fun e w' => e = .returned (.bool true) ∧ Below w.heap.size w w' := by
  by_cases h : ctlValid t kp ki sc su li = true ∧ 0 ≤ g ∧ g ≤ 400000
  · exact walk_ok t kp ki sc su li g a len cap w hl ha h.1 h.2.1 h.2.2
  · refine walk_bad t kp ki sc su li g a len cap w ?_
    cases hv : ctlValid t kp ki sc su li
    · exact .inl rfl
    · right; simp [hv] at h; omega

set_option maxRecDepth 100000 in
theorem lifted (os : Os) (started : os.Started) (H : Type) (enc : TypeId × Value → H) :
    ReturnsInHanded {} Try.checked os 14 .any (Rows.controlAimsSpec.pre6 enc Try.prog Try.f14 Rows.controlAimsRow.domain false) (Rows.controlAimsSpec.post enc Try.prog Try.f14 false true false false) := by
  refine returnsInHanded_of_change (C := Try.checked) own started (by kernel_rfl) Try.func14
    (ChangeSpec.witness6 (enc := enc) (C := Try.checked) false ⟨#[], #[.agg #[.int .i64 0, .int .i64 0, .int .i64 0, .int .i64 0, .int .i64 0, .int .i64 0], .int .i64 0, .slice none 0 0], []⟩ 8 (by kernel_rfl) (by kernel_rfl) (by kernel_rfl) (by kernel_rfl)) ?_
  intro W base args ds gs before hval0 hW _ _
  have hval : ∀ (j : Nat) t v, Try.f14.params[j]? = some t → args[j]? = some v → Value.okWide Try.prog W .any base t v := hval0
  have hW' := hW
  obtain ⟨p, q, hA0, hV, rfl, _, _⟩ := hW
  have hA : DataW.TrodAll enc Try.prog W 0 (fun _ => true) true Try.f14.params.toList args.toList ds p := hA0
  rw [Try.params14] at hA hval
  obtain ⟨v0, v1, v2, d0, d1, d2, p0, p1, p2, rfl, rfl, rfl, h0, h1, h2⟩ := trodAll_three hA
  clear hA hA0 hval0
  obtain ⟨f0, bf0, rfl⟩ := flat_ints (n := 6) (u := 3) (by kernel_rfl) (by kernel_rfl) (by kernel_rfl) Try.underlying3 (hval 0 23 v0 rfl rfl)
  obtain ⟨a1, rfl, ba1⟩ := int_open Try.underlying3 (hval 1 3 v1 rfl rfl)
  obtain ⟨s2, l2, c2, rfl, bl2, bs2⟩ := ints_arg Try.underlying28 Try.underlying3 (by kernel_rfl) (hval 2 28 v2 rfl rfl) h2
  exact (walk (f0 0) (f0 1) (f0 2) (f0 3) (f0 4) (f0 5) a1 s2 l2 c2 W bl2 bs2).mono fun e W' ⟨he, hb⟩ => ⟨_, he, law_post laidOut (by kernel_rfl) rfl (fun _ => rfl) rfl Try.underlying4 hW' hb⟩

theorem holds : Rows.ControlAimsSaid :=
  OpenClaim.holds_of_wide 14 Try.f14 rfl rfl rfl rfl rfl rfl rfl ⟨rfl, rfl, rfl, rfl, rfl⟩ rfl rfl rfl rfl rfl (by kernel_rfl) Try.func14 (by kernel_rfl)
    (of_decide_eq_true (by kernel_rfl)) (by unfold Func.isWrapper; rw [if_neg (of_decide_eq_false (by kernel_rfl))]; exact ⟨rfl, rfl⟩)
    (fun os started H enc _ => lifted os started H enc)

#print axioms holds
end Go.Proofs.Ythpomgkeoogamaa.controlAims
