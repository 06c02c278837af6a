/- ControlRuns: successive steps of the program and of the reference return the same, for any controller and at most 200 readings -/
import Derived.Deep.RegionWith
import Derived.Deep.LoopGhost
import Derived.Deep.DeepCutAuto
import Derived.RegionTactic
import Derived.ChangeAlike
import Derived.Test.YthpomgkeoogamaaBase
import Derived.Test.YthpomgkeoogamaaKit2
import Derived.Test.YthpomgkeoogamaaL49Awake
namespace Go.Proofs.Ythpomgkeoogamaa.controlRuns
open Go.ChangeShapes Go.WideShapes Go.ChangeAt Go.RowKit

attribute [local go_sem] cell_past1 cell_past2 cell_past3 cell_past4 froz_past1 froz_past2 froz_past3

def Rel (t kp ki sc li : Int) (x y B len : Nat) (w : World) (g : Nat) (i : Value) (wr : World) : Prop :=
  ∃ (k : Nat) (s : Int), i = .int .i64 k ∧ k ≤ len ∧ len - k ≤ g ∧ Live wr x #[.int .i64 t, .int .i64 kp, .int .i64 ki, .int .i64 sc, .int .i64 (s), .int .i64 li] ∧ Live wr y #[.int .i64 t, .int .i64 kp, .int .i64 ki, .int .i64 sc, .int .i64 (s), .int .i64 li] ∧ Below B w wr

set_option maxRecDepth 100000 in
set_option maxHeartbeats 4000000 in
theorem walk (t kp ki sc su li : Int) (a : Option Addr) (len cap : Nat) (w : World) (hl : len ≤ 9223372036854775807) (ha : IntsB w a len) :
    Calls Try.prog 4 #[.agg #[.int .i64 t, .int .i64 kp, .int .i64 ki, .int .i64 sc, .int .i64 su, .int .i64 li], .slice a len cap] w fun e w' => e = .returned (.bool true) ∧ Below w.heap.size w w' := by
  go_enter Try.func4, Try.ntmps4
  go_wp2
  go_region
  all_goals go_wp2
  (generalize hy : w.heap.size + 1 + 1 = y; generalize hx : w.heap.size + 1 = x; have q1 : w.heap.size < x ∧ w.heap.size < y ∧ x ≠ y := (by omega))
  rotate_left
  (generalize hx : w.heap.size + 1 + 1 = x; generalize hy : w.heap.size + 1 = y; have q1 : w.heap.size < x ∧ w.heap.size < y ∧ x ≠ y := (by omega))
  rotate_left
  all_goals
    obtain ⟨q1, q2, q3⟩ := q1
    have HX := Lib.hid hx
    have HY := Lib.hid hy
    have q4 : y ≠ x := fun h => q3 h.symm
    clear hx hy
    go_loopg [7] len (Rel t kp ki sc li x y w.heap.size len w)
    case atStart =>
      have hx := HX.out
      have hy := HY.out
      subst hx hy
      refine ⟨0, su, rfl, Nat.zero_le _, by omega, by (repeat (first | with_reducible assumption | ((with_reducible apply live_new) <;> (first | with_reducible rfl | (focus (simp; done)))) | with_reducible apply live_alloc | with_reducible apply live_drew | with_reducible apply live_drewN | ((with_reducible apply live_set_other); (case hb => first | omega | (simp; done))) | with_reducible apply live_set_same | (focus (simp; done)))), by (repeat (first | with_reducible assumption | ((with_reducible apply live_new) <;> (first | with_reducible rfl | (focus (simp; done)))) | with_reducible apply live_alloc | with_reducible apply live_drew | with_reducible apply live_drewN | ((with_reducible apply live_set_other); (case hb => first | omega | (simp; done))) | with_reducible apply live_set_same | (focus (simp; done)))), by (repeat' (first | with_reducible exact Below.refl _ _ | with_reducible refine Below.drew ?_ | with_reducible refine below_drewN ?_ _ | with_reducible refine Below.alloc ?_ ?_ _ | with_reducible refine Below.setCell ?_ ?_ _ | with_reducible refine Below.trans ?_ (Below.mono (by with_reducible assumption) ?_) | (simp; done) | (simp; omega) | omega))⟩
    case round =>
      obtain ⟨k, s, rfl, hk, hg, L0a, L0b, hb0⟩ := hrel
      have hg' := Lib.hid hg
      clear hg
      obtain ⟨p0a, e0a, f0a⟩ := id L0a
      obtain ⟨p0b, e0b, f0b⟩ := id L0b
      by_cases hlt : k < len
      · obtain ⟨b, off, rfl, hbl, hcl⟩ := ha (by omega)
        obtain ⟨z, hz, _, _⟩ := hcl k hlt
        have hz0 : wr.cell? ⟨b, off + k, none⟩ = some (.int .i64 z) := (hb0.cell (p := ⟨b, off + k, none⟩) hbl).trans hz
        have hbx : b ≠ x := by omega
        have hby : b ≠ y := by omega
        have HZ := Lib.hid hz
        clear hz hcl
        by_cases h2 : k < 200
        · go_wp2
          go_cut [8] (fun d wx => d = .int .i64 (ctlDuty2 t kp ki sc s li z) ∧ Live wx x #[.int .i64 t, .int .i64 kp, .int .i64 ki, .int .i64 sc, .int .i64 (ctlSum2 t kp ki sc s li z), .int .i64 li] ∧ Live wx y #[.int .i64 t, .int .i64 kp, .int .i64 ki, .int .i64 sc, .int .i64 (s), .int .i64 li] ∧ Below w.heap.size w wx)
          case first =>
            go_region_with ((go_at_call 15; refine (control_step _ _ _ _ _ _ _ _).mono ?_; rintro e w1 ⟨rfl, hb1⟩; have z1 := hb1.size; (try simp at z1); have L1a := live_below hb1 (b := x) (by (repeat (first | with_reducible assumption | ((with_reducible apply live_new) <;> (first | with_reducible rfl | (focus (simp; done)))) | with_reducible apply live_alloc | with_reducible apply live_drew | with_reducible apply live_drewN | ((with_reducible apply live_set_other); (case hb => first | omega | (simp; done))) | with_reducible apply live_set_same | (focus (simp; done))))); obtain ⟨p1a, e1a, f1a⟩ := id L1a; have L1b := live_below hb1 (b := y) (by (repeat (first | with_reducible assumption | ((with_reducible apply live_new) <;> (first | with_reducible rfl | (focus (simp; done)))) | with_reducible apply live_alloc | with_reducible apply live_drew | with_reducible apply live_drewN | ((with_reducible apply live_set_other); (case hb => first | omega | (simp; done))) | with_reducible apply live_set_same | (focus (simp; done))))); obtain ⟨p1b, e1b, f1b⟩ := id L1b))
            all_goals (try go_wp2_with fail)
            all_goals go_meet
            all_goals refine ⟨rfl, ?_, ?_, ?_⟩
            all_goals first | ((apply live_conv); (· (repeat (first | with_reducible assumption | ((with_reducible apply live_new) <;> (first | with_reducible rfl | (focus (simp; done)))) | with_reducible apply live_alloc | with_reducible apply live_drew | with_reducible apply live_drewN | ((with_reducible apply live_set_other); (case hb => first | omega | (simp; done))) | with_reducible apply live_set_same | (focus (simp; done))))); (· first | rfl | (simp; done))) | (refine Below.trans hb0 ?_; (repeat' (first | with_reducible exact Below.refl _ _ | with_reducible refine Below.drew ?_ | with_reducible refine below_drewN ?_ _ | with_reducible refine Below.alloc ?_ ?_ _ | with_reducible refine Below.setCell ?_ ?_ _ | with_reducible refine Below.trans ?_ (Below.mono (by with_reducible assumption) ?_) | (simp; done) | (simp; omega) | omega)))
          case rest =>
            obtain ⟨rfl, L1a, L1b, hb1⟩ := hcut
            obtain ⟨p1a, e1a, f1a⟩ := id L1a
            obtain ⟨p1b, e1b, f1b⟩ := id L1b
            have hz1 : wc.cell? ⟨b, off + k, none⟩ = some (.int .i64 z) := (hb1.cell (p := ⟨b, off + k, none⟩) hbl).trans HZ.out
            clear hz0
            go_wp2
            go_cut [9] (fun d wx => d = .int .i64 (ctlDuty2 t kp ki sc s li z) ∧ Live wx x #[.int .i64 t, .int .i64 kp, .int .i64 ki, .int .i64 sc, .int .i64 (ctlSum2 t kp ki sc s li z), .int .i64 li] ∧ Live wx y #[.int .i64 t, .int .i64 kp, .int .i64 ki, .int .i64 sc, .int .i64 (ctlSum2 t kp ki sc s li z), .int .i64 li] ∧ Below w.heap.size w wx)
            case first =>
              go_region_with ((go_at_call 16; refine (ref49_step _ _ _ _ _ _ _ _).mono ?_; rintro e w2 ⟨rfl, hb2⟩; have z2 := hb2.size; (try simp at z2); have L2a := live_below hb2 (b := x) (by (repeat (first | with_reducible assumption | ((with_reducible apply live_new) <;> (first | with_reducible rfl | (focus (simp; done)))) | with_reducible apply live_alloc | with_reducible apply live_drew | with_reducible apply live_drewN | ((with_reducible apply live_set_other); (case hb => first | omega | (simp; done))) | with_reducible apply live_set_same | (focus (simp; done))))); obtain ⟨p2a, e2a, f2a⟩ := id L2a; have L2b := live_below hb2 (b := y) (by (repeat (first | with_reducible assumption | ((with_reducible apply live_new) <;> (first | with_reducible rfl | (focus (simp; done)))) | with_reducible apply live_alloc | with_reducible apply live_drew | with_reducible apply live_drewN | ((with_reducible apply live_set_other); (case hb => first | omega | (simp; done))) | with_reducible apply live_set_same | (focus (simp; done))))); obtain ⟨p2b, e2b, f2b⟩ := id L2b))
              all_goals (try go_wp2_with fail)
              all_goals go_meet
              all_goals refine ⟨rfl, ?_, ?_, ?_⟩
              all_goals first | ((apply live_conv); (· (repeat (first | with_reducible assumption | ((with_reducible apply live_new) <;> (first | with_reducible rfl | (focus (simp; done)))) | with_reducible apply live_alloc | with_reducible apply live_drew | with_reducible apply live_drewN | ((with_reducible apply live_set_other); (case hb => first | omega | (simp; done))) | with_reducible apply live_set_same | (focus (simp; done))))); (· first | rfl | (simp; done))) | (refine Below.trans hb1 ?_; (repeat' (first | with_reducible exact Below.refl _ _ | with_reducible refine Below.drew ?_ | with_reducible refine below_drewN ?_ _ | with_reducible refine Below.alloc ?_ ?_ _ | with_reducible refine Below.setCell ?_ ?_ _ | with_reducible refine Below.trans ?_ (Below.mono (by with_reducible assumption) ?_) | (simp; done) | (simp; omega) | omega)))
            case rest =>
              obtain ⟨rfl, L2a, L2b, hb2⟩ := hcut
              obtain ⟨p2a, e2a, f2a⟩ := id L2a
              obtain ⟨p2b, e2b, f2b⟩ := id L2b
              clear hz1 e0a e0b f0a f0b e1a e1b f1a f1b
              go_wp2
              go_roundg (gk - 1)
              case measure => have := hg'.out; omega
              case rel => exact ⟨k + 1, ctlSum2 t kp ki sc s li z, by go_num, by omega, by have := hg'.out; omega, L2a, L2b, hb2⟩
        · go_wp2_with ((go_at_call 17; refine (law49_awake _).mono ?_; rintro e w9 ⟨rfl, hb9⟩; have z9 := hb9.size; (try simp at z9)))
          all_goals go_ret
          all_goals refine ⟨rfl, ?_⟩
          all_goals (repeat' (first | with_reducible exact Below.refl _ _ | with_reducible refine Below.drew ?_ | with_reducible refine below_drewN ?_ _ | with_reducible refine Below.alloc ?_ ?_ _ | with_reducible refine Below.setCell ?_ ?_ _ | with_reducible refine Below.trans ?_ (Below.mono (by with_reducible assumption) ?_) | (simp; done) | (simp; omega) | omega))
      · go_wp2_with ((go_at_call 17; refine (law49_awake _).mono ?_; rintro e w9 ⟨rfl, hb9⟩; have z9 := hb9.size; (try simp at z9)))
        all_goals go_ret
        all_goals refine ⟨rfl, ?_⟩
        all_goals (repeat' (first | with_reducible exact Below.refl _ _ | with_reducible refine Below.drew ?_ | with_reducible refine below_drewN ?_ _ | with_reducible refine Below.alloc ?_ ?_ _ | with_reducible refine Below.setCell ?_ ?_ _ | with_reducible refine Below.trans ?_ (Below.mono (by with_reducible assumption) ?_) | (simp; done) | (simp; omega) | omega))

set_option maxRecDepth 100000 in
theorem lifted (os : Os) (started : os.Started) (H : Type) (enc : TypeId × Value → H) :
    ReturnsInHanded {} Try.checked os 4 .any (Rows.controlRunsSpec.pre6 enc Try.prog Try.f4 Rows.controlRunsRow.domain false) (Rows.controlRunsSpec.post enc Try.prog Try.f4 false true false false) := by
  refine returnsInHanded_of_change (C := Try.checked) own started (by kernel_rfl) Try.func4
    (ChangeSpec.witness6 (enc := enc) (C := Try.checked) false ⟨#[], #[.agg #[.int .i64 0, .int .i64 0, .int .i64 0, .int .i64 0, .int .i64 0, .int .i64 0], .slice none 0 0], []⟩ 8 (by kernel_rfl) (by kernel_rfl) (by kernel_rfl) (by kernel_rfl)) ?_
  intro W base args ds gs before hval0 hW _ _
  have hval : ∀ (j : Nat) t v, Try.f4.params[j]? = some t → args[j]? = some v → Value.okWide Try.prog W .any base t v := hval0
  have hW' := hW
  obtain ⟨p, q, hA0, hV, rfl, _, _⟩ := hW
  have hA : DataW.TrodAll enc Try.prog W 0 (fun _ => true) true Try.f4.params.toList args.toList ds p := hA0
  rw [Try.params4] at hA hval
  obtain ⟨v0, v1, d0, d1, p0, p1, rfl, rfl, rfl, h0, h1⟩ := trodAll_two hA
  clear hA hA0 hval0
  obtain ⟨f0, bf0, rfl⟩ := flat_ints (n := 6) (u := 3) (by kernel_rfl) (by kernel_rfl) (by kernel_rfl) Try.underlying3 (hval 0 23 v0 rfl rfl)
  obtain ⟨s1, l1, c1, rfl, bl1, bs1⟩ := ints_arg Try.underlying28 Try.underlying3 (by kernel_rfl) (hval 1 28 v1 rfl rfl) h1
  exact (walk (f0 0) (f0 1) (f0 2) (f0 3) (f0 4) (f0 5) s1 l1 c1 W bl1 bs1).mono fun e W' ⟨he, hb⟩ => ⟨_, he, law_post laidOut (by kernel_rfl) rfl (fun _ => rfl) rfl Try.underlying4 hW' hb⟩

theorem holds : Rows.ControlRunsSaid :=
  OpenClaim.holds_of_wide 4 Try.f4 rfl rfl rfl rfl rfl rfl rfl ⟨rfl, rfl, rfl, rfl, rfl⟩ rfl rfl rfl rfl rfl (by kernel_rfl) Try.func4 (by kernel_rfl)
    (of_decide_eq_true (by kernel_rfl)) (by unfold Func.isWrapper; rw [if_neg (of_decide_eq_false (by kernel_rfl))]; exact ⟨rfl, rfl⟩)
    (fun os started H enc _ => lifted os started H enc)

#print axioms holds
end Go.Proofs.Ythpomgkeoogamaa.controlRuns
