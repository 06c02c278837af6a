/- DdaNear: the steps of each motor differ from the proportional number by at most one half, for all i from 0 to n -/
import Derived.Deep.RegionWith
import Derived.Deep.RegionHeld3
import Derived.Deep.DeepCutAuto
import Derived.Handy
import Derived.RegionTactic
import Derived.BigRegion
import Derived.Test.YtjcnheakjgmidaaBase
import Derived.Test.YtjcnheakjgmidaaKit3
import Derived.Test.YtjcnheakjgmidaaL42Awake
import Derived.Test.YtjcnheakjgmidaaDdaPlain
namespace Go.Proofs.Ytjcnheakjgmidaa.ddaNear
open Go.ChangeShapes Go.WideShapes Go.ChangeAt Go.RowKit
set_option linter.unusedVariables false

attribute [local go_sem] cell_past1 cell_past2 cell_past3 cell_past4 froz_past1 froz_past2 froz_past3

theorem mul_one (n x : Int) (hn : 0 ≤ n ∧ n ≤ 16777216) (hx : -16777216 ≤ x ∧ x ≤ 16777216) : -1125899906842624 ≤ 2 * x * n ∧ 2 * x * n ≤ 1125899906842624 := by
  have h1 : 2 * x * n ≤ 2 * 16777216 * n := Int.mul_le_mul_of_nonneg_right (by omega) hn.1
  have h2 : 2 * (-16777216) * n ≤ 2 * x * n := Int.mul_le_mul_of_nonneg_right (by omega) hn.1
  omega
theorem mul_two (i x : Int) (hn : 0 ≤ i ∧ i ≤ 16777216) (hx : -16777216 ≤ x ∧ x ≤ 16777216) : -1125899906842624 ≤ 2 * i * x ∧ 2 * i * x ≤ 1125899906842624 := by
  have := mul_one i x hn hx
  rw [show 2 * i * x = 2 * x * i from by rw [Int.mul_assoc, Int.mul_comm i x, ← Int.mul_assoc]]
  exact this

set_option maxRecDepth 100000 in
set_option maxHeartbeats 4000000 in
theorem walk_out (a b c d i : Int) (w : World) (h : ddaDom a b c d < 1 ∨ i < 0 ∨ ddaDom a b c d < i) :
    Calls Try.prog 7 #[.agg #[.int .i64 a, .int .i64 b, .int .i64 c, .int .i64 d], .int .i64 i] w fun e w' => e = .returned (.bool true) ∧ Below w.heap.size w w' := by
  have hn2 := (ddaDom_in a b c d).2
  generalize hn : ddaDom a b c d = n at *
  have HN := Lib.hid hn
  clear hn
  rcases h with h | h | h
  all_goals
    go_enter Try.func7, Try.ntmps7
    go_wp2_with (first | (go_at_call 17; refine (dda_dom _ _ _ _ _).mono ?_; rw [HN.out]; rintro e w1 ⟨rfl, rfl⟩) | (go_at_call 19; refine (law42_awake _).mono ?_; rintro e w9 ⟨rfl, hb9⟩; have z9 := hb9.size; (try simp at z9); have L9a := live_below hb9 (b := w.heap.size) (by (repeat (first | with_reducible assumption | ((with_reducible apply live_new) <;> (first | with_reducible rfl | (focus (simp; done)))) | with_reducible apply live_alloc | with_reducible apply live_drew | with_reducible apply live_drewN | ((with_reducible apply live_set_other); (case hb => first | omega | (simp; done))) | with_reducible apply live_set_same | (focus (simp; done))))); obtain ⟨p9a, e9a, f9a⟩ := id L9a))
    all_goals go_ret
    all_goals refine ⟨rfl, ?_⟩
    all_goals (repeat' (first | with_reducible exact Below.refl _ _ | with_reducible refine Below.drew ?_ | with_reducible refine below_drewN ?_ _ | with_reducible refine Below.alloc ?_ ?_ _ | with_reducible refine Below.setCell ?_ ?_ _ | with_reducible refine Below.trans ?_ (Below.mono (by with_reducible assumption) ?_) | (simp; done) | (simp; omega) | omega))

set_option maxRecDepth 100000 in
set_option maxHeartbeats 4000000 in
theorem walk_in (a b c d i : Int) (w : World) (h1 : 1 ≤ ddaDom a b c d) (h2 : 0 ≤ i) (h3 : i ≤ ddaDom a b c d) :
    Calls Try.prog 7 #[.agg #[.int .i64 a, .int .i64 b, .int .i64 c, .int .i64 d], .int .i64 i] w fun e w' => e = .returned (.bool true) ∧ Below w.heap.size w w' := by
  have hn2 := (ddaDom_in a b c d).2
  have hv : ddaValid a b c d = true := by
    cases hv : ddaValid a b c d
    · unfold ddaDom at h1; simp [hv] at h1
    · rfl
  have hbd : (-16777216 ≤ a ∧ a ≤ 16777216) ∧ (-16777216 ≤ b ∧ b ≤ 16777216) ∧ (-16777216 ≤ c ∧ c ≤ 16777216) ∧ (-16777216 ≤ d ∧ d ≤ 16777216) := by
    have := hv; simp [ddaValid] at this; omega
  obtain ⟨ha, hb, hc, hd⟩ := hbd
  clear hv
  generalize hn : ddaDom a b c d = n at *
  have hM : ∀ x, atM n i x = atI n i x := fun x => by
    unfold atM; rw [if_neg (by omega), show atClamp n i = i from by unfold atClamp; omega]
  have na := atI_near n i a h1
  have nb := atI_near n i b h1
  have nc := atI_near n i c h1
  have nd := atI_near n i d h1
  have la := atI_le n i a h1 h2 h3 ha
  have lb := atI_le n i b h1 h2 h3 hb
  have lc := atI_le n i c h1 h2 h3 hc
  have ld := atI_le n i d h1 h2 h3 hd
  rw [← hM] at na la
  rw [← hM] at nb lb
  rw [← hM] at nc lc
  rw [← hM] at nd ld
  clear hM
  generalize hA : atM n i a = A at *
  generalize hB : atM n i b = B at *
  generalize hC : atM n i c = C at *
  generalize hD : atM n i d = D at *
  have HN := Lib.hid hn
  have HA := Lib.hid hA
  have HB := Lib.hid hB
  have HC := Lib.hid hC
  have HD := Lib.hid hD
  clear hn hA hB hC hD
  have ma := mul_one n A ⟨by omega, hn2⟩ la
  have mb := mul_one n B ⟨by omega, hn2⟩ lb
  have mc := mul_one n C ⟨by omega, hn2⟩ lc
  have md := mul_one n D ⟨by omega, hn2⟩ ld
  have ka := mul_two i a ⟨h2, by omega⟩ ha
  have kb := mul_two i b ⟨h2, by omega⟩ hb
  have kc := mul_two i c ⟨h2, by omega⟩ hc
  have kd := mul_two i d ⟨h2, by omega⟩ hd
  go_enter Try.func7, Try.ntmps7
  go_wp2_with (first | (go_at_call 17; refine (dda_dom _ _ _ _ _).mono ?_; rw [HN.out]; rintro e w1 ⟨rfl, rfl⟩) | (go_at_call 20; refine (dda_at _ _ _ _ _ _).mono ?_; rw [HN.out, HA.out, HB.out, HC.out, HD.out]; rintro e w1 ⟨rfl, hb1⟩; have z1 := hb1.size; (try simp at z1); have L1a := live_below hb1 (b := w.heap.size) (by (repeat (first | with_reducible assumption | ((with_reducible apply live_new) <;> (first | with_reducible rfl | (focus (simp; done)))) | with_reducible apply live_alloc | with_reducible apply live_drew | with_reducible apply live_drewN | ((with_reducible apply live_set_other); (case hb => first | omega | (simp; done))) | with_reducible apply live_set_same | (focus (simp; done))))); obtain ⟨p1a, e1a, f1a⟩ := id L1a))
  refine wp_loop_rounds 5 ?_
  iterate 4
    rw [rounds_succ]
    go_wp2
    go_region
    go_wp2
  rw [rounds_succ]
  go_wp2_with ((go_at_call 19; refine (law42_awake _).mono ?_; rintro e w9 ⟨rfl, hb9⟩; have z9 := hb9.size; (try simp at z9); have L9a := live_below hb9 (b := w.heap.size) (by (repeat (first | with_reducible assumption | ((with_reducible apply live_new) <;> (first | with_reducible rfl | (focus (simp; done)))) | with_reducible apply live_alloc | with_reducible apply live_drew | with_reducible apply live_drewN | ((with_reducible apply live_set_other); (case hb => first | omega | (simp; done))) | with_reducible apply live_set_same | (focus (simp; done))))); obtain ⟨p9a, e9a, f9a⟩ := id L9a))
  all_goals go_ret
  all_goals refine ⟨rfl, ?_⟩
  all_goals (repeat' (first | with_reducible exact Below.refl _ _ | with_reducible refine Below.drew ?_ | with_reducible refine below_drewN ?_ _ | with_reducible refine Below.alloc ?_ ?_ _ | with_reducible refine Below.setCell ?_ ?_ _ | with_reducible refine Below.trans ?_ (Below.mono (by with_reducible assumption) ?_) | (simp; done) | (simp; omega) | omega))

theorem walk (a b c d i : Int) (w : World) :
    Calls Try.prog 7 #[.agg #[.int .i64 a, .int .i64 b, .int .i64 c, .int .i64 d], .int .i64 i] w fun e w' => e = .returned (.bool true) ∧ Below w.heap.size w w' := by
  by_cases h : ddaDom a b c d < 1 ∨ i < 0 ∨ ddaDom a b c d < i
  · exact walk_out a b c d i w h
  · exact walk_in a b c d i w (by omega) (by omega) (by omega)

set_option maxRecDepth 100000 in
theorem lifted (os : Os) (started : os.Started) (H : Type) (enc : TypeId × Value → H) :
    ReturnsInHanded {} Try.checked os 7 .any (Rows.ddaNearSpec.pre6 enc Try.prog Try.f7 Rows.ddaNearRow.domain false) (Rows.ddaNearSpec.post enc Try.prog Try.f7 false true false false) := by
  refine returnsInHanded_of_change (C := Try.checked) own started (by kernel_rfl) Try.func7
    (ChangeSpec.witness6 (enc := enc) (C := Try.checked) false ⟨#[], #[.agg #[.int .i64 0, .int .i64 0, .int .i64 0, .int .i64 0], .int .i64 0], []⟩ 8 (by kernel_rfl) (by kernel_rfl) (by kernel_rfl) (by kernel_rfl)) ?_
  intro W base args ds gs before hval0 hW _ _
  have hval : ∀ (j : Nat) t v, Try.f7.params[j]? = some t → args[j]? = some v → Value.okWide Try.prog W .any base t v := hval0
  have hW' := hW
  obtain ⟨p, q, hA0, hV, rfl, _, _⟩ := hW
  have hA : DataW.TrodAll enc Try.prog W 0 (fun _ => true) true Try.f7.params.toList args.toList ds p := hA0
  rw [Try.params7] at hA hval
  obtain ⟨v0, v1, d0, d1, p0, p1, rfl, rfl, rfl, h0, h1⟩ := trodAll_two hA
  clear hA hA0 hval0
  obtain ⟨f0, bf0, rfl⟩ := flat_ints (n := 4) (u := 3) (by kernel_rfl) (by kernel_rfl) (by kernel_rfl) Try.underlying3 (hval 0 22 v0 rfl rfl)
  obtain ⟨a1, rfl, ba1⟩ := int_open Try.underlying3 (hval 1 3 v1 rfl rfl)
  exact (walk (f0 0) (f0 1) (f0 2) (f0 3) a1 W).mono fun e W' ⟨he, hb⟩ => ⟨_, he, law_post laidOut (by kernel_rfl) rfl (fun _ => rfl) rfl Try.underlying4 hW' hb⟩

theorem holds : Rows.DdaNearSaid :=
  OpenClaim.holds_of_wide 7 Try.f7 rfl rfl rfl rfl rfl rfl rfl ⟨rfl, rfl, rfl, rfl, rfl⟩ rfl rfl rfl rfl rfl (by kernel_rfl) Try.func7 (by kernel_rfl)
    (of_decide_eq_true (by kernel_rfl)) (by unfold Func.isWrapper; rw [if_neg (of_decide_eq_false (by kernel_rfl))]; exact ⟨rfl, rfl⟩)
    (fun os started H enc _ => lifted os started H enc)

#print axioms holds
end Go.Proofs.Ytjcnheakjgmidaa.ddaNear
