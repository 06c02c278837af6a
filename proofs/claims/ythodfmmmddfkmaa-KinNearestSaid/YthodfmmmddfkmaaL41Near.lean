/- KinNearest: Units is the nearest position, for all machines and numbers -/
import Derived.Handy
import Derived.Test.YthodfmmmddfkmaaKinOpen
import Derived.Test.YthodfmmmddfkmaaL41Awake
namespace Go.Proofs.Ythodfmmmddfkmaa.kinNearest
open Go.ChangeShapes Go.WideShapes Go.ChangeAt Go.RowKit
set_option linter.unusedVariables false

attribute [local go_sem] cell_past1 cell_past2 cell_past3 cell_past4 froz_past1 froz_past2 froz_past3
attribute [local go_sem ↓] loadM_in

theorem rnd_far (a b : Int) (hb : 1 ≤ b) : 2 * (rnd a b * b - a) ≤ b ∧ -b < 2 * (rnd a b * b - a) := by
  unfold rnd
  have h1 := Int.mul_ediv_add_emod (2 * a + b) (2 * b)
  have h2 := Int.emod_nonneg (2 * a + b) (show 2 * b ≠ 0 by omega)
  have h3 := Int.emod_lt_of_pos (2 * a + b) (show 0 < 2 * b by omega)
  generalize (2 * a + b) / (2 * b) = q at *
  have e : 2 * b * q = 2 * (q * b) := by rw [Int.mul_assoc, Int.mul_comm b q]
  omega

theorem near_facts (f : Nat → Int) (t : Int) (K : Nat) (n : Int) (h : unOk f t K n = true) :
    K < 4 ∧ 1 ≤ f (7 * K) ∧ f (7 * K) ≤ 65536 ∧ 1 ≤ f (7 * K + 1) ∧ f (7 * K + 1) ≤ f (7 * K) ∧ (-4611686018427387904 ≤ n * f (7 * K + 1) ∧ n * f (7 * K + 1) ≤ 4611686018427387904) ∧ 2 * (unV f t K n * f (7 * K) - n * f (7 * K + 1)) ≤ f (7 * K) ∧ -f (7 * K) < 2 * (unV f t K n * f (7 * K) - n * f (7 * K + 1)) := by
  have h2 : kinValid f t = true ∧ 0 ≤ (K : Int) ∧ (K : Int) < 4 ∧ -70368744177664 ≤ n ∧ n ≤ 70368744177664 := by unfold unOk at h; simpa using h
  obtain ⟨hv, k0, k1, p0, p1⟩ := h2
  have ha := ax_ok f K (kin_axes f t hv K (by omega))
  have hm := mul_bd n (f (7 * K + 1)) 70368744177664 65536 p0 p1 (by omega) (by omega) (by omega)
  have hf := rnd_far (n * f (7 * K + 1)) (f (7 * K)) (by omega)
  have hu : unV f t K n = rnd (n * f (7 * K + 1)) (f (7 * K)) := by unfold unV; rw [h]; simp
  rw [hu]
  omega

set_option maxRecDepth 100000 in
set_option maxHeartbeats 4000000 in
theorem walk (f : Nat → Int) (x : Bool) (t k n : Int) (w : World) :
    Calls Try.prog 7 #[.agg (mach f x t), .int .i64 k, .int .i64 n] w fun e w' => e = .returned (.bool true) ∧ Below w.heap.size w w' := by
  cases h : unOk f t k n
  · have HE : Hid (unE f t k n = 1) := Lib.hid (by unfold unE; rw [h]; rfl)
    clear h
    go_enter Try.func7, Try.ntmps7
    go_upto_region 1 with (fail)
    refine gen_world (fun wx => Live wx w.heap.size (mach f x t) ∧ Below w.heap.size w wx) ⟨live_new _ _ rfl, by (repeat' (first | with_reducible exact Below.refl _ _ | with_reducible refine Below.drew ?_ | with_reducible refine below_drewN ?_ _ | with_reducible refine Below.alloc ?_ ?_ _ | with_reducible refine Below.setCell ?_ ?_ _ | with_reducible refine Below.trans ?_ (Below.mono (by with_reducible assumption) ?_) | (simp; done) | (simp; omega) | omega))⟩ ?_
    rintro wx ⟨L, hb⟩
    have zb := hb.size
    have lm0 := loadM_run (live_rangeAll L)
    go_wp2_with (first | (go_at_call 21; refine (kin_units _ _ _ _ _ _).mono ?_; rw [HE.out]; rintro e w3 ⟨rfl, hb3⟩; have z3 := hb3.size; (try simp at z3)) | (go_at_call 18; refine (law41_awake _).mono ?_; rintro e w9 ⟨rfl, hb9⟩; have z9 := hb9.size; (try simp at z9)))
    all_goals go_ret
    all_goals refine ⟨rfl, ?_⟩
    all_goals (refine Below.trans hb ?_; (repeat' (first | with_reducible exact Below.refl _ _ | with_reducible refine Below.drew ?_ | with_reducible refine below_drewN ?_ _ | with_reducible refine Below.alloc ?_ ?_ _ | with_reducible refine Below.setCell ?_ ?_ _ | with_reducible refine Below.trans ?_ (Below.mono (by with_reducible assumption) ?_) | (simp; done) | (simp; omega) | omega)))
  · have HE : Hid (unE f t k n = 0) := Lib.hid (by unfold unE; rw [h]; rfl)
    have h2 : kinValid f t = true ∧ 0 ≤ k ∧ k < 4 ∧ -70368744177664 ≤ n ∧ n ≤ 70368744177664 := by unfold unOk at h; simpa using h
    obtain ⟨_, k0, k1, _, _⟩ := h2
    have nf := near_facts f t k.toNat n (by rw [Int.toNat_of_nonneg k0]; exact h)
    rw [Int.toNat_of_nonneg k0] at nf
    obtain ⟨hK, n0, n1, d0, d1, ⟨m0, m1⟩, r0, r1⟩ := nf
    clear hK
    generalize hp : unV f t k n = p at *
    have HP := Lib.hid hp
    clear h hp
    have q0 : -4611686018427518976 ≤ p * f (7 * k.toNat) := by omega
    have q1 : p * f (7 * k.toNat) ≤ 4611686018427518976 := by omega
    rcases (by omega : k = 0 ∨ k = 1 ∨ k = 2 ∨ k = 3) with rfl | rfl | rfl | rfl
    all_goals
      simp only [Int.reduceToNat, Nat.mul_zero, Nat.mul_one, Nat.zero_add, Nat.reduceMul, Nat.reduceAdd] at n0 n1 d0 d1 m0 m1 r0 r1 q0 q1
      go_enter Try.func7, Try.ntmps7
      go_upto_region 1 with (fail)
      refine gen_world (fun wx => Live wx w.heap.size (mach f x t) ∧ Below w.heap.size w wx) ⟨live_new _ _ rfl, by (repeat' (first | with_reducible exact Below.refl _ _ | with_reducible refine Below.drew ?_ | with_reducible refine below_drewN ?_ _ | with_reducible refine Below.alloc ?_ ?_ _ | with_reducible refine Below.setCell ?_ ?_ _ | with_reducible refine Below.trans ?_ (Below.mono (by with_reducible assumption) ?_) | (simp; done) | (simp; omega) | omega))⟩ ?_
      rintro wx ⟨L, hb⟩
      have zb := hb.size
      have lm0 := loadM_run (live_rangeAll L)
      go_upto_region 4 with (go_at_call 21; refine (kin_units _ _ _ _ _ _).mono ?_; rw [HE.out, HP.out]; rintro e w3 ⟨rfl, hb3⟩; have z3 := hb3.size; (try simp at z3); have L3a := live_below hb3 (b := w.heap.size) (by (repeat (first | with_reducible assumption | ((with_reducible apply live_new) <;> (first | with_reducible rfl | (focus (simp; done)))) | with_reducible apply live_alloc | with_reducible apply live_drew | with_reducible apply live_drewN | ((with_reducible apply live_set_other); (case hb => first | omega | (simp; done))) | with_reducible apply live_set_same | (focus (simp; done))))); obtain ⟨p3a, e3a, f3a⟩ := id L3a; clear e3a f3a)
      have cc : (w3.cell? ⟨w.heap.size, 0, none⟩ = some (.int .i64 (f 0)) ∧ w3.cell? ⟨w.heap.size, 1, none⟩ = some (.int .i64 (f 1))) ∧ (w3.cell? ⟨w.heap.size, 7, none⟩ = some (.int .i64 (f 7)) ∧ w3.cell? ⟨w.heap.size, 8, none⟩ = some (.int .i64 (f 8))) ∧ (w3.cell? ⟨w.heap.size, 14, none⟩ = some (.int .i64 (f 14)) ∧ w3.cell? ⟨w.heap.size, 15, none⟩ = some (.int .i64 (f 15))) ∧ (w3.cell? ⟨w.heap.size, 21, none⟩ = some (.int .i64 (f 21)) ∧ w3.cell? ⟨w.heap.size, 22, none⟩ = some (.int .i64 (f 22))) := ⟨⟨L3a.2.1 0, L3a.2.1 1⟩, ⟨L3a.2.1 7, L3a.2.1 8⟩, ⟨L3a.2.1 14, L3a.2.1 15⟩, ⟨L3a.2.1 21, L3a.2.1 22⟩⟩
      obtain ⟨⟨c0, c1⟩, ⟨c7, c8⟩, ⟨c14, c15⟩, c21, c22⟩ := cc
      go_quiet (fail)
      go_wp2_with (go_at_call 18; refine (law41_awake _).mono ?_; rintro e w9 ⟨rfl, hb9⟩; have z9 := hb9.size; (try simp at z9))
      all_goals go_ret
      all_goals refine ⟨rfl, ?_⟩
      all_goals (refine Below.trans hb ?_; (repeat' (first | with_reducible exact Below.refl _ _ | with_reducible refine Below.drew ?_ | with_reducible refine below_drewN ?_ _ | with_reducible refine Below.alloc ?_ ?_ _ | with_reducible refine Below.setCell ?_ ?_ _ | with_reducible refine Below.trans ?_ (Below.mono (by with_reducible assumption) ?_) | (simp; done) | (simp; omega) | omega)))

set_option maxRecDepth 100000 in
theorem lifted (os : Os) (started : os.Started) (H : Type) (enc : TypeId × Value → H) :
    ReturnsInHanded {} Try.checked os 7 .any (Rows.kinNearestSpec.pre6 enc Try.prog Try.f7 Rows.kinNearestRow.domain false) (Rows.kinNearestSpec.post enc Try.prog Try.f7 false true false false) := by
  refine returnsInHanded_of_change (C := Try.checked) own started (by kernel_rfl) Try.func7
    (ChangeSpec.witness6 (enc := enc) (C := Try.checked) false ⟨#[], #[.agg #[.int .i64 0, .int .i64 0, .int .i64 0, .int .i64 0, .int .i64 0, .int .i64 0, .int .i64 0, .int .i64 0, .int .i64 0, .int .i64 0, .int .i64 0, .int .i64 0, .int .i64 0, .int .i64 0, .int .i64 0, .int .i64 0, .int .i64 0, .int .i64 0, .int .i64 0, .int .i64 0, .int .i64 0, .int .i64 0, .int .i64 0, .int .i64 0, .int .i64 0, .int .i64 0, .int .i64 0, .int .i64 0, .bool false, .int .i64 0], .int .i64 0, .int .i64 0], []⟩ 8 (by kernel_rfl) (by kernel_rfl) (by kernel_rfl) (by kernel_rfl)) ?_
  intro W base args ds gs before hval0 hW _ _
  have hval : ∀ (j : Nat) t v, Try.f7.params[j]? = some t → args[j]? = some v → Value.okWide Try.prog W .any base t v := hval0
  have hW' := hW
  obtain ⟨p, q, hA0, hV, rfl, _, _⟩ := hW
  have hA : DataW.TrodAll enc Try.prog W 0 (fun _ => true) true Try.f7.params.toList args.toList ds p := hA0
  rw [Try.params7] at hA hval
  obtain ⟨v0, v1, v2, d0, d1, d2, p0, p1, p2, rfl, rfl, rfl, h0, h1, h2⟩ := trodAll_three hA
  clear hA hA0 hval0
  obtain ⟨f0, x0, t0, bf0, bt0, rfl⟩ := mach_open (hval 0 26 v0 rfl rfl)
  obtain ⟨a1, rfl, ba1⟩ := int_open Try.underlying3 (hval 1 3 v1 rfl rfl)
  obtain ⟨a2, rfl, ba2⟩ := int_open Try.underlying3 (hval 2 3 v2 rfl rfl)
  exact (walk f0 x0 t0 a1 a2 W).mono fun e W' ⟨he, hb⟩ => ⟨_, he, law_post laidOut (by kernel_rfl) rfl (fun _ => rfl) rfl Try.underlying4 hW' hb⟩

theorem holds : Rows.KinNearestSaid :=
  OpenClaim.holds_of_wide 7 Try.f7 rfl rfl rfl rfl rfl rfl rfl ⟨rfl, rfl, rfl, rfl, rfl⟩ rfl rfl rfl rfl rfl (by kernel_rfl) Try.func7 (by kernel_rfl)
    (of_decide_eq_true (by kernel_rfl)) (by unfold Func.isWrapper; rw [if_neg (of_decide_eq_false (by kernel_rfl))]; exact ⟨rfl, rfl⟩)
    (fun os started H enc _ => lifted os started H enc)

#print axioms holds
end Go.Proofs.Ythodfmmmddfkmaa.kinNearest
