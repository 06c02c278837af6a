/- KinMonotone: greater positions have at least as many steps, greater numbers of steps positions at least as great, and Steps is the nearest number -/
import Derived.Handy
import Derived.Test.YthodfmmmddfkmaaKinOpen
import Derived.Test.YthodfmmmddfkmaaL41Awake
namespace Go.Proofs.Ythodfmmmddfkmaa.kinMonotone
open Go.ChangeShapes Go.WideShapes Go.ChangeAt Go.RowKit
set_option linter.unusedVariables false

attribute [local go_sem] cell_past1 cell_past2 cell_past3 cell_past4 froz_past1 froz_past2 froz_past3
attribute [local go_sem ↓] loadM_in

theorem rnd_far (a b : Int) (hb : 1 ≤ b) : 2 * (rnd a b * b - a) ≤ b ∧ -b < 2 * (rnd a b * b - a) := by
  unfold rnd
  have h1 := Int.mul_ediv_add_emod (2 * a + b) (2 * b)
  have h2 := Int.emod_nonneg (2 * a + b) (show 2 * b ≠ 0 by omega)
  have h3 := Int.emod_lt_of_pos (2 * a + b) (show 0 < 2 * b by omega)
  generalize (2 * a + b) / (2 * b) = q at *
  have e : 2 * b * q = 2 * (q * b) := by rw [Int.mul_assoc, Int.mul_comm b q]
  omega
theorem rnd_mono (a a' b : Int) (hb : 1 ≤ b) (h : a ≤ a') : rnd a b ≤ rnd a' b := by
  unfold rnd
  exact Int.ediv_le_ediv (by omega) (by omega)
theorem st_mono (f : Nat → Int) (t k n N : Int) (hN : n < 9223372036854775807 → N = n + 1) (h1 : stE f t k n = 0) (h2 : stE f t k N = 0) : stV f t k n ≤ stV f t k N := by
  have o1 : stOk f t k n = true := by unfold stE at h1; split at h1 <;> first | assumption | omega
  have o2 : stOk f t k N = true := by unfold stE at h2; split at h2 <;> first | assumption | omega
  have q1 : kinValid f t = true ∧ 0 ≤ k ∧ k < 4 ∧ -1073741824 ≤ n ∧ n ≤ 1073741824 := by unfold stOk at o1; simpa using o1
  obtain ⟨hv, k0, k1, p0, p1⟩ := q1
  have ha := ax_ok f k.toNat (kin_axes f t hv k.toNat (by omega))
  have e : N = n + 1 := hN (by omega)
  unfold stV
  rw [if_pos o1, if_pos o2]
  refine rnd_mono _ _ _ (by omega) ?_
  rw [e, Int.add_mul]
  omega
theorem un_mono (f : Nat → Int) (t k n N : Int) (hN : n < 9223372036854775807 → N = n + 1) (h1 : unE f t k n = 0) (h2 : unE f t k N = 0) : unV f t k n ≤ unV f t k N := by
  have o1 : unOk f t k n = true := by unfold unE at h1; split at h1 <;> first | assumption | omega
  have o2 : unOk f t k N = true := by unfold unE at h2; split at h2 <;> first | assumption | omega
  have q1 : kinValid f t = true ∧ 0 ≤ k ∧ k < 4 ∧ -70368744177664 ≤ n ∧ n ≤ 70368744177664 := by unfold unOk at o1; simpa using o1
  obtain ⟨hv, k0, k1, p0, p1⟩ := q1
  have ha := ax_ok f k.toNat (kin_axes f t hv k.toNat (by omega))
  have e : N = n + 1 := hN (by omega)
  unfold unV
  rw [if_pos o1, if_pos o2]
  refine rnd_mono _ _ _ (by omega) ?_
  rw [e, Int.add_mul]
  omega
theorem near_facts (f : Nat → Int) (t k n : Int) (h : stOk f t k n = true) :
    0 ≤ k ∧ k < 4 ∧ n ≤ 1073741824 ∧ 1 ≤ f (7 * k.toNat + 1) ∧ f (7 * k.toNat + 1) ≤ 65536 ∧ (-4611686018427387904 ≤ n * f (7 * k.toNat) ∧ n * f (7 * k.toNat) ≤ 4611686018427387904) ∧ 2 * (stV f t k n * f (7 * k.toNat + 1) - n * f (7 * k.toNat)) ≤ f (7 * k.toNat + 1) ∧ -f (7 * k.toNat + 1) < 2 * (stV f t k n * f (7 * k.toNat + 1) - n * f (7 * k.toNat)) := by
  have h2 : kinValid f t = true ∧ 0 ≤ k ∧ k < 4 ∧ -1073741824 ≤ n ∧ n ≤ 1073741824 := by unfold stOk at h; simpa using h
  obtain ⟨hv, k0, k1, p0, p1⟩ := h2
  have ha := ax_ok f k.toNat (kin_axes f t hv k.toNat (by omega))
  have hm := mul_bd n (f (7 * k.toNat)) 1073741824 65536 p0 p1 (by omega) (by omega) (by omega)
  have hf := rnd_far (n * f (7 * k.toNat)) (f (7 * k.toNat + 1)) (by omega)
  have hu : stV f t k n = rnd (n * f (7 * k.toNat)) (f (7 * k.toNat + 1)) := by unfold stV; rw [h]; simp
  rw [hu]
  omega

set_option maxRecDepth 100000 in
set_option maxHeartbeats 8000000 in
theorem walk (f : Nat → Int) (x : Bool) (t k n : Int) (bf : ∀ i, -9223372036854775808 ≤ f i ∧ f i ≤ 9223372036854775807) (bk : -9223372036854775808 ≤ k ∧ k ≤ 9223372036854775807) (bn : -9223372036854775808 ≤ n ∧ n ≤ 9223372036854775807) (w : World) :
    Calls Try.prog 8 #[.agg (mach f x t), .int .i64 k, .int .i64 n] w fun e w' => e = .returned (.bool true) ∧ Below w.heap.size w w' := by
  obtain ⟨N, hN1, hN2⟩ : ∃ N : Int, N = RowKit.wrap64 (n + 1) ∧ (n < 9223372036854775807 → N = n + 1) := ⟨_, rfl, fun h => by unfold RowKit.wrap64; omega⟩
  have F1 : Hid (stE f t k n = 0 → stE f t k N = 0 → stV f t k n ≤ stV f t k N) := Lib.hid (st_mono f t k n N hN2)
  have F2 : Hid (unE f t k n = 0 → unE f t k N = 0 → unV f t k n ≤ unV f t k N) := Lib.hid (un_mono f t k n N hN2)
  have hN3 : RowKit.wrap64 (n + 1) = N := hN1.symm
  clear hN1
  clear bf
  cases h : stOk f t k n
  · have HE : Hid (stE f t k n = 1) := Lib.hid (by unfold stE; rw [h]; rfl)
    clear h hN2
    go_enter Try.func8, Try.ntmps8
    go_upto_region 1 with (fail)
    refine gen_world (fun wx => Live wx w.heap.size (mach f x t) ∧ Below w.heap.size w wx) ⟨live_new _ _ rfl, by (repeat' (first | with_reducible exact Below.refl _ _ | with_reducible refine Below.drew ?_ | with_reducible refine below_drewN ?_ _ | with_reducible refine Below.alloc ?_ ?_ _ | with_reducible refine Below.setCell ?_ ?_ _ | with_reducible refine Below.trans ?_ (Below.mono (by with_reducible assumption) ?_) | (simp; done) | (simp; omega) | omega))⟩ ?_
    rintro wx ⟨L, hb⟩
    have zb := hb.size
    have lm0 := loadM_run (live_rangeAll L)
    go_wp2_with (first | (go_at_call 19; refine (kin_steps _ _ _ _ _ _).mono ?_; (try rw [HE.out]); rintro e w1 ⟨rfl, hb1⟩; have z1 := hb1.size; (try simp at z1); have L1a := live_below hb1 (b := w.heap.size) (by (repeat (first | with_reducible assumption | ((with_reducible apply live_new) <;> (first | with_reducible rfl | (focus (simp; done)))) | with_reducible apply live_alloc | with_reducible apply live_drew | with_reducible apply live_drewN | ((with_reducible apply live_set_other); (case hb => first | omega | (simp; done))) | with_reducible apply live_set_same | (focus (simp; done))))); obtain ⟨p1a, e1a, f1a⟩ := id L1a; clear e1a f1a; have lm1 := loadM_run (live_rangeAll L1a)) | (go_at_call 21; refine (kin_units _ _ _ _ _ _).mono ?_; rintro e w3 ⟨rfl, hb3⟩; have z3 := hb3.size; (try simp at z3); have L3a := live_below hb3 (b := w.heap.size) (by (repeat (first | with_reducible assumption | ((with_reducible apply live_new) <;> (first | with_reducible rfl | (focus (simp; done)))) | with_reducible apply live_alloc | with_reducible apply live_drew | with_reducible apply live_drewN | ((with_reducible apply live_set_other); (case hb => first | omega | (simp; done))) | with_reducible apply live_set_same | (focus (simp; done))))); obtain ⟨p3a, e3a, f3a⟩ := id L3a; clear e3a f3a; have lm3 := loadM_run (live_rangeAll L3a)) | (go_at_call 18; refine (law41_awake _).mono ?_; rintro e w9 ⟨rfl, hb9⟩; have z9 := hb9.size; (try simp at z9)))
    all_goals first | (exfalso; have g1 := F1.out; have g2 := F2.out; have g3 := HE.out; omega) | skip
    all_goals go_ret
    all_goals refine ⟨rfl, ?_⟩
    all_goals (refine Below.trans hb ?_; (repeat' (first | with_reducible exact Below.refl _ _ | with_reducible refine Below.drew ?_ | with_reducible refine below_drewN ?_ _ | with_reducible refine Below.alloc ?_ ?_ _ | with_reducible refine Below.setCell ?_ ?_ _ | with_reducible refine Below.trans ?_ (Below.mono (by with_reducible assumption) ?_) | (simp; done) | (simp; omega) | omega)))
  · have HE : Hid (stE f t k n = 0) := Lib.hid (by unfold stE; rw [h]; rfl)
    obtain ⟨k0, k1, n2, d0, d1, ⟨m0, m1⟩, r0, r1⟩ := near_facts f t k n h
    have e := hN2 (by omega)
    subst e
    clear hN2 hN3
    generalize hp : stV f t k n = p at *
    have HP := Lib.hid hp
    clear h hp
    have q0 : -4611686018427518976 ≤ p * f (7 * k.toNat + 1) := by omega
    have q1 : p * f (7 * k.toNat + 1) ≤ 4611686018427518976 := by omega
    rcases (by omega : k = 0 ∨ k = 1 ∨ k = 2 ∨ k = 3) with rfl | rfl | rfl | rfl
    all_goals
      simp only [Int.reduceToNat, Nat.mul_zero, Nat.mul_one, Nat.zero_add, Nat.reduceMul, Nat.reduceAdd] at d0 d1 m0 m1 r0 r1 q0 q1
      go_enter Try.func8, Try.ntmps8
      go_upto_region 1 with (fail)
      refine gen_world (fun wx => Live wx w.heap.size (mach f x t) ∧ Below w.heap.size w wx) ⟨live_new _ _ rfl, by (repeat' (first | with_reducible exact Below.refl _ _ | with_reducible refine Below.drew ?_ | with_reducible refine below_drewN ?_ _ | with_reducible refine Below.alloc ?_ ?_ _ | with_reducible refine Below.setCell ?_ ?_ _ | with_reducible refine Below.trans ?_ (Below.mono (by with_reducible assumption) ?_) | (simp; done) | (simp; omega) | omega))⟩ ?_
      rintro wx ⟨L, hb⟩
      have zb := hb.size
      have lm0 := loadM_run (live_rangeAll L)
      go_wp2_with (first | (go_at_call 19; refine (kin_steps _ _ _ _ _ _).mono ?_; (try rw [HE.out, HP.out]); rintro e w1 ⟨rfl, hb1⟩; have z1 := hb1.size; (try simp at z1); have L1a := live_below hb1 (b := w.heap.size) (by (repeat (first | with_reducible assumption | ((with_reducible apply live_new) <;> (first | with_reducible rfl | (focus (simp; done)))) | with_reducible apply live_alloc | with_reducible apply live_drew | with_reducible apply live_drewN | ((with_reducible apply live_set_other); (case hb => first | omega | (simp; done))) | with_reducible apply live_set_same | (focus (simp; done))))); obtain ⟨p1a, e1a, f1a⟩ := id L1a; clear e1a f1a; have lm1 := loadM_run (live_rangeAll L1a)) | (go_at_call 21; refine (kin_units _ _ _ _ _ _).mono ?_; rintro e w3 ⟨rfl, hb3⟩; have z3 := hb3.size; (try simp at z3); have L3a := live_below hb3 (b := w.heap.size) (by (repeat (first | with_reducible assumption | ((with_reducible apply live_new) <;> (first | with_reducible rfl | (focus (simp; done)))) | with_reducible apply live_alloc | with_reducible apply live_drew | with_reducible apply live_drewN | ((with_reducible apply live_set_other); (case hb => first | omega | (simp; done))) | with_reducible apply live_set_same | (focus (simp; done))))); obtain ⟨p3a, e3a, f3a⟩ := id L3a; clear e3a f3a; have lm3 := loadM_run (live_rangeAll L3a)) | (go_at_call 18; refine (law41_awake _).mono ?_; rintro e w9 ⟨rfl, hb9⟩; have z9 := hb9.size; (try simp at z9)))
      all_goals first | (exfalso; have g1 := F1.out; have g2 := F2.out; have g3 := HE.out; omega) | skip
    all_goals
      have cc : (w3.cell? ⟨w.heap.size, 0, none⟩ = some (.int .i64 (f 0)) ∧ w3.cell? ⟨w.heap.size, 1, none⟩ = some (.int .i64 (f 1))) ∧ (w3.cell? ⟨w.heap.size, 7, none⟩ = some (.int .i64 (f 7)) ∧ w3.cell? ⟨w.heap.size, 8, none⟩ = some (.int .i64 (f 8))) ∧ (w3.cell? ⟨w.heap.size, 14, none⟩ = some (.int .i64 (f 14)) ∧ w3.cell? ⟨w.heap.size, 15, none⟩ = some (.int .i64 (f 15))) ∧ (w3.cell? ⟨w.heap.size, 21, none⟩ = some (.int .i64 (f 21)) ∧ w3.cell? ⟨w.heap.size, 22, none⟩ = some (.int .i64 (f 22))) := ⟨⟨L3a.2.1 0, L3a.2.1 1⟩, ⟨L3a.2.1 7, L3a.2.1 8⟩, ⟨L3a.2.1 14, L3a.2.1 15⟩, ⟨L3a.2.1 21, L3a.2.1 22⟩⟩
      obtain ⟨⟨c0, c1⟩, ⟨c7, c8⟩, ⟨c14, c15⟩, c21, c22⟩ := cc
      go_quiet (fail)
      go_wp2_with (go_at_call 18; refine (law41_awake _).mono ?_; rintro e w9 ⟨rfl, hb9⟩; have z9 := hb9.size; (try simp at z9))
    all_goals go_ret
    all_goals refine ⟨rfl, ?_⟩
    all_goals (refine Below.trans hb ?_; (repeat' (first | with_reducible exact Below.refl _ _ | with_reducible refine Below.drew ?_ | with_reducible refine below_drewN ?_ _ | with_reducible refine Below.alloc ?_ ?_ _ | with_reducible refine Below.setCell ?_ ?_ _ | with_reducible refine Below.trans ?_ (Below.mono (by with_reducible assumption) ?_) | (simp; done) | (simp; omega) | omega)))

set_option maxRecDepth 100000 in
theorem lifted (os : Os) (started : os.Started) (H : Type) (enc : TypeId × Value → H) :
    ReturnsInHanded {} Try.checked os 8 .any (Rows.kinMonotoneSpec.pre6 enc Try.prog Try.f8 Rows.kinMonotoneRow.domain false) (Rows.kinMonotoneSpec.post enc Try.prog Try.f8 false true false false) := by
  refine returnsInHanded_of_change (C := Try.checked) own started (by kernel_rfl) Try.func8
    (ChangeSpec.witness6 (enc := enc) (C := Try.checked) false ⟨#[], #[.agg #[.int .i64 0, .int .i64 0, .int .i64 0, .int .i64 0, .int .i64 0, .int .i64 0, .int .i64 0, .int .i64 0, .int .i64 0, .int .i64 0, .int .i64 0, .int .i64 0, .int .i64 0, .int .i64 0, .int .i64 0, .int .i64 0, .int .i64 0, .int .i64 0, .int .i64 0, .int .i64 0, .int .i64 0, .int .i64 0, .int .i64 0, .int .i64 0, .int .i64 0, .int .i64 0, .int .i64 0, .int .i64 0, .bool false, .int .i64 0], .int .i64 0, .int .i64 0], []⟩ 8 (by kernel_rfl) (by kernel_rfl) (by kernel_rfl) (by kernel_rfl)) ?_
  intro W base args ds gs before hval0 hW _ _
  have hval : ∀ (j : Nat) t v, Try.f8.params[j]? = some t → args[j]? = some v → Value.okWide Try.prog W .any base t v := hval0
  have hW' := hW
  obtain ⟨p, q, hA0, hV, rfl, _, _⟩ := hW
  have hA : DataW.TrodAll enc Try.prog W 0 (fun _ => true) true Try.f8.params.toList args.toList ds p := hA0
  rw [Try.params8] at hA hval
  obtain ⟨v0, v1, v2, d0, d1, d2, p0, p1, p2, rfl, rfl, rfl, h0, h1, h2⟩ := trodAll_three hA
  clear hA hA0 hval0
  obtain ⟨f0, x0, t0, bf0, bt0, rfl⟩ := mach_open (hval 0 26 v0 rfl rfl)
  obtain ⟨a1, rfl, ba1⟩ := int_open Try.underlying3 (hval 1 3 v1 rfl rfl)
  obtain ⟨a2, rfl, ba2⟩ := int_open Try.underlying3 (hval 2 3 v2 rfl rfl)
  exact (walk f0 x0 t0 a1 a2 bf0 ba1 ba2 W).mono fun e W' ⟨he, hb⟩ => ⟨_, he, law_post laidOut (by kernel_rfl) rfl (fun _ => rfl) rfl Try.underlying4 hW' hb⟩

theorem holds : Rows.KinMonotoneSaid :=
  OpenClaim.holds_of_wide 8 Try.f8 rfl rfl rfl rfl rfl rfl rfl ⟨rfl, rfl, rfl, rfl, rfl⟩ rfl rfl rfl rfl rfl (by kernel_rfl) Try.func8 (by kernel_rfl)
    (of_decide_eq_true (by kernel_rfl)) (by unfold Func.isWrapper; rw [if_neg (of_decide_eq_false (by kernel_rfl))]; exact ⟨rfl, rfl⟩)
    (fun os started H enc _ => lifted os started H enc)

#print axioms holds
end Go.Proofs.Ythodfmmmddfkmaa.kinMonotone
