/- KinInverse: positions are found again exactly, for all machines and positions for which Motors returns no error -/
import Derived.Handy
import Derived.Laws.StructEq
import Derived.Test.YthodfmmmddfkmaaKinPlaces
import Derived.Test.YthodfmmmddfkmaaKinMotors
import Derived.Test.YthodfmmmddfkmaaKinPos
import Derived.Test.YthodfmmmddfkmaaL41Awake
namespace Go.Proofs.Ythodfmmmddfkmaa.kinInverse
open Go.ChangeShapes Go.WideShapes Go.ChangeAt Go.RowKit
set_option linter.unusedVariables false

attribute [local go_sem] cell_past1 cell_past2 cell_past3 cell_past4 froz_past1 froz_past2 froz_past3
attribute [local go_sem ↓] loadM_in

theorem rnd_far (a b : Int) (hb : 1 ≤ b) : 2 * (rnd a b * b - a) ≤ b ∧ -b < 2 * (rnd a b * b - a) := by
  unfold rnd
  have h1 := Int.mul_ediv_add_emod (2 * a + b) (2 * b)
  have h2 := Int.emod_nonneg (2 * a + b) (show 2 * b ≠ 0 by omega)
  have h3 := Int.emod_lt_of_pos (2 * a + b) (show 0 < 2 * b by omega)
  generalize (2 * a + b) / (2 * b) = q at *
  have e : 2 * b * q = 2 * (q * b) := by rw [Int.mul_assoc, Int.mul_comm b q]
  omega
/-- With at least one step per unit, rounding there and back changes nothing. -/
theorem rnd_back (p n d : Int) (hd : 1 ≤ d) (hn : d ≤ n) : rnd (rnd (p * n) d * d) n = p := by
  have hf := rnd_far (p * n) d hd
  generalize rnd (p * n) d = s at *
  have hne : 2 * (s * d - p * n) ≠ n := fun h => by
    have e : d = n := by omega
    subst e
    have h0 : (2 * (s - p) - 1) * d = 0 := by
      rw [Int.sub_mul, Int.mul_assoc, Int.sub_mul]; omega
    rcases Int.mul_eq_zero.1 h0 with h1 | h1 <;> omega
  unfold rnd
  have e : 2 * (s * d) + n = (2 * (s * d - p * n) + n) + p * (2 * n) := by rw [Int.mul_left_comm p 2 n]; omega
  rw [e, Int.add_mul_ediv_right _ _ (by omega), Int.ediv_eq_zero_of_lt (by omega) (by omega)]
  omega
theorem un_st (f : Nat → Int) (t k p : Int) (h : stOk f t k p = true) : unOk f t k (stV f t k p) = true ∧ unV f t k (stV f t k p) = p := by
  have hi := stV_in f t k p
  have h2 : kinValid f t = true ∧ 0 ≤ k ∧ k < 4 ∧ -1073741824 ≤ p ∧ p ≤ 1073741824 := by unfold stOk at h; simpa using h
  obtain ⟨hv, k0, k1, p0, p1⟩ := h2
  have ha := ax_ok f k.toNat (kin_axes f t hv k.toNat (by omega))
  have ho : unOk f t k (stV f t k p) = true := by
    unfold unOk
    rw [hv]
    simp
    omega
  refine ⟨ho, ?_⟩
  unfold unV
  rw [if_pos ho]
  have e : stV f t k p = rnd (p * f (7 * k.toNat)) (f (7 * k.toNat + 1)) := by unfold stV; rw [if_pos h]
  rw [e]
  exact rnd_back _ _ _ (by omega) (by omega)
theorem inv_facts (f : Nat → Int) (x : Bool) (t a b c e : Int) (h : moOk f t a b c e = true) :
    poE f x t (moV f x t a b c e 0) (moV f x t a b c e 1) (moV f x t a b c e 2) (moV f x t a b c e 3) = 0 ∧
    poV f x t (moV f x t a b c e 0) (moV f x t a b c e 1) (moV f x t a b c e 2) (moV f x t a b c e 3) 0 = a ∧
    poV f x t (moV f x t a b c e 0) (moV f x t a b c e 1) (moV f x t a b c e 2) (moV f x t a b c e 3) 1 = b ∧
    poV f x t (moV f x t a b c e 0) (moV f x t a b c e 1) (moV f x t a b c e 2) (moV f x t a b c e 3) 2 = c ∧
    poV f x t (moV f x t a b c e 0) (moV f x t a b c e 1) (moV f x t a b c e 2) (moV f x t a b c e 3) 3 = e := by
  have h' := h
  unfold moOk at h'
  simp only [Bool.and_eq_true] at h'
  obtain ⟨ha, hb, hc, he⟩ := h'
  have ua := un_st f t 0 a ha
  have ub := un_st f t 1 b hb
  have uc := un_st f t 2 c hc
  have ue := un_st f t 3 e he
  have ia := stV_in f t 0 a
  have ib := stV_in f t 1 b
  have ic := stV_in f t 2 c
  have ie := stV_in f t 3 e
  have m0 : moV f x t a b c e 0 = if x then stV f t 0 a + stV f t 1 b else stV f t 0 a := by unfold moV; rw [if_pos h, if_pos rfl]
  have m1 : moV f x t a b c e 1 = if x then stV f t 0 a - stV f t 1 b else stV f t 1 b := by unfold moV; rw [if_pos h, if_neg (by decide), if_pos rfl]
  have m2 : moV f x t a b c e 2 = stV f t 2 c := by unfold moV; rw [if_pos h, if_neg (by decide), if_neg (by decide), if_pos rfl]
  have m3 : moV f x t a b c e 3 = stV f t 3 e := by unfold moV; rw [if_pos h, if_neg (by decide), if_neg (by decide), if_neg (by decide)]
  rw [m0, m1, m2, m3]
  generalize stV f t 0 a = sa at *
  generalize stV f t 1 b = sb at *
  generalize stV f t 2 c = sc at *
  generalize stV f t 3 e = se at *
  have q0 : poQ0 x (if x then sa + sb else sa) (if x then sa - sb else sb) = sa := by cases x <;> simp [poQ0] <;> omega
  have q1 : poQ1 x (if x then sa + sb else sa) (if x then sa - sb else sb) = sb := by cases x <;> simp [poQ1] <;> omega
  have ho : poOk f x t (if x then sa + sb else sa) (if x then sa - sb else sb) sc se = true := by
    unfold poOk
    rw [q0, q1, ua.1, ub.1, uc.1, ue.1]
    have hf : poFar (if x then sa + sb else sa) (if x then sa - sb else sb) sc se = true := by
      unfold poFar witB
      cases x <;> simp <;> omega
    rw [hf]; rfl
  unfold poE poV
  rw [if_pos ho, if_pos ho, if_pos ho, if_pos ho, if_pos ho, q0, q1]
  refine ⟨rfl, ?_, ?_, ?_, ?_⟩
  · rw [if_pos rfl]; exact ua.2
  · rw [if_neg (by decide), if_pos rfl]; exact ub.2
  · rw [if_neg (by decide), if_neg (by decide), if_pos rfl]; exact uc.2
  · rw [if_neg (by decide), if_neg (by decide), if_neg (by decide)]; exact ue.2

set_option maxRecDepth 100000 in
set_option maxHeartbeats 4000000 in
theorem walk (f : Nat → Int) (x : Bool) (t : Int) (g : Nat → Int) (w : World) :
    Calls Try.prog 6 #[.agg (placeA f x t g)] w fun e w' => e = .returned (.bool true) ∧ Below w.heap.size w w' := by
  cases h : moOk f t (g 0) (g 1) (g 2) (g 3)
  · have HE : Hid (moE f t (g 0) (g 1) (g 2) (g 3) = 1) := Lib.hid (by unfold moE; rw [h]; rfl)
    clear h
    go_enter Try.func6, Try.ntmps6
    go_upto_region 1 with (fail)
    refine gen_world (fun wx => Live wx w.heap.size (placeA f x t g) ∧ Below w.heap.size w wx) ⟨live_new _ _ rfl, by (repeat' (first | with_reducible exact Below.refl _ _ | with_reducible refine Below.drew ?_ | with_reducible refine below_drewN ?_ _ | with_reducible refine Below.alloc ?_ ?_ _ | with_reducible refine Below.setCell ?_ ?_ _ | with_reducible refine Below.trans ?_ (Below.mono (by with_reducible assumption) ?_) | (simp; done) | (simp; omega) | omega))⟩ ?_
    rintro wx ⟨L, hb⟩
    have zb := hb.size
    have lm := loadM_run (place_range f x t g L)
    obtain ⟨c0, c1, c2, c3, c4, c5, c6, c7⟩ := place_tail L
    go_wp2_with (first | (go_at_call 23; refine (kin_motors _ _ _ _ _ _ _ _).mono ?_; rw [HE.out]; rintro e w1 ⟨rfl, hb1⟩; have z1 := hb1.size; (try simp at z1)) | (go_at_call 18; refine (law41_awake _).mono ?_; rintro e w9 ⟨rfl, hb9⟩; have z9 := hb9.size; (try simp at z9)))
    all_goals go_ret
    all_goals refine ⟨rfl, ?_⟩
    all_goals (refine Below.trans hb ?_; (repeat' (first | with_reducible exact Below.refl _ _ | with_reducible refine Below.drew ?_ | with_reducible refine below_drewN ?_ _ | with_reducible refine Below.alloc ?_ ?_ _ | with_reducible refine Below.setCell ?_ ?_ _ | with_reducible refine Below.trans ?_ (Below.mono (by with_reducible assumption) ?_) | (simp; done) | (simp; omega) | omega)))
  · have HE : Hid (moE f t (g 0) (g 1) (g 2) (g 3) = 0) := Lib.hid (by unfold moE; rw [h]; rfl)
    obtain ⟨i0, i1, i2, i3, i4⟩ := inv_facts f x t _ _ _ _ h
    clear h
    generalize hm0 : moV f x t (g 0) (g 1) (g 2) (g 3) 0 = m0 at *
    generalize hm1 : moV f x t (g 0) (g 1) (g 2) (g 3) 1 = m1 at *
    generalize hm2 : moV f x t (g 0) (g 1) (g 2) (g 3) 2 = m2 at *
    generalize hm3 : moV f x t (g 0) (g 1) (g 2) (g 3) 3 = m3 at *
    have H0 := Lib.hid hm0
    have H1 := Lib.hid hm1
    have H2 := Lib.hid hm2
    have H3 := Lib.hid hm3
    have I0 := Lib.hid i0
    have I1 := Lib.hid i1
    have I2 := Lib.hid i2
    have I3 := Lib.hid i3
    have I4 := Lib.hid i4
    clear hm0 hm1 hm2 hm3 i0 i1 i2 i3 i4
    go_enter Try.func6, Try.ntmps6
    go_upto_region 1 with (fail)
    refine gen_world (fun wx => Live wx w.heap.size (placeA f x t g) ∧ Below w.heap.size w wx) ⟨live_new _ _ rfl, by (repeat' (first | with_reducible exact Below.refl _ _ | with_reducible refine Below.drew ?_ | with_reducible refine below_drewN ?_ _ | with_reducible refine Below.alloc ?_ ?_ _ | with_reducible refine Below.setCell ?_ ?_ _ | with_reducible refine Below.trans ?_ (Below.mono (by with_reducible assumption) ?_) | (simp; done) | (simp; omega) | omega))⟩ ?_
    rintro wx ⟨L, hb⟩
    have lm := loadM_run (place_range f x t g L)
    obtain ⟨c0, c1, c2, c3, c4, c5, c6, c7⟩ := place_tail L
    go_upto_region 2 with ((go_at_call 23; refine (kin_motors _ _ _ _ _ _ _ _).mono ?_; rw [HE.out, H0.out, H1.out, H2.out, H3.out]; rintro e w1 ⟨rfl, hb1⟩))
    have pw := hb.size
    have z1 := hb1.size
    refine gen_world (fun wx => Live wx w.heap.size (placeA f x t g) ∧ Live wx w1.heap.size #[.int .i64 m0, .int .i64 m1, .int .i64 m2, .int .i64 m3] ∧ Below w.heap.size w wx) ⟨live_alloc (live_below hb1 L) _, live_new _ _ rfl, (hb.trans (hb1.mono pw)).alloc (by omega) _⟩ ?_
    have hA : w.heap.size < w1.heap.size := by have := L.1; omega
    clear L hb lm c0 c1 c2 c3 c4 c5 c6 c7 hb1 pw z1
    generalize w1.heap.size = A at hA ⊢
    rintro wx ⟨L, LA, hb⟩
    have lm := loadM_run (place_range f x t g L)
    obtain ⟨a0, a1, a2, a3⟩ := live_four LA
    go_upto_region 5 with ((go_at_call 25; refine (kin_position _ _ _ _ _ _ _ _).mono ?_; rw [I0.out, I1.out, I2.out, I3.out, I4.out]; rintro e w1 ⟨rfl, hb1⟩))
    have pw := hb.size
    have z1 := hb1.size
    refine gen_world (fun wx => Live wx w.heap.size (placeA f x t g) ∧ Live wx w1.heap.size #[.int .i64 (g 0), .int .i64 (g 1), .int .i64 (g 2)] ∧ Below w.heap.size w wx) ⟨live_alloc (live_below hb1 L) _, live_new _ _ rfl, (hb.trans (hb1.mono pw)).alloc (by omega) _⟩ ?_
    have hB : A < w1.heap.size := by have := LA.1; omega
    clear L LA hb lm a0 a1 a2 a3 hb1 pw z1
    generalize w1.heap.size = B at hB ⊢
    rintro wx ⟨L, LB, hb⟩
    obtain ⟨c0, c1, c2, c3, c4, c5, c6, c7⟩ := place_tail L
    obtain ⟨b0, b1, b2⟩ := live_three LB
    have pw := hb.size
    clear L LB
    go_wp2_with (go_at_call 18; refine (law41_awake _).mono ?_; rintro e w9 ⟨rfl, hb9⟩; have z9 := hb9.size; (try simp at z9))
    all_goals go_ret
    all_goals refine ⟨rfl, ?_⟩
    all_goals (refine Below.trans hb ?_; (repeat' (first | with_reducible exact Below.refl _ _ | with_reducible refine Below.drew ?_ | with_reducible refine below_drewN ?_ _ | with_reducible refine Below.alloc ?_ ?_ _ | with_reducible refine Below.setCell ?_ ?_ _ | with_reducible refine Below.trans ?_ (Below.mono (by with_reducible assumption) ?_) | (simp; done) | (simp; omega) | omega)))

set_option maxRecDepth 100000 in
theorem lifted (os : Os) (started : os.Started) (H : Type) (enc : TypeId × Value → H) :
    ReturnsInHanded {} Try.checked os 6 .any (Rows.kinInverseSpec.pre6 enc Try.prog Try.f6 Rows.kinInverseRow.domain false) (Rows.kinInverseSpec.post enc Try.prog Try.f6 false true false false) := by
  refine returnsInHanded_of_change (C := Try.checked) own started (by kernel_rfl) Try.func6
    (ChangeSpec.witness6 (enc := enc) (C := Try.checked) false ⟨#[], #[.agg #[.int .i64 0, .int .i64 0, .int .i64 0, .int .i64 0, .int .i64 0, .int .i64 0, .int .i64 0, .int .i64 0, .int .i64 0, .int .i64 0, .int .i64 0, .int .i64 0, .int .i64 0, .int .i64 0, .int .i64 0, .int .i64 0, .int .i64 0, .int .i64 0, .int .i64 0, .int .i64 0, .int .i64 0, .int .i64 0, .int .i64 0, .int .i64 0, .int .i64 0, .int .i64 0, .int .i64 0, .int .i64 0, .bool false, .int .i64 0, .int .i64 0, .int .i64 0, .int .i64 0, .int .i64 0, .int .i64 0, .int .i64 0, .int .i64 0, .int .i64 0]], []⟩ 8 (by kernel_rfl) (by kernel_rfl) (by kernel_rfl) (by kernel_rfl)) ?_
  intro W base args ds gs before hval0 hW _ _
  have hval : ∀ (j : Nat) t v, Try.f6.params[j]? = some t → args[j]? = some v → Value.okWide Try.prog W .any base t v := hval0
  have hW' := hW
  obtain ⟨p, q, hA0, hV, rfl, _, _⟩ := hW
  have hA : DataW.TrodAll enc Try.prog W 0 (fun _ => true) true Try.f6.params.toList args.toList ds p := hA0
  rw [Try.params6] at hA hval
  obtain ⟨v0, d0, rfl, rfl, h0⟩ := trodAll_one hA
  clear hA hA0 hval0
  obtain ⟨f0, x0, t0, g0, bf0, bt0, bg0, rfl⟩ := place_open (hval 0 38 v0 rfl rfl)
  exact (walk f0 x0 t0 g0 W).mono fun e W' ⟨he, hb⟩ => ⟨_, he, law_post laidOut (by kernel_rfl) rfl (fun _ => rfl) rfl Try.underlying4 hW' hb⟩

theorem holds : Rows.KinInverseSaid :=
  OpenClaim.holds_of_wide 6 Try.f6 rfl rfl rfl rfl rfl rfl rfl ⟨rfl, rfl, rfl, rfl, rfl⟩ rfl rfl rfl rfl rfl (by kernel_rfl) Try.func6 (by kernel_rfl)
    (of_decide_eq_true (by kernel_rfl)) (by unfold Func.isWrapper; rw [if_neg (of_decide_eq_false (by kernel_rfl))]; exact ⟨rfl, rfl⟩)
    (fun os started H enc _ => lifted os started H enc)

#print axioms holds
end Go.Proofs.Ythodfmmmddfkmaa.kinInverse
