/- The helpers of the laws of chapter 43: valid, size, over; and the plain facts on the folds of limits -/
import Derived.Test.YthodfmmmddfkmaaKit6
import Derived.Test.YthodfmmmddfkmaaLimJunc
import Derived.Test.YthodfmmmddfkmaaNumMulDivR
namespace Go.Proofs.Ythodfmmmddfkmaa
open Go.RowKit
set_option linter.unusedVariables false

attribute [local go_sem] cell_past1 cell_past2 cell_past3 cell_past4 froz_past1 froz_past2 froz_past3
attribute [local go_sem ↓] loadM_in

set_option maxRecDepth 100000 in
set_option maxHeartbeats 4000000 in
theorem law43_valid (f : Nat → Int) (x : Bool) (t a b c d : Int) (w : World) :
    Calls Try.prog 34 #[.agg (mach f x t), .agg #[.int .i64 a, .int .i64 b, .int .i64 c, .int .i64 d]] w fun e w' => e = .returned (.bool (ddaValid a b c d && kinValid f t)) ∧ Below w.heap.size w w' := by
  have KM := Lib.hid (fun w => ref41_valid_m f x t w)
  have KD := Lib.hid (fun w => ref42_valid a b c d w)
  generalize kinValid f t = z at *
  generalize ddaValid a b c d = v at *
  cases z
  · go_enter Try.func34, Try.ntmps34
    go_upto_region 1 with (fail)
    refine gen_world (fun wx => Live wx w.heap.size (mach f x t) ∧ Live wx (w.heap.size + 1) #[.int .i64 a, .int .i64 b, .int .i64 c, .int .i64 d] ∧ Below w.heap.size w wx) ?_ ?_
    · exact ⟨live_alloc (live_new _ _ rfl) _, live_new _ _ (by simp), by (repeat' (first | with_reducible exact Below.refl _ _ | with_reducible refine Below.drew ?_ | with_reducible refine below_drewN ?_ _ | with_reducible refine Below.alloc ?_ ?_ _ | with_reducible refine Below.setCell ?_ ?_ _ | with_reducible refine Below.trans ?_ (Below.mono (by with_reducible assumption) ?_) | (simp; done) | (simp; omega) | omega))⟩
    rintro wx ⟨L, L1, hb⟩
    have p0 := L.1
    have p1 := L1.1
    have lm := loadM_run (live_rangeAll L)
    obtain ⟨q0, q1, q2, q3⟩ := live_four L1
    go_wp2_with (first | (go_at_call 15; (with_reducible refine (KM.out _).mono ?_); rintro e w1 ⟨rfl, hb1⟩; have z1 := hb1.size; (try simp at z1); have L1a := live_below hb1 (b := w.heap.size) (by (repeat (first | with_reducible assumption | ((with_reducible apply live_new) <;> (first | with_reducible rfl | (focus (simp; done)))) | with_reducible apply live_alloc | with_reducible apply live_drew | with_reducible apply live_drewN | ((with_reducible apply live_set_other); (case hb => first | omega | (simp; done))) | with_reducible apply live_set_same | (focus (simp; done))))); obtain ⟨p1a, e1a, f1a⟩ := id L1a; have L1b := live_below hb1 (b := w.heap.size + 1) (by (repeat (first | with_reducible assumption | ((with_reducible apply live_new) <;> (first | with_reducible rfl | (focus (simp; done)))) | with_reducible apply live_alloc | with_reducible apply live_drew | with_reducible apply live_drewN | ((with_reducible apply live_set_other); (case hb => first | omega | (simp; done))) | with_reducible apply live_set_same | (focus (simp; done))))); obtain ⟨p1b, e1b, f1b⟩ := id L1b; clear e1a; obtain ⟨q0, q1, q2, q3⟩ := live_four L1b) | (go_at_call 50; (with_reducible refine (KD.out _).mono ?_); rintro e w2 ⟨rfl, rfl⟩))
    go_ret
    refine ⟨ret_bool (by simp), ?_⟩
    (repeat' (first | with_reducible exact Below.refl _ _ | with_reducible refine Below.drew ?_ | with_reducible refine below_drewN ?_ _ | with_reducible refine Below.alloc ?_ ?_ _ | with_reducible refine Below.setCell ?_ ?_ _ | with_reducible refine Below.trans ?_ (Below.mono (by with_reducible assumption) ?_) | (simp; done) | (simp; omega) | omega))
  · go_enter Try.func34, Try.ntmps34
    go_upto_region 1 with (fail)
    refine gen_world (fun wx => Live wx w.heap.size (mach f x t) ∧ Live wx (w.heap.size + 1) #[.int .i64 a, .int .i64 b, .int .i64 c, .int .i64 d] ∧ Below w.heap.size w wx) ?_ ?_
    · exact ⟨live_alloc (live_new _ _ rfl) _, live_new _ _ (by simp), by (repeat' (first | with_reducible exact Below.refl _ _ | with_reducible refine Below.drew ?_ | with_reducible refine below_drewN ?_ _ | with_reducible refine Below.alloc ?_ ?_ _ | with_reducible refine Below.setCell ?_ ?_ _ | with_reducible refine Below.trans ?_ (Below.mono (by with_reducible assumption) ?_) | (simp; done) | (simp; omega) | omega))⟩
    rintro wx ⟨L, L1, hb⟩
    have p0 := L.1
    have p1 := L1.1
    have lm := loadM_run (live_rangeAll L)
    obtain ⟨q0, q1, q2, q3⟩ := live_four L1
    go_wp2_with (first | (go_at_call 15; (with_reducible refine (KM.out _).mono ?_); rintro e w1 ⟨rfl, hb1⟩; have z1 := hb1.size; (try simp at z1); have L1a := live_below hb1 (b := w.heap.size) (by (repeat (first | with_reducible assumption | ((with_reducible apply live_new) <;> (first | with_reducible rfl | (focus (simp; done)))) | with_reducible apply live_alloc | with_reducible apply live_drew | with_reducible apply live_drewN | ((with_reducible apply live_set_other); (case hb => first | omega | (simp; done))) | with_reducible apply live_set_same | (focus (simp; done))))); obtain ⟨p1a, e1a, f1a⟩ := id L1a; have L1b := live_below hb1 (b := w.heap.size + 1) (by (repeat (first | with_reducible assumption | ((with_reducible apply live_new) <;> (first | with_reducible rfl | (focus (simp; done)))) | with_reducible apply live_alloc | with_reducible apply live_drew | with_reducible apply live_drewN | ((with_reducible apply live_set_other); (case hb => first | omega | (simp; done))) | with_reducible apply live_set_same | (focus (simp; done))))); obtain ⟨p1b, e1b, f1b⟩ := id L1b; clear e1a; obtain ⟨q0, q1, q2, q3⟩ := live_four L1b) | (go_at_call 50; (with_reducible refine (KD.out _).mono ?_); rintro e w2 ⟨rfl, rfl⟩))
    go_ret
    refine ⟨ret_bool (by simp), ?_⟩
    (repeat' (first | with_reducible exact Below.refl _ _ | with_reducible refine Below.drew ?_ | with_reducible refine below_drewN ?_ _ | with_reducible refine Below.alloc ?_ ?_ _ | with_reducible refine Below.setCell ?_ ?_ _ | with_reducible refine Below.trans ?_ (Below.mono (by with_reducible assumption) ?_) | (simp; done) | (simp; omega) | omega))

theorem ref42_dom_b (a b c d : Int) (w : World) : Calls Try.prog 35 #[.agg #[.int .i64 a, .int .i64 b, .int .i64 c, .int .i64 d]] w fun e w' => e = .returned (.int .i64 (ddaDom a b c d)) ∧ Below w.heap.size w w' :=
  (ref42_dom a b c d w).mono fun e w' ⟨he, hw⟩ => ⟨he, by rw [← hw]; (repeat' (first | with_reducible exact Below.refl _ _ | with_reducible refine Below.drew ?_ | with_reducible refine below_drewN ?_ _ | with_reducible refine Below.alloc ?_ ?_ _ | with_reducible refine Below.setCell ?_ ?_ _ | with_reducible refine Below.trans ?_ (Below.mono (by with_reducible assumption) ?_) | (simp; done) | (simp; omega) | omega))⟩

def ovB (v a b c : Int) : Bool := decide (a ≠ 0) && decide (mdE b c a = 0 ∧ mdV b c a < v)
theorem ovB_pos (v a b c : Int) (ha : 0 ≤ a) (hb : 0 ≤ b) (hc : 0 ≤ c) (hv : v ≤ 9223372036854775807) : ovB v a b c = decide (a ≠ 0 ∧ b * c / a < v) := by
  unfold ovB
  by_cases h : a = 0
  · simp [h]
  · rcases md_pos b c a hb hc (by omega) with ⟨h1, h2, h3, h4⟩ | ⟨h1, h2⟩
    · rw [h1, h2]; rw [Bool.eq_iff_iff]; simp
    · rw [h1, Bool.eq_iff_iff]; simp; omega

set_option maxRecDepth 100000 in
set_option maxHeartbeats 4000000 in
theorem law43_over (v a b c : Int) (w : World) (ha : -9223372036854775808 ≤ a ∧ a ≤ 9223372036854775807) (hb : -9223372036854775808 ≤ b ∧ b ≤ 9223372036854775807) (hc : -9223372036854775808 ≤ c ∧ c ≤ 9223372036854775807) :
    Calls Try.prog 36 #[.int .i64 v, .int .i64 a, .int .i64 b, .int .i64 c] w fun e w' => e = .returned (.bool (ovB v a b c)) ∧ Below w.heap.size w w' := by
  have K1 := Lib.hid (fun w => ref01_muldiv b c a w hb hc ha)
  by_cases h0 : a = 0
  · have HR : Hid (ovB v a b c = false) := by show _ = _; unfold ovB; simp [h0]
    subst h0
    clear ha hb hc
    go_enter Try.func36, Try.ntmps36
    go_wp2
    go_ret
    exact ⟨ret_bool HR.out.symm, by (repeat' (first | with_reducible exact Below.refl _ _ | with_reducible refine Below.drew ?_ | with_reducible refine below_drewN ?_ _ | with_reducible refine Below.alloc ?_ ?_ _ | with_reducible refine Below.setCell ?_ ?_ _ | with_reducible refine Below.trans ?_ (Below.mono (by with_reducible assumption) ?_) | (simp; done) | (simp; omega) | omega))⟩
  · have hne : (a == 0) = false := beq_eq_false_iff_ne.2 h0
    have HR : Hid (ovB v a b c = decide (mdE b c a = 0 ∧ mdV b c a < v)) := by show _ = _; unfold ovB; simp [h0]
    generalize mdE b c a = E at *
    generalize mdV b c a = V at *
    clear ha hb hc h0
    by_cases h1 : E = 0
    · subst h1
      go_enter Try.func36, Try.ntmps36
      go_wp2_with (go_at_call 55; (with_reducible refine (K1.out _).mono ?_); rintro e w1 ⟨rfl, hb1⟩; have z1 := hb1.size; (try simp at z1))
      go_ret
      refine ⟨ret_bool ?_, ?_⟩
      · rw [HR.out, Bool.eq_iff_iff]; simp
      · (repeat' (first | with_reducible exact Below.refl _ _ | with_reducible refine Below.drew ?_ | with_reducible refine below_drewN ?_ _ | with_reducible refine Below.alloc ?_ ?_ _ | with_reducible refine Below.setCell ?_ ?_ _ | with_reducible refine Below.trans ?_ (Below.mono (by with_reducible assumption) ?_) | (simp; done) | (simp; omega) | omega))
    · have h2 : (E == 0) = false := beq_eq_false_iff_ne.2 h1
      go_enter Try.func36, Try.ntmps36
      go_wp2_with (go_at_call 55; (with_reducible refine (K1.out _).mono ?_); rintro e w1 ⟨rfl, hb1⟩; have z1 := hb1.size; (try simp at z1))
      go_ret
      refine ⟨ret_bool ?_, ?_⟩
      · rw [HR.out, Bool.eq_iff_iff]; simp [h1]
      · (repeat' (first | with_reducible exact Below.refl _ _ | with_reducible refine Below.drew ?_ | with_reducible refine below_drewN ?_ _ | with_reducible refine Below.alloc ?_ ?_ _ | with_reducible refine Below.setCell ?_ ?_ _ | with_reducible refine Below.trans ?_ (Below.mono (by with_reducible assumption) ?_) | (simp; done) | (simp; omega) | omega))

section
open Go.ChangeShapes Go.WideShapes
variable {H : Type} {enc : TypeId × Value → H} {P : Program} {w : World} {base : Nat} {spare : Nat → Bool} {held : Bool}
theorem trodAll_five {t t1 t2 t3 t4 : TypeId} {args : Array Value} {ds : List (DataW H)} {ps : List MemPlace} (h : DataW.TrodAll enc P w base spare held [t, t1, t2, t3, t4] args.toList ds ps) :
    ∃ v v1 v2 v3 v4 d d1 d2 d3 d4 p p1 p2 p3 p4, args = #[v, v1, v2, v3, v4] ∧ ds = [d, d1, d2, d3, d4] ∧ ps = p ++ p1 ++ p2 ++ p3 ++ p4 ∧ DataW.Trod enc P w base spare held t v d p ∧ DataW.Trod enc P w base spare held t1 v1 d1 p1 ∧ DataW.Trod enc P w base spare held t2 v2 d2 p2 ∧ DataW.Trod enc P w base spare held t3 v3 d3 p3 ∧ DataW.Trod enc P w base spare held t4 v4 d4 p4 := by
  obtain ⟨v, vs, d, ds0, p, q, hargs, rfl, rfl, hd, hrest⟩ := trodAll_cons h
  obtain ⟨v1, vs1, d1, ds1, p1, q1, rfl, rfl, rfl, hd1, hrest1⟩ := trodAll_cons hrest
  obtain ⟨v2, vs2, d2, ds2, p2, q2, rfl, rfl, rfl, hd2, hrest2⟩ := trodAll_cons hrest1
  obtain ⟨v3, vs3, d3, ds3, p3, q3, rfl, rfl, rfl, hd3, hrest3⟩ := trodAll_cons hrest2
  obtain ⟨v4, vs4, d4, ds4, p4, q4, rfl, rfl, rfl, hd4, hrest4⟩ := trodAll_cons hrest3
  obtain ⟨rfl, rfl, rfl⟩ := trodAll_nil hrest4
  exact ⟨v, v1, v2, v3, v4, d, d1, d2, d3, d4, p, p1, p2, p3, p4, by cases args; simp_all, rfl, by simp, hd, hd1, hd2, hd3, hd4⟩
end

/- plain facts -/
theorem lim_div (m p n c : Int) (hp : 0 ≤ p) (hn : 0 ≤ n) (hc : 0 < c) (v : Int) (hv : v ≤ lesser m p n c) : v ≤ p * n / c := by unfold lesser at hv; omega
theorem limK_mono (o : Nat) (f : Nat → Int) (n cap a b c d : Int) : ∀ j k, k ≤ j → limK o f n cap a b c d j ≤ limK o f n cap a b c d k
  | 0, k, h => by have : k = 0 := by omega
                  subst this; exact Int.le_refl _
  | j + 1, k, h => by
    by_cases e : k = j + 1
    · subst e; exact Int.le_refl _
    · have h1 := limK_mono o f n cap a b c d j k (by omega)
      have h2 : limK o f n cap a b c d (j + 1) ≤ limK o f n cap a b c d j := by
        show lim1 _ _ _ _ ≤ _
        unfold lim1 lesser
        split <;> omega
      omega
theorem limK_step (o : Nat) (f : Nat → Int) (n cap a b c d : Int) (k : Nat) (hk : k < 4) (hc : limC a b c d k ≠ 0) : limK o f n cap a b c d 4 ≤ f (7 * k + o) * n / ab (limC a b c d k) := by
  have h1 := limK_mono o f n cap a b c d 4 (k + 1) (by omega)
  have h2 : limK o f n cap a b c d (k + 1) ≤ f (7 * k + o) * n / ab (limC a b c d k) := by
    show lim1 _ _ _ _ ≤ _
    unfold lim1 lesser
    rw [if_neg hc]
    omega
  omega
theorem limK_edge (o : Nat) (f : Nat → Int) (n cap a b c d : Int) : ∀ j, limK o f n cap a b c d j = cap ∨ ∃ k, k < j ∧ limC a b c d k ≠ 0 ∧ limK o f n cap a b c d j = f (7 * k + o) * n / ab (limC a b c d k)
  | 0 => Or.inl rfl
  | j + 1 => by
    have ih := limK_edge o f n cap a b c d j
    have e : limK o f n cap a b c d (j + 1) = lim1 (limK o f n cap a b c d j) (f (7 * j + o)) n (limC a b c d j) := rfl
    rw [e]
    unfold lim1
    by_cases h0 : limC a b c d j = 0
    · rw [if_pos h0]
      rcases ih with h | ⟨k, h1, h2, h3⟩
      · exact Or.inl h
      · exact Or.inr ⟨k, by omega, h2, h3⟩
    · rw [if_neg h0]
      unfold lesser
      by_cases hl : limK o f n cap a b c d j ≤ f (7 * j + o) * n / ab (limC a b c d j)
      · rw [show min (limK o f n cap a b c d j) (f (7 * j + o) * n / ab (limC a b c d j)) = limK o f n cap a b c d j by omega]
        rcases ih with h | ⟨k, h1, h2, h3⟩
        · exact Or.inl h
        · exact Or.inr ⟨k, by omega, h2, h3⟩
      · exact Or.inr ⟨j, by omega, h0, by omega⟩

theorem junK_down (f : Nat → Int) (n k a b c d a' b' c' d' : Int) (j : Nat) : junK f n k a b c d a' b' c' d' (j + 1) ≤ junK f n k a b c d a' b' c' d' j := by
  show jun1 _ _ _ _ _ _ ≤ _
  unfold jun1 lesser
  split <;> omega
theorem junK_mono (f : Nat → Int) (n k a b c d a' b' c' d' : Int) : ∀ j i, i ≤ j → junK f n k a b c d a' b' c' d' j ≤ junK f n k a b c d a' b' c' d' i
  | 0, i, h => by have : i = 0 := by omega
                  subst this; exact Int.le_refl _
  | j + 1, i, h => by
    by_cases e : i = j + 1
    · subst e; exact Int.le_refl _
    · have h1 := junK_mono f n k a b c d a' b' c' d' j i (by omega)
      have h2 := junK_down f n k a b c d a' b' c' d' j
      omega
def junD (n k a b c d a' b' c' d' : Int) (i : Nat) : Int := ab (limC a b c d i * k - limC a' b' c' d' i * n)
theorem junK_step (f : Nat → Int) (n k a b c d a' b' c' d' : Int) (i : Nat) (hi : i < 4) (h0 : junD n k a b c d a' b' c' d' i ≠ 0) : junK f n k a b c d a' b' c' d' 4 ≤ f (7 * i + 4) * (n * k) / junD n k a b c d a' b' c' d' i := by
  have h1 := junK_mono f n k a b c d a' b' c' d' 4 (i + 1) (by omega)
  have h2 : junK f n k a b c d a' b' c' d' (i + 1) ≤ f (7 * i + 4) * n * k / junD n k a b c d a' b' c' d' i := by
    show jun1 _ _ _ _ _ _ ≤ _
    unfold jun1 lesser
    unfold junD at h0 ⊢
    rw [if_neg h0]
    omega
  rw [Int.mul_assoc] at h2
  omega
theorem junK_edge (f : Nat → Int) (n k a b c d a' b' c' d' : Int) : ∀ j, junK f n k a b c d a' b' c' d' j = 1048576 ∨ ∃ i, i < j ∧ junD n k a b c d a' b' c' d' i ≠ 0 ∧ junK f n k a b c d a' b' c' d' j = f (7 * i + 4) * (n * k) / junD n k a b c d a' b' c' d' i
  | 0 => Or.inl rfl
  | j + 1 => by
    have ih := junK_edge f n k a b c d a' b' c' d' j
    have e : junK f n k a b c d a' b' c' d' (j + 1) = jun1 (junK f n k a b c d a' b' c' d' j) (f (7 * j + 4)) n k (limC a b c d j) (limC a' b' c' d' j) := rfl
    rw [e]
    have e2 : f (7 * j + 4) * (n * k) = f (7 * j + 4) * n * k := (Int.mul_assoc _ _ _).symm
    unfold jun1
    by_cases h0 : ab (limC a b c d j * k - limC a' b' c' d' j * n) = 0
    · rw [if_pos h0]
      rcases ih with h | ⟨i, h1, h2, h3⟩
      · exact Or.inl h
      · exact Or.inr ⟨i, by omega, h2, h3⟩
    · rw [if_neg h0]
      unfold lesser
      by_cases hl : junK f n k a b c d a' b' c' d' j ≤ f (7 * j + 4) * n * k / ab (limC a b c d j * k - limC a' b' c' d' j * n)
      · rw [show min (junK f n k a b c d a' b' c' d' j) (f (7 * j + 4) * n * k / ab (limC a b c d j * k - limC a' b' c' d' j * n)) = junK f n k a b c d a' b' c' d' j by omega]
        rcases ih with h | ⟨i, h1, h2, h3⟩
        · exact Or.inl h
        · exact Or.inr ⟨i, by omega, h2, h3⟩
      · refine Or.inr ⟨j, by omega, h0, ?_⟩
        rw [e2]
        unfold junD
        omega
end Go.Proofs.Ythodfmmmddfkmaa
