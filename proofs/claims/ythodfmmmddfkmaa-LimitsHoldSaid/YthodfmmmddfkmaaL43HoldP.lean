/- LimitsHold: the plain facts -/
import Derived.Test.YthodfmmmddfkmaaL43Law
namespace Go.Proofs.Ythodfmmmddfkmaa
open Go.RowKit
set_option linter.unusedVariables false

def moB (M0 : Bool) (v : Int) (f : Nat → Int) (n a b c d : Int) : Nat → Bool
  | 0 => M0
  | j + 1 => moB M0 v f n a b c d j || ovB (v + 1) (ab (limC a b c d j)) (f (7 * j + 2)) n
def edB (u : Int) (f : Nat → Int) (n k a b c d a' b' c' d' : Int) : Nat → Bool
  | 0 => u == 1048576
  | j + 1 => edB u f n k a b c d a' b' c' d' j || ovB (u + 1) (junD n k a b c d a' b' c' d' j) (f (7 * j + 4)) (n * k)
def mo0 (v len feed n : Int) : Bool := v == 1048576 || (decide (0 < len) && decide (0 < feed) && (v == 1 || ovB (v + 1) len feed n))
theorem moB_of (M0 : Bool) (v : Int) (f : Nat → Int) (n a b c d : Int) (k : Nat) (h : ovB (v + 1) (ab (limC a b c d k)) (f (7 * k + 2)) n = true) : ∀ j, k < j → moB M0 v f n a b c d j = true
  | 0, hj => absurd hj (by omega)
  | j + 1, hj => by
    show (_ || _) = true
    by_cases e : k = j
    · subst e; rw [h]; simp
    · rw [moB_of M0 v f n a b c d k h j (by omega)]; simp
theorem moB_first (v : Int) (f : Nat → Int) (n a b c d : Int) : ∀ j, moB true v f n a b c d j = true
  | 0 => rfl
  | j + 1 => by show (_ || _) = true; rw [moB_first v f n a b c d j]; rfl
theorem edB_of (u : Int) (f : Nat → Int) (n k a b c d a' b' c' d' : Int) (i : Nat) (h : ovB (u + 1) (junD n k a b c d a' b' c' d' i) (f (7 * i + 4)) (n * k) = true) : ∀ j, i < j → edB u f n k a b c d a' b' c' d' j = true
  | 0, hj => absurd hj (by omega)
  | j + 1, hj => by
    show (_ || _) = true
    by_cases e : i = j
    · subst e; rw [h]; simp
    · rw [edB_of u f n k a b c d a' b' c' d' i h j (by omega)]; simp
theorem edB_first (f : Nat → Int) (n k a b c d a' b' c' d' : Int) : ∀ j, edB 1048576 f n k a b c d a' b' c' d' j = true
  | 0 => rfl
  | j + 1 => by show (_ || _) = true; rw [edB_first f n k a b c d a' b' c' d' j]; rfl

theorem ab_range (a b c d : Int) (hv : ddaValid a b c d = true) (k : Nat) : 0 ≤ ab (limC a b c d k) ∧ ab (limC a b c d k) ≤ 16777216 := by
  simp [ddaValid] at hv
  match k with
  | 0 => show 0 ≤ ab a ∧ ab a ≤ _; unfold ab; omega
  | 1 => show 0 ≤ ab b ∧ ab b ≤ _; unfold ab; omega
  | 2 => show 0 ≤ ab c ∧ ab c ≤ _; unfold ab; omega
  | _ + 3 => show 0 ≤ ab d ∧ ab d ≤ _; unfold ab; omega
theorem limC_range (a b c d : Int) (hv : ddaValid a b c d = true) (k : Nat) : -16777216 ≤ limC a b c d k ∧ limC a b c d k ≤ 16777216 := by
  have := ab_range a b c d hv k
  unfold ab at this
  omega
theorem junD_in (a b c d a' b' c' d' : Int) (hv : ddaValid a b c d = true) (hv' : ddaValid a' b' c' d' = true) (i : Nat) : 0 ≤ junD (ddaDom a b c d) (ddaDom a' b' c' d') a b c d a' b' c' d' i ∧ junD (ddaDom a b c d) (ddaDom a' b' c' d') a b c d a' b' c' d' i ≤ 562949953421312 := by
  have hn := ddaDom_in a b c d
  have hk := ddaDom_in a' b' c' d'
  have := jun_bd (limC a b c d i) (limC a' b' c' d' i) _ _ (limC_range a b c d hv i) (limC_range a' b' c' d' hv' i) hn hk
  unfold junD ab
  omega
theorem nk_in (n k : Int) (hn : 0 ≤ n ∧ n ≤ 16777216) (hk : 0 ≤ k ∧ k ≤ 16777216) : 0 ≤ n * k ∧ n * k ≤ 281474976710656 := by
  have := Int.mul_nonneg hn.1 hk.1
  have := mul_bd n k 16777216 16777216 (by omega) hn.2 hk.1 hk.2 (by decide)
  omega

theorem spdV_le (v n len feed : Int) : spdV v n len feed ≤ v := by unfold spdV; split <;> omega

theorem ov_false (v a b c : Int) (ha : 0 ≤ a) (hb : 0 ≤ b) (hc : 0 ≤ c) (hv : v ≤ 9223372036854775807) (h : a ≠ 0 → v ≤ b * c / a) : ovB v a b c = false := by
  rw [ovB_pos v a b c ha hb hc hv]
  simp only [decide_eq_false_iff_not]
  intro ⟨h1, h2⟩
  have := h h1
  omega
theorem ov_true (v a b c : Int) (ha : 0 < a) (hb : 0 ≤ b) (hc : 0 ≤ c) (hv : v < 9223372036854775807) (h : v = b * c / a) : ovB (v + 1) a b c = true := by
  rw [ovB_pos (v + 1) a b c (by omega) hb hc (by omega)]
  simp only [decide_eq_true_eq]
  exact ⟨by omega, by omega⟩
theorem ab_zero {x : Int} (h : ab x ≠ 0) : x ≠ 0 := by unfold ab at h; omega
theorem ab_pos {x : Int} (h : x ≠ 0) : 0 < ab x := by unfold ab; omega

theorem hold_facts (f : Nat → Int) (t a b c d a' b' c' d' len feed : Int) (hz : kinValid f t = true) (hv : ddaValid a b c d = true) (hv' : ddaValid a' b' c' d' = true) (hlen : len ≤ 9223372036854775807) (hfeed : feed ≤ 9223372036854775807)
    (n k v q u : Int) (en : n = ddaDom a b c d) (ek : k = ddaDom a' b' c' d') (ev : v = spdV (limK 2 f n 1048576 a b c d 4) n len feed) (eq : q = limK 3 f n 16777216 a b c d 4) (eu : u = junK f n k a b c d a' b' c' d' 4) :
    (1 ≤ v ∧ v ≤ 1048576) ∧ (1 ≤ q ∧ q ≤ 16777216) ∧ (0 ≤ u ∧ u ≤ 1048576) ∧
    (∀ j, j < 4 → ovB v (ab (limC a b c d j)) (f (7 * j + 2)) n = false) ∧ (∀ j, j < 4 → ovB q (ab (limC a b c d j)) (f (7 * j + 3)) n = false) ∧ (∀ j, j < 4 → ovB u (junD n k a b c d a' b' c' d' j) (f (7 * j + 4)) (n * k) = false) ∧
    moB (mo0 v len feed n) v f n a b c d 4 = true ∧ edB u f n k a b c d a' b' c' d' 4 = true := by
  have hn := ddaDom_in a b c d
  have hk := ddaDom_in a' b' c' d'
  have hax := acc_facts f t hz
  have hap := acc_pos f t hz
  have hc := ab_range a b c d hv
  have hD := junD_in a b c d a' b' c' d' hv hv'
  have hnk := nk_in (ddaDom a b c d) (ddaDom a' b' c' d') hn hk
  have p2 := limK_pos 2 f (ddaDom a b c d) 1048576 a b c d (fun k hk => (hap k hk).1) (fun k hk => dom_ge a b c d hv k hk) (by decide) 4 (by omega)
  have p3 := limK_pos 3 f (ddaDom a b c d) 16777216 a b c d (fun k hk => (hap k hk).2.1) (fun k hk => dom_ge a b c d hv k hk) (by decide) 4 (by omega)
  have r2 := limK_in 2 f (ddaDom a b c d) 1048576 a b c d (fun k hk => (hax k hk).1.1) hn.1 (by decide) 4 (by omega)
  have r3 := limK_in 3 f (ddaDom a b c d) 16777216 a b c d (fun k hk => (hax k hk).2.1.1) hn.1 (by decide) 4 (by omega)
  have rj := junK_in f (ddaDom a b c d) (ddaDom a' b' c' d') a b c d a' b' c' d' (fun k hk => (hax k hk).2.2.1) hn.1 hk.1 4 (by omega)
  rw [← en] at *
  rw [← ek] at *
  have hsv := spdV_le (limK 2 f n 1048576 a b c d 4) n len feed
  rw [← ev] at hsv
  have hv1 : 1 ≤ v := by
    rw [ev]; unfold spdV; split <;> omega
  refine ⟨⟨hv1, by omega⟩, ⟨by omega, by omega⟩, ⟨by omega, by omega⟩, ?_, ?_, ?_, ?_, ?_⟩
  · intro j hj
    refine ov_false _ _ _ _ (hc j).1 (hax j hj).1.1 hn.1 (by omega) (fun h => ?_)
    have := limK_step 2 f n 1048576 a b c d j hj (ab_zero h)
    omega
  · intro j hj
    refine ov_false _ _ _ _ (hc j).1 (hax j hj).2.1.1 hn.1 (by omega) (fun h => ?_)
    have := limK_step 3 f n 16777216 a b c d j hj (ab_zero h)
    omega
  · intro j hj
    refine ov_false _ _ _ _ (hD j).1 (hax j hj).2.2.1 hnk.1 (by omega) (fun h => ?_)
    have := junK_step f n k a b c d a' b' c' d' j hj h
    omega
  · by_cases hs : v = limK 2 f n 1048576 a b c d 4
    · rcases limK_edge 2 f n 1048576 a b c d 4 with h | ⟨i, h1, h2, h3⟩
      · have : mo0 v len feed n = true := by unfold mo0; rw [show v = 1048576 by omega]; simp
        rw [this]; exact moB_first _ _ _ _ _ _ _ _
      · exact moB_of _ _ _ _ _ _ _ _ i (ov_true _ _ _ _ (ab_pos h2) (hax i h1).1.1 hn.1 (by omega) (by omega)) 4 h1
    · have : mo0 v len feed n = true := by
        unfold mo0
        rw [ev] at hs ⊢
        unfold spdV at hs ⊢
        by_cases hp : 0 < len ∧ 0 < feed
        · rw [if_pos hp] at hs ⊢
          unfold lesser at hs ⊢
          generalize limK 2 f n 1048576 a b c d 4 = V at *
          by_cases h1 : feed * n / len ≤ 1
          · rw [show min V (max 1 (min V (feed * n / len))) = 1 by omega]
            simp [hp]
          · have e : min V (max 1 (min V (feed * n / len))) = feed * n / len := by omega
            rw [e]
            rw [ov_true (feed * n / len) len feed n hp.1 (by omega) hn.1 (by omega) rfl]
            simp [hp]
        · rw [if_neg hp] at hs
          exact absurd rfl hs
      rw [this]; exact moB_first _ _ _ _ _ _ _ _
  · rcases junK_edge f n k a b c d a' b' c' d' 4 with h | ⟨i, h1, h2, h3⟩
    · rw [show u = 1048576 by omega]; exact edB_first _ _ _ _ _ _ _ _ _ _ _ _
    · have := (hD i).1
      exact edB_of _ _ _ _ _ _ _ _ _ _ _ _ i (ov_true _ _ _ _ (by omega) (hax i h1).2.2.1 hnk.1 (by omega) (by omega)) 4 h1
end Go.Proofs.Ythodfmmmddfkmaa
