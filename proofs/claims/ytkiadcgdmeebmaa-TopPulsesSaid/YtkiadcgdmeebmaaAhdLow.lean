/- The plain law of lookahead: greatest's numbers are the greatest lower solution -/
import Derived.Test.YtkiadcgdmeebmaaKit9
namespace Go.Proofs.Ytkiadcgdmeebmaa
open Go.RowKit
set_option linter.unusedVariables false

def LowS (g : Nat → Nat → Int) (z : Nat → Int) (en : Int) (n : Nat) (s : Nat → Int) : Prop :=
  s 0 ≤ en ∧ s n ≤ 0 ∧ (∀ i, 1 ≤ i → i < n → s i ≤ z i ∧ s i ≤ g (i - 1) 6 ∧ s i ≤ g i 6) ∧ ∀ i, i < n → s (i + 1) ≤ s i + rch g i ∧ s i ≤ s (i + 1) + rch g i
theorem fwd_cap (g : Nat → Nat → Int) (z : Nat → Int) (en : Int) (n i : Nat) (h1 : 1 ≤ i) (h : i < n) : fwd g z en n i ≤ z i ∧ fwd g z en n i ≤ g (i - 1) 6 ∧ fwd g z en n i ≤ g i 6 := by
  obtain ⟨j, rfl⟩ : ∃ j, i = j + 1 := ⟨i - 1, by omega⟩
  rw [fwd, if_pos h, Nat.add_sub_cancel]
  omega
theorem fwd_end (g : Nat → Nat → Int) (z : Nat → Int) (en : Int) (n : Nat) (h : 0 < n) : fwd g z en n n ≤ 0 := by
  obtain ⟨j, rfl⟩ : ∃ j, n = j + 1 := ⟨n - 1, by omega⟩
  rw [fwd, if_neg (by omega)]
  omega
theorem fwd_gap (g : Nat → Nat → Int) (z : Nat → Int) (en : Int) (n i : Nat) : fwd g z en n (i + 1) ≤ fwd g z en n i + rch g i := by
  rw [fwd]; split <;> omega
theorem grt_fwd (g : Nat → Nat → Int) (z : Nat → Int) (en : Int) (n i : Nat) (h : i ≤ n) : grt g z en n i ≤ fwd g z en n i := by
  by_cases e : i = n
  · subst e; rw [grt_end]; exact Int.le_refl _
  · rw [grt_step g z en n i (by omega)]; omega
theorem grt_low (g : Nat → Nat → Int) (z : Nat → Int) (en : Int) (n : Nat) (h0 : 0 < n) (hs : ∀ k, k < n → bsnd g k = true) : LowS g z en n (grt g z en n) := by
  refine ⟨grt_fwd g z en n 0 (by omega), by have := fwd_end g z en n h0; rw [grt_end]; exact this, fun i h1 h => ?_, fun i h => ?_⟩
  · have h2 := grt_fwd g z en n i (by omega)
    have h3 := fwd_cap g z en n i h1 h
    omega
  · have h2 := grt_step g z en n i h
    have h3 := grt_fwd g z en n (i + 1) (by omega)
    have h4 := fwd_gap g z en n i
    have h5 := (bsnd_in g i (hs i h)).2.2.2
    omega
theorem low_fwd (g : Nat → Nat → Int) (z : Nat → Int) (en : Int) (n : Nat) (s : Nat → Int) (h : LowS g z en n s) : ∀ i, i ≤ n → s i ≤ fwd g z en n i
  | 0, _ => h.1
  | i + 1, hi => by
    have ih := low_fwd g z en n s h i (by omega)
    have h2 := (h.2.2.2 i (by omega)).1
    rw [fwd]
    split
    · rename_i h1
      have h3 := h.2.2.1 (i + 1) (by omega) h1
      rw [Nat.add_sub_cancel] at h3
      omega
    · have e : i + 1 = n := by omega
      have h3 := h.2.1
      rw [← e] at h3
      omega
theorem low_bwd (g : Nat → Nat → Int) (z : Nat → Int) (en : Int) (n : Nat) (s : Nat → Int) (h : LowS g z en n s) : ∀ d, d ≤ n → s (n - d) ≤ bwd g z en n d
  | 0, _ => low_fwd g z en n s h n (Nat.le_refl _)
  | d + 1, hd => by
    have ih := low_bwd g z en n s h d (by omega)
    have h2 := low_fwd g z en n s h (n - (d + 1)) (by omega)
    have h3 := (h.2.2.2 (n - (d + 1)) (by omega)).2
    rw [show n - (d + 1) + 1 = n - d by omega] at h3
    rw [bwd]
    omega
theorem low_le (g : Nat → Nat → Int) (z : Nat → Int) (en : Int) (n : Nat) (s : Nat → Int) (h : LowS g z en n s) (i : Nat) (hi : i ≤ n) : s i ≤ grt g z en n i := by
  have := low_bwd g z en n s h (n - i) (by omega)
  rw [show n - (n - i) = i by omega] at this
  exact this

/-- At every junction a plan is as fast as one of its limits. -/
theorem grt_tight (g : Nat → Nat → Int) (z : Nat → Int) (en : Int) (n i : Nat) (h1 : 1 ≤ i) (h : i < n) (hs : ∀ k, k < n → bsnd g k = true) :
    grt g z en n i = z i ∨ grt g z en n i = g (i - 1) 6 ∨ grt g z en n i = g i 6 ∨ grt g z en n i = grt g z en n (i - 1) + rch g (i - 1) ∨ grt g z en n i = grt g z en n (i + 1) + rch g i := by
  obtain ⟨j, rfl⟩ : ∃ j, i = j + 1 := ⟨i - 1, by omega⟩
  have h2 := grt_step g z en n (j + 1) h
  have h3 := grt_step g z en n j (by omega)
  have h5 := (bsnd_in g j (hs j (by omega))).2.2.2
  rw [Nat.add_sub_cancel]
  rw [fwd, if_pos h] at h2
  omega

/- what a queue chooses -/
def ch (g : Nat → Nat → Int) (i : Nat) : Int := if i = 0 then g 0 5 else g (i - 1) 7
theorem fst1_open (g : Nat → Nat → Int) (z : Nat → Int) (en : Int) (k : Nat) (h : fst1 g z en k = true) :
    bval g k = true ∧ g k 7 - g k 5 ≤ rch g k ∧ g k 5 - g k 7 ≤ rch g k ∧ (k = 0 → g k 5 = en) ∧ (k ≠ 0 → g k 5 = g (k - 1) 7 ∧ g k 5 ≤ z k) := by
  unfold fst1 at h
  rw [Bool.and_eq_true, Bool.and_eq_true, Bool.and_eq_true] at h
  obtain ⟨h1, h2, h3, h4⟩ := h
  refine ⟨h1, of_decide_eq_true h2, of_decide_eq_true h3, fun e => ?_, fun e => ?_⟩
  · rw [if_pos e] at h4; exact of_decide_eq_true h4
  · rw [if_neg e, Bool.and_eq_true] at h4; exact ⟨of_decide_eq_true h4.1, of_decide_eq_true h4.2⟩
theorem feas_open (g : Nat → Nat → Int) (z : Nat → Int) (en : Int) (n m : Nat) (h : feasB g z en n m = true) : n = m ∧ (∀ k, k < n → fst1 g z en k = true) ∧ (n ≠ 0 → g (n - 1) 7 = 0) := by
  unfold feasB at h
  rw [Bool.and_eq_true, Bool.and_eq_true, Bool.or_eq_true] at h
  obtain ⟨h1, h2, h3⟩ := h
  refine ⟨of_decide_eq_true h1, (allTo_iff _ n).1 h2, fun h0 => ?_⟩
  rcases h3 with h3 | h3
  · exact absurd (by simpa using h3) h0
  · simpa using h3
theorem feas_ch (g : Nat → Nat → Int) (z : Nat → Int) (en : Int) (n m : Nat) (h : feasB g z en n m = true) (h0 : n ≠ 0) : LowS g z en n (ch g) ∧ ch g 0 = en ∧ ch g n = 0 ∧ (∀ i, i ≤ n → 0 ≤ ch g i) ∧ (∀ i, i < n → ch g i = g i 5 ∧ ch g (i + 1) = g i 7) := by
  obtain ⟨_, hf, he⟩ := feas_open g z en n m h
  have he' := he h0
  have hch : ∀ i, i < n → ch g i = g i 5 ∧ ch g (i + 1) = g i 7 := fun i hi => by
    have hf1 := fst1_open g z en i (hf i hi)
    refine ⟨?_, by unfold ch; rw [if_neg (by omega), Nat.add_sub_cancel]⟩
    unfold ch
    by_cases e : i = 0
    · subst e; rw [if_pos rfl]
    · rw [if_neg e]; exact ((hf1.2.2.2.2 e).1).symm
  have hn : ch g n = 0 := by unfold ch; rw [if_neg h0]; exact he'
  have h00 : ch g 0 = en := by
    have := (fst1_open g z en 0 (hf 0 (by omega))).2.2.2.1 rfl
    rw [(hch 0 (by omega)).1]; exact this
  refine ⟨⟨by omega, by omega, fun i h1 hi => ?_, fun i hi => ?_⟩, h00, hn, fun i hi => ?_, hch⟩
  · have f1 := fst1_open g z en i (hf i hi)
    have f2 := fst1_open g z en (i - 1) (hf (i - 1) (by omega))
    have b1 := bval_in g i f1.1
    have b2 := bval_in g (i - 1) f2.1
    have f3 := f1.2.2.2.2 (by omega)
    rw [(hch i hi).1]
    omega
  · have f1 := fst1_open g z en i (hf i hi)
    rw [(hch i hi).1, (hch i hi).2]
    omega
  · by_cases e : i = n
    · subst e; omega
    · have b1 := bval_in g i (fst1_open g z en i (hf i (by omega))).1
      rw [(hch i (by omega)).1]
      omega

theorem pln_zero (g : Nat → Nat → Int) (z : Nat → Int) (en : Int) (n m : Nat) (h : plnE g z en n m = 0) : n = m ∧ (∀ k, k < n → bsnd g k = true) ∧ (n ≠ 0 → 0 ≤ en ∧ en ≤ g 0 6 ∧ grt g z en n 0 = en ∧ grt g z en n n = 0 ∧ ∀ i, i < n → 0 ≤ grt g z en n i) := by
  unfold plnE at h
  split at h
  · omega
  rename_i h1
  split at h
  · omega
  rename_i h2
  have h1' : allTo (bsnd g) n = true := by simpa using h1
  have h2' : n = m := by omega
  refine ⟨h2', (allTo_iff _ n).1 h1', fun h0 => ?_⟩
  rw [if_neg h0] at h
  split at h
  · omega
  rename_i h3
  split at h
  · omega
  rename_i h4
  split at h
  · rename_i h5
    have h6 := (allTo_iff _ n).1 h5
    refine ⟨by omega, by omega, by omega, by omega, fun i hi => of_decide_eq_true (h6 i hi)⟩
  · omega
theorem pln_ok (g : Nat → Nat → Int) (z : Nat → Int) (en : Int) (n : Nat) (hs : ∀ k, k < n → bsnd g k = true) (h : n ≠ 0 → 0 ≤ en ∧ en ≤ g 0 6 ∧ grt g z en n 0 = en ∧ grt g z en n n = 0 ∧ ∀ i, i < n → 0 ≤ grt g z en n i) : plnE g z en n n = 0 := by
  unfold plnE
  rw [if_neg (by rw [(allTo_iff _ n).2 hs]; simp), if_neg (by simp)]
  by_cases h0 : n = 0
  · rw [if_pos h0]
  · obtain ⟨a, b, c, d, e⟩ := h h0
    rw [if_neg h0, if_neg (by omega), if_neg (by omega), if_pos]
    exact (allTo_iff _ n).2 (fun i hi => decide_eq_true (e i hi))
/-- A feasible queue has a plan, which is at least as fast everywhere. -/
theorem feas_plan (g : Nat → Nat → Int) (z : Nat → Int) (en : Int) (n m : Nat) (h : feasB g z en n m = true) : plnE g z en n m = 0 ∧ ∀ i, i < n → g i 5 ≤ grt g z en n i ∧ g i 7 ≤ grt g z en n (i + 1) := by
  obtain ⟨e, hf, _⟩ := feas_open g z en n m h
  subst e
  have hs : ∀ k, k < n → bsnd g k = true := fun k hk => (bval_in g k (fst1_open g z en k (hf k hk)).1).1
  by_cases h0 : n = 0
  · subst h0
    exact ⟨pln_ok g z en 0 hs (fun h => absurd rfl h), fun i hi => absurd hi (by omega)⟩
  · obtain ⟨hl, c0, cn, cp, hch⟩ := feas_ch g z en n n h h0
    have hle := low_le g z en n _ hl
    have hg := grt_low g z en n (by omega) hs
    have e0 := hle 0 (by omega)
    have en' := hle n (Nat.le_refl _)
    have h1 := bval_in g 0 (fst1_open g z en 0 (hf 0 (by omega))).1
    have h2 := (hch 0 (by omega)).1
    refine ⟨pln_ok g z en n hs (fun _ => ⟨by omega, by omega, ?_, ?_, fun i hi => ?_⟩), fun i hi => ?_⟩
    · have := hg.1; omega
    · have := hg.2.1; omega
    · have := hle i (by omega)
      have := cp i (by omega)
      omega
    · rw [← (hch i hi).1, ← (hch i hi).2]
      exact ⟨hle i (by omega), hle (i + 1) (by omega)⟩
theorem plnG_snd (g : Nat → Nat → Int) (z : Nat → Int) (en : Int) (n k i : Nat) : bsnd (plnG g z en n k) i = bsnd g i ∧ rch (plnG g z en n k) i = rch g i ∧ plnG g z en n k i 6 = g i 6 := by
  have e : ∀ o, o ≠ 5 → o ≠ 7 → plnG g z en n k i o = g i o := fun o h5 h7 => by unfold plnG; rw [if_neg (fun h => h5 h.2), if_neg (fun h => h7 h.2)]
  unfold bsnd rch
  rw [e 0 (by omega) (by omega), e 1 (by omega) (by omega), e 2 (by omega) (by omega), e 3 (by omega) (by omega), e 4 (by omega) (by omega), e 6 (by omega) (by omega)]
  exact ⟨rfl, rfl, rfl⟩
theorem plnG_57 (g : Nat → Nat → Int) (z : Nat → Int) (en : Int) (n k i : Nat) (h : i < k) : plnG g z en n k i 5 = grt g z en n i ∧ plnG g z en n k i 7 = grt g z en n (i + 1) := by
  unfold plnG
  rw [if_pos ⟨h, rfl⟩, if_neg (by omega), if_pos ⟨h, rfl⟩]
  exact ⟨rfl, rfl⟩
/-- A plan is feasible. -/
theorem plan_feas (g : Nat → Nat → Int) (z : Nat → Int) (en : Int) (n m : Nat) (h : plnE g z en n m = 0) : feasB (plnG g z en n n) z en n m = true := by
  obtain ⟨e, hs, hp⟩ := pln_zero g z en n m h
  subst e
  unfold feasB
  rw [decide_eq_true rfl, Bool.true_and, Bool.and_eq_true]
  by_cases h0 : n = 0
  · subst h0; exact ⟨rfl, rfl⟩
  obtain ⟨a, b, c, d, p⟩ := hp h0
  have hg := grt_low g z en n (by omega) hs
  have hp' : ∀ i, i ≤ n → 0 ≤ grt g z en n i := fun i hi => by
    by_cases e : i = n
    · subst e; omega
    · exact p i (by omega)
  refine ⟨(allTo_iff _ n).2 (fun k hk => ?_), ?_⟩
  · obtain ⟨s1, s2, s3⟩ := plnG_snd g z en n n k
    obtain ⟨q5, q7⟩ := plnG_57 g z en n n k hk
    have hgap := hg.2.2.2 k hk
    have b5 : grt g z en n k ≤ g k 6 := by
      by_cases e : k = 0
      · subst e; omega
      · have := hg.2.2.1 k (by omega) hk; omega
    have b7 : grt g z en n (k + 1) ≤ g k 6 := by
      by_cases e : k + 1 = n
      · rw [e]; have := (bsnd_in g k (hs k hk)).2.1; omega
      · have := hg.2.2.1 (k + 1) (by omega) (by omega); rw [Nat.add_sub_cancel] at this; omega
    have hbv : bval (plnG g z en n n) k = true := by
      have h1 : bsnd (plnG g z en n n) k = true := by rw [s1]; exact hs k hk
      unfold bsnd at h1
      unfold bval blkValid
      rw [h1, q5, q7, s3, Bool.true_and]
      exact decide_eq_true ⟨hp' k (by omega), b5, hp' (k + 1) (by omega), b7⟩
    unfold fst1
    rw [hbv, q5, q7, s2, decide_eq_true (by omega), decide_eq_true (by omega)]
    by_cases e : k = 0
    · subst e; rw [if_pos rfl, decide_eq_true c]; rfl
    · obtain ⟨r5, r7⟩ := plnG_57 g z en n n (k - 1) (by omega)
      have := (hg.2.2.1 k (by omega) hk).1
      rw [if_neg e, r7, show k - 1 + 1 = k by omega, decide_eq_true rfl, decide_eq_true this]; rfl
  · obtain ⟨r5, r7⟩ := plnG_57 g z en n n (n - 1) (by omega)
    rw [r7, show n - 1 + 1 = n by omega, d]
    simp

/- lower caps -/
theorem low_caps (g : Nat → Nat → Int) (z z' : Nat → Int) (en : Int) (n : Nat) (s : Nat → Int) (h : LowS g z' en n s) (hp : ∀ i, i < n → 0 ≤ s i) (hz : ∀ i, 0 ≤ z' i → z' i ≤ z i) : LowS g z en n s :=
  ⟨h.1, h.2.1, fun i h1 hi => by
    have h2 := h.2.2.1 i h1 hi
    have h3 := hp i hi
    have h4 := hz i (by omega)
    omega, h.2.2.2⟩
theorem caps_plan (g : Nat → Nat → Int) (z z' : Nat → Int) (en : Int) (n m : Nat) (hz : ∀ i, 0 ≤ z' i → z' i ≤ z i) (h : plnE g z' en n m = 0) : plnE g z en n m = 0 ∧ ∀ i, i ≤ n → grt g z' en n i ≤ grt g z en n i := by
  obtain ⟨e, hs, hp⟩ := pln_zero g z' en n m h
  subst e
  by_cases h0 : n = 0
  · subst h0
    refine ⟨pln_ok g z en 0 hs (fun h => absurd rfl h), fun i hi => ?_⟩
    obtain rfl : i = 0 := by omega
    exact Int.le_refl en
  · obtain ⟨a, b, c, d, p⟩ := hp h0
    have hg' := grt_low g z' en n (by omega) hs
    have hg := grt_low g z en n (by omega) hs
    have hl := low_caps g z z' en n _ hg' p hz
    have hle := low_le g z en n _ hl
    have e0 := hle 0 (by omega)
    have en' := hle n (Nat.le_refl _)
    refine ⟨pln_ok g z en n hs (fun _ => ⟨a, b, ?_, ?_, fun i hi => ?_⟩), hle⟩
    · have := hg.1; omega
    · have := hg.2.1; omega
    · have := hle i (by omega)
      have := p i hi
      omega
/-- Without a plan the number does not hang on the caps. -/
theorem caps_none (g : Nat → Nat → Int) (z z' : Nat → Int) (en : Int) (n m : Nat) (hz : ∀ i, 0 ≤ z' i → z' i ≤ z i) (h : plnE g z en n m ≠ 0) : plnE g z' en n m = plnE g z en n m := by
  have h8 : ∀ z, plnE g z en n m = 0 ∨ plnE g z en n m = 8 ∨ (plnE g z en n m = 1 ∧ ∀ z', plnE g z' en n m = 1) := fun z => by
    unfold plnE
    split
    · exact Or.inr (Or.inr ⟨rfl, fun _ => rfl⟩)
    split
    · exact Or.inr (Or.inr ⟨rfl, fun _ => rfl⟩)
    split
    · exact Or.inl rfl
    split
    · exact Or.inr (Or.inr ⟨rfl, fun _ => rfl⟩)
    split
    · exact Or.inr (Or.inl rfl)
    split
    · exact Or.inl rfl
    · exact Or.inr (Or.inl rfl)
  rcases h8 z with e | e | ⟨e, e'⟩
  · exact absurd e h
  · rcases h8 z' with f | f | ⟨f, f'⟩
    · exact absurd (caps_plan g z z' en n m hz f).1 h
    · rw [e, f]
    · rw [f' z] at e; omega
  · rw [e, e' z']
end Go.Proofs.Ytkiadcgdmeebmaa
