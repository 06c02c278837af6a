/- Plain facts on a way: the blocks that lead along it, what they hold, and what their plan obeys -/
import Derived.Test.YtkiadcgdmeebmaaAhdLow
import Derived.Test.YtkiadcgdmeebmaaKinMotors
import Derived.Test.YtkiadcgdmeebmaaLimFold
import Derived.Test.YtkiadcgdmeebmaaLimJunc
import Derived.Test.YtkiadcgdmeebmaaRmpPlain
namespace Go.Proofs.Ytkiadcgdmeebmaa
set_option linter.unusedVariables false
set_option linter.unusedSectionVars false

/-- A machine that makes at most 20 steps per unit. -/
def Slow (f : Nat → Int) : Prop := ∀ k, k < 4 → 1 ≤ f (7 * k + 1) ∧ f (7 * k) ≤ 65536 ∧ f (7 * k) ≤ 20 * f (7 * k + 1)
/-- At most 12 positions of at most 40 units. -/
def Near (p : Nat → Nat → Int) (n : Nat) : Prop := n ≤ 12 ∧ ∀ k, k < n → ∀ o, o < 3 → -40 ≤ p k o ∧ p k o ≤ 40

theorem rnd_small (a b M : Int) (hb : 1 ≤ b) (h0 : -(M * b) ≤ a) (h1 : a ≤ M * b) : -M ≤ rnd a b ∧ rnd a b ≤ M := by
  unfold rnd
  have e : M * (2 * b) = 2 * (M * b) := Int.mul_left_comm _ _ _
  constructor
  · have h : (b + -M * (2 * b)) / (2 * b) ≤ (2 * a + b) / (2 * b) := Int.ediv_le_ediv (by omega) (by rw [Int.neg_mul]; omega)
    rw [Int.add_mul_ediv_right b (-M) (by omega), Int.ediv_eq_zero_of_lt (a := b) (by omega) (by omega)] at h
    omega
  · have h : (2 * a + b) / (2 * b) ≤ (b + M * (2 * b)) / (2 * b) := Int.ediv_le_ediv (by omega) (by omega)
    rw [Int.add_mul_ediv_right b M (by omega), Int.ediv_eq_zero_of_lt (a := b) (by omega) (by omega)] at h
    omega
theorem st_small (f : Nat → Int) (t : Int) (hv : kinValid f t = true) (hs : Slow f) (k : Nat) (hk : k < 4) (q : Int) (h0 : -40 ≤ q) (h1 : q ≤ 40) : stOk f t (k : Int) q = true ∧ -800 ≤ stV f t (k : Int) q ∧ stV f t (k : Int) q ≤ 800 := by
  have ha := ax_ok f k (kin_axes f t hv k hk)
  obtain ⟨s1, s2, s3⟩ := hs k hk
  have ok : stOk f t (k : Int) q = true := by unfold stOk; rw [hv, Bool.true_and]; exact decide_eq_true (by omega)
  refine ⟨ok, ?_⟩
  unfold stV
  rw [if_pos ok, show ((k : Int)).toNat = k from by omega]
  have m1 := mul_bd q (f (7 * k)) 40 (20 * f (7 * k + 1)) h0 h1 (by omega) s3 (by omega)
  exact rnd_small _ _ 800 s1 (by omega) (by omega)
theorem mo_small (f : Nat → Int) (x : Bool) (t : Int) (hv : kinValid f t = true) (hs : Slow f) (a b c e : Int) (ha : -40 ≤ a ∧ a ≤ 40) (hb : -40 ≤ b ∧ b ≤ 40) (hc : -40 ≤ c ∧ c ≤ 40) (he : -40 ≤ e ∧ e ≤ 40) :
    moOk f t a b c e = true ∧ ∀ j, -1600 ≤ moV f x t a b c e j ∧ moV f x t a b c e j ≤ 1600 := by
  obtain ⟨a1, a2⟩ := st_small f t hv hs 0 (by omega) a ha.1 ha.2
  obtain ⟨b1, b2⟩ := st_small f t hv hs 1 (by omega) b hb.1 hb.2
  obtain ⟨c1, c2⟩ := st_small f t hv hs 2 (by omega) c hc.1 hc.2
  obtain ⟨e1, e2⟩ := st_small f t hv hs 3 (by omega) e he.1 he.2
  have ok : moOk f t a b c e = true := by
    unfold moOk
    rw [show stOk f t 0 a = true from a1, show stOk f t 1 b = true from b1, show stOk f t 2 c = true from c1, show stOk f t 3 e = true from e1]
    rfl
  have a2' : -800 ≤ stV f t 0 a ∧ stV f t 0 a ≤ 800 := a2
  have b2' : -800 ≤ stV f t 1 b ∧ stV f t 1 b ≤ 800 := b2
  have c2' : -800 ≤ stV f t 2 c ∧ stV f t 2 c ≤ 800 := c2
  have e2' : -800 ≤ stV f t 3 e ∧ stV f t 3 e ≤ 800 := e2
  refine ⟨ok, fun j => ?_⟩
  unfold moV
  rw [if_pos ok]
  split
  · split <;> omega
  · split
    · split <;> omega
    · split <;> omega
theorem st_zero (f : Nat → Int) (t : Int) (hv : kinValid f t = true) (k : Nat) (hk : k < 4) : stV f t (k : Int) 0 = 0 := by
  have ha := ax_ok f k (kin_axes f t hv k hk)
  unfold stV
  split
  · rw [show ((k : Int)).toNat = k from by omega]
    unfold rnd
    rw [Int.zero_mul]
    exact Int.ediv_eq_zero_of_lt (by omega) (by omega)
  · rfl
theorem mo_zero (f : Nat → Int) (x : Bool) (t : Int) (hv : kinValid f t = true) (j : Nat) : moV f x t 0 0 0 0 j = 0 := by
  have a1 : stV f t 0 0 = 0 := st_zero f t hv 0 (by omega)
  have b1 : stV f t 1 0 = 0 := st_zero f t hv 1 (by omega)
  have c1 : stV f t 2 0 = 0 := st_zero f t hv 2 (by omega)
  have e1 : stV f t 3 0 = 0 := st_zero f t hv 3 (by omega)
  unfold moV
  rw [a1, b1, c1, e1]
  repeat' split
  all_goals rfl

theorem junK_down (f : Nat → Int) (n k a b c d a' b' c' d' : Int) (j : Nat) : junK f n k a b c d a' b' c' d' (j + 1) ≤ junK f n k a b c d a' b' c' d' j := by
  show jun1 _ _ _ _ _ _ ≤ _
  unfold jun1 lesser
  split <;> omega
theorem junK_mono (f : Nat → Int) (n k a b c d a' b' c' d' : Int) : ∀ j i, i ≤ j → junK f n k a b c d a' b' c' d' j ≤ junK f n k a b c d a' b' c' d' i
  | 0, i, h => by have : i = 0 := by omega
                  subst this; exact Int.le_refl _
  | j + 1, i, h => by
    by_cases e : i = j + 1
    · subst e; exact Int.le_refl _
    · have h1 := junK_mono f n k a b c d a' b' c' d' j i (by omega)
      have h2 := junK_down f n k a b c d a' b' c' d' j
      omega
/-- At the junction's speed no motor jumps by more than its jerk. -/
theorem junK_jump (f : Nat → Int) (n k a b c d a' b' c' d' v : Int) (i : Nat) (hi : i < 4) (hf : 0 ≤ f (7 * i + 4)) (hn : 0 ≤ n) (hk : 0 ≤ k) (v0 : 0 ≤ v) (hv : v ≤ junK f n k a b c d a' b' c' d' 4) :
    ab (v * (limC a b c d i * k - limC a' b' c' d' i * n)) ≤ f (7 * i + 4) * n * k := by
  have h1 := junK_mono f n k a b c d a' b' c' d' 4 (i + 1) (by omega)
  have h3 : 0 ≤ f (7 * i + 4) * n * k := Int.mul_nonneg (Int.mul_nonneg hf hn) hk
  generalize hD : limC a b c d i * k - limC a' b' c' d' i * n = D
  have hab : ab (v * D) = v * ab D := by
    unfold ab
    rw [← Int.mul_neg]
    by_cases h : 0 ≤ D
    · have := Int.mul_nonneg v0 h
      have e : v * -D = -(v * D) := Int.mul_neg _ _
      rw [show max D (-D) = D from by omega]
      omega
    · have := Int.mul_nonneg v0 (show 0 ≤ -D by omega)
      have e : v * -D = -(v * D) := Int.mul_neg _ _
      rw [show max D (-D) = -D from by omega]
      omega
  rw [hab]
  by_cases h0 : ab D = 0
  · rw [h0, Int.mul_zero]; exact h3
  · have hp : 0 < ab D := by unfold ab at *; omega
    have h2 : junK f n k a b c d a' b' c' d' (i + 1) ≤ f (7 * i + 4) * n * k / ab D := by
      show jun1 _ _ _ _ _ _ ≤ _
      unfold jun1 lesser
      rw [hD, if_neg h0]
      omega
    have h4 : v * ab D ≤ f (7 * i + 4) * n * k / ab D * ab D := Int.mul_le_mul_of_nonneg_right (by omega) (by omega)
    have h5 := Int.ediv_mul_le (f (7 * i + 4) * n * k) (b := ab D) (by omega)
    omega

section
variable (f : Nat → Int) (x : Bool) (t fd : Int) (p : Nat → Nat → Int)

/-- The steps of position k of the way; where the machine stands ahead of it; the counts in between. -/
def wTo (k j : Nat) : Int := moV f x t (p k 0) (p k 1) (p k 2) (k : Int) j
def wAt : Nat → Nat → Int
  | 0, j => moV f x t 0 0 0 0 j
  | k + 1, j => wTo f x t p k j
def wC (k j : Nat) : Int := wTo f x t p k j - wAt f x t p k j
def wMv (k : Nat) : Bool := !(same4 (wC f x t p k 0) (wC f x t p k 1) (wC f x t p k 2) (wC f x t p k 3) 0 0 0 0)
def wN : Nat → Nat
  | 0 => 0
  | k + 1 => if wMv f x t p k then wN k + 1 else wN k
def wD (k : Nat) : Int := ddaDom (wC f x t p k 0) (wC f x t p k 1) (wC f x t p k 2) (wC f x t p k 3)
def wV (k : Nat) : Int := spdV (limK 2 f (wD f x t p k) 1048576 (wC f x t p k 0) (wC f x t p k 1) (wC f x t p k 2) (wC f x t p k 3) 4) (wD f x t p k) 40 fd
def wA (k : Nat) : Int := limK 3 f (wD f x t p k) 16777216 (wC f x t p k 0) (wC f x t p k 1) (wC f x t p k 2) (wC f x t p k 3) 4
def wBlk (k o : Nat) : Int := if o < 4 then wC f x t p k o else if o = 4 then wA f x t p k else if o = 6 then wV f x t fd p k * wV f x t fd p k else 0
def wG : Nat → Nat → Nat → Int
  | 0 => fun _ _ => 0
  | k + 1 => if wMv f x t p k then fun i o => if i = wN f x t p k then wBlk f x t fd p k o else wG k i o else wG k
def gD (g : Nat → Nat → Int) (i : Nat) : Int := ddaDom (g i 0) (g i 1) (g i 2) (g i 3)
def gJ (g : Nat → Nat → Int) (i : Nat) (n a b c d : Int) : Int := junK f (gD g i) n (g i 0) (g i 1) (g i 2) (g i 3) a b c d 4
def wJ (k : Nat) : Int := if wN f x t p k = 0 then 0 else gJ f (wG f x t fd p k) (wN f x t p k - 1) (wD f x t p k) (wC f x t p k 0) (wC f x t p k 1) (wC f x t p k 2) (wC f x t p k 3)
def wZ : Nat → Nat → Int
  | 0 => fun _ => 0
  | k + 1 => if wMv f x t p k then fun i => if i = wN f x t p k then wJ f x t fd p k * wJ f x t fd p k else wZ k i else wZ k

theorem wN_le : ∀ k, wN f x t p k ≤ k
  | 0 => Nat.le_refl _
  | k + 1 => by
    have := wN_le k
    rw [wN]
    split <;> omega
theorem wN_step (k : Nat) : wN f x t p k ≤ wN f x t p (k + 1) := by rw [wN]; split <;> omega

/-- A block of the way is that of a round; what stands stays. -/
theorem wG_src : ∀ k i, i < wN f x t p k → ∃ k', k' < k ∧ wMv f x t p k' = true ∧ wN f x t p k' = i ∧ (∀ o, wG f x t fd p k i o = wBlk f x t fd p k' o) ∧ wZ f x t fd p k i = wJ f x t fd p k' * wJ f x t fd p k' ∧ ∀ i', i' < i → ∀ o, wG f x t fd p k i' o = wG f x t fd p k' i' o
  | 0, i, h => absurd h (Nat.not_lt_zero _)
  | k + 1, i, h => by
    by_cases hm : wMv f x t p k = true
    · rw [wN, if_pos hm] at h
      rw [wG, wZ, if_pos hm, if_pos hm]
      by_cases e : i = wN f x t p k
      · subst e
        exact ⟨k, by omega, hm, rfl, fun o => if_pos rfl, if_pos rfl, fun i' hi' o => if_neg (by omega)⟩
      · obtain ⟨k', h1, h2, h3, h4, h5, h6⟩ := wG_src k i (by omega)
        refine ⟨k', by omega, h2, h3, fun o => ?_, ?_, fun i' hi' o => ?_⟩
        · show (if i = _ then _ else _) = _
          rw [if_neg e]; exact h4 o
        · show (if i = _ then _ else _) = _
          rw [if_neg e]; exact h5
        · show (if i' = _ then _ else _) = _
          rw [if_neg (by omega)]; exact h6 i' hi' o
    · rw [wN, if_neg hm] at h
      rw [wG, wZ, if_neg hm, if_neg hm]
      obtain ⟨k', h1, h2, h3, h4, h5, h6⟩ := wG_src k i h
      exact ⟨k', by omega, h2, h3, h4, h5, h6⟩

section
variable (hv : kinValid f t = true) (hs : Slow f) (n : Nat) (hp : Near p n)
include hv hs hp
theorem w_to (k : Nat) (hk : k < n) : moOk f t (p k 0) (p k 1) (p k 2) (k : Int) = true ∧ ∀ j, -1600 ≤ wTo f x t p k j ∧ wTo f x t p k j ≤ 1600 := by
  have h := hp.2 k hk
  have := hp.1
  exact mo_small f x t hv hs _ _ _ _ (h 0 (by omega)) (h 1 (by omega)) (h 2 (by omega)) (by omega)
theorem w_at : ∀ k, k ≤ n → ∀ j, -1600 ≤ wAt f x t p k j ∧ wAt f x t p k j ≤ 1600
  | 0, _, j => (mo_small f x t hv hs 0 0 0 0 (by omega) (by omega) (by omega) (by omega)).2 j
  | k + 1, hk, j => (w_to f x t p hv hs n hp k (by omega)).2 j
theorem w_c (k : Nat) (hk : k < n) (j : Nat) : -3200 ≤ wC f x t p k j ∧ wC f x t p k j ≤ 3200 := by
  have h1 := (w_to f x t p hv hs n hp k hk).2 j
  have h2 := w_at f x t p hv hs n hp k (by omega) j
  unfold wC
  omega
theorem w_dda (k : Nat) (hk : k < n) (hm : wMv f x t p k = true) : ddaValid (wC f x t p k 0) (wC f x t p k 1) (wC f x t p k 2) (wC f x t p k 3) = true := by
  have h0 := w_c f x t p hv hs n hp k hk 0
  have h1 := w_c f x t p hv hs n hp k hk 1
  have h2 := w_c f x t p hv hs n hp k hk 2
  have h3 := w_c f x t p hv hs n hp k hk 3
  unfold wMv same4 at hm
  generalize wC f x t p k 0 = a at *
  generalize wC f x t p k 1 = b at *
  generalize wC f x t p k 2 = c at *
  generalize wC f x t p k 3 = d at *
  simp [ddaValid]
  simp at hm
  omega
theorem w_speed (k : Nat) (hk : k < n) (hm : wMv f x t p k = true) : (1 ≤ wV f x t fd p k ∧ wV f x t fd p k ≤ 1048576) ∧ (1 ≤ wA f x t p k ∧ wA f x t p k ≤ 16777216) := by
  have hd := w_dda f x t p hv hs n hp k hk hm
  have hp1 := acc_pos f t hv
  have hn0 := ddaDom_in (wC f x t p k 0) (wC f x t p k 1) (wC f x t p k 2) (wC f x t p k 3)
  have i2 := limK_in 2 f (wD f x t p k) 1048576 (wC f x t p k 0) (wC f x t p k 1) (wC f x t p k 2) (wC f x t p k 3) (fun j hj => by have := hp1 j hj; omega) hn0.1 (by decide) 4 (by omega)
  have q2 := limK_pos 2 f (wD f x t p k) 1048576 (wC f x t p k 0) (wC f x t p k 1) (wC f x t p k 2) (wC f x t p k 3) (fun j hj => (hp1 j hj).1) (fun j hj => dom_ge _ _ _ _ hd j hj) (by decide) 4 (by omega)
  have i3 := limK_in 3 f (wD f x t p k) 16777216 (wC f x t p k 0) (wC f x t p k 1) (wC f x t p k 2) (wC f x t p k 3) (fun j hj => by have := hp1 j hj; omega) hn0.1 (by decide) 4 (by omega)
  have q3 := limK_pos 3 f (wD f x t p k) 16777216 (wC f x t p k 0) (wC f x t p k 1) (wC f x t p k 2) (wC f x t p k 3) (fun j hj => (hp1 j hj).2.1) (fun j hj => dom_ge _ _ _ _ hd j hj) (by decide) 4 (by omega)
  refine ⟨?_, q3, i3.2⟩
  unfold wV spdV
  split <;> omega
theorem w_sq (k : Nat) (hk : k < n) (hm : wMv f x t p k = true) : 1 ≤ wV f x t fd p k * wV f x t fd p k ∧ wV f x t fd p k * wV f x t fd p k ≤ 1099511627776 := by
  obtain ⟨⟨h1, h2⟩, _⟩ := w_speed f x t fd p hv hs n hp k hk hm
  generalize wV f x t fd p k = v at *
  have a := Int.mul_le_mul_of_nonneg_left h1 (show 0 ≤ v by omega)
  have b := Int.mul_le_mul_of_nonneg_left h2 (show 0 ≤ v by omega)
  omega
theorem w_jun (k : Nat) (hk : k < n) : (0 ≤ wJ f x t fd p k ∧ wJ f x t fd p k ≤ 1048576) ∧ 0 ≤ wJ f x t fd p k * wJ f x t fd p k ∧ wJ f x t fd p k * wJ f x t fd p k ≤ 1099511627776 := by
  have h : 0 ≤ wJ f x t fd p k ∧ wJ f x t fd p k ≤ 1048576 := by
    unfold wJ
    split
    · omega
    · exact junK_in f _ _ _ _ _ _ _ _ _ _ (fun i hi => (acc_facts f t hv i hi).2.2.1) (ddaDom_in _ _ _ _).1 (ddaDom_in _ _ _ _).1 4 (by omega)
  refine ⟨h, ?_⟩
  generalize wJ f x t fd p k = v at *
  have a := Int.mul_le_mul_of_nonneg_left h.2 h.1
  have c := Int.mul_nonneg h.1 h.1
  omega
theorem w_snd (k i : Nat) (hk : k ≤ n) (hi : i < wN f x t p k) : bsnd (wG f x t fd p k) i = true := by
  obtain ⟨k', h1, h2, h3, h4, h5, h6⟩ := wG_src f x t fd p k i hi
  have e : bsnd (wG f x t fd p k) i = blkSound (wC f x t p k' 0) (wC f x t p k' 1) (wC f x t p k' 2) (wC f x t p k' 3) (wA f x t p k') (wV f x t fd p k' * wV f x t fd p k') := by
    unfold bsnd
    rw [h4, h4, h4, h4, h4, h4]
    rfl
  obtain ⟨_, s2⟩ := w_speed f x t fd p hv hs n hp k' (by omega) h2
  have s1 := w_sq f x t fd p hv hs n hp k' (by omega) h2
  rw [e]
  unfold blkSound
  rw [w_dda f x t p hv hs n hp k' (by omega) h2, Bool.true_and]
  exact decide_eq_true (by omega)
theorem w_i64 : ∀ k, k ≤ n → ∀ i o, I64 (wG f x t fd p k i o)
  | 0, _, i, o => by show I64 0; unfold I64; omega
  | k + 1, hk, i, o => by
    have ih := w_i64 k (by omega)
    rw [wG]
    split
    · rename_i hm
      show I64 (if i = _ then _ else _)
      split
      · have h1 := w_c f x t p hv hs n hp k (by omega) o
        obtain ⟨_, s2⟩ := w_speed f x t fd p hv hs n hp k (by omega) hm
        have s1 := w_sq f x t fd p hv hs n hp k (by omega) hm
        unfold wBlk I64
        split
        · omega
        · split
          · omega
          · split <;> omega
      · exact ih i o
    · exact ih i o
theorem w_z64 : ∀ k, k ≤ n → ∀ i, I64 (wZ f x t fd p k i)
  | 0, _, i => by show I64 0; unfold I64; omega
  | k + 1, hk, i => by
    have ih := w_z64 k (by omega)
    rw [wZ]
    split
    · rename_i hm
      show I64 (if i = _ then _ else _)
      split
      · have h1 := (w_jun f x t fd p hv hs n hp k (by omega)).2
        unfold I64
        omega
      · exact ih i
    · exact ih i
/-- The cap ahead of a block is the square of the junction's speed. -/
theorem w_cap (k i : Nat) (hk : k ≤ n) (h0 : 1 ≤ i) (hi : i < wN f x t p k) :
    ∃ J, 0 ≤ J ∧ wZ f x t fd p k i = J * J ∧ J = gJ f (wG f x t fd p k) (i - 1) (gD (wG f x t fd p k) i) (wG f x t fd p k i 0) (wG f x t fd p k i 1) (wG f x t fd p k i 2) (wG f x t fd p k i 3) := by
  obtain ⟨k', h1, h2, h3, h4, h5, h6⟩ := wG_src f x t fd p k i hi
  refine ⟨wJ f x t fd p k', (w_jun f x t fd p hv hs n hp k' (by omega)).1.1, h5, ?_⟩
  have e6 := h6 (i - 1) (by omega)
  unfold wJ
  rw [if_neg (by omega), h3]
  unfold gJ gD
  rw [e6, e6, e6, e6, h4, h4, h4, h4]
  rfl
end

/-- The counts of the blocks add up to the way. -/
theorem w_sum (hv : kinValid f t = true) (j : Nat) (hj : j < 4) : ∀ k, sumTo (fun i => wG f x t fd p k i j) (wN f x t p k) = wAt f x t p k j
  | 0 => (mo_zero f x t hv j).symm
  | k + 1 => by
    have ih := w_sum hv j hj k
    by_cases hm : wMv f x t p k = true
    · rw [wN, wG, if_pos hm, if_pos hm]
      show sumTo _ (wN f x t p k) + (if wN f x t p k = wN f x t p k then _ else _) = wTo f x t p k j
      rw [if_pos rfl]
      have e : sumTo (fun i => if i = wN f x t p k then wBlk f x t fd p k j else wG f x t fd p k i j) (wN f x t p k) = sumTo (fun i => wG f x t fd p k i j) (wN f x t p k) :=
        sumTo_congr _ _ _ (fun i hi => if_neg (by omega))
      have e2 : wBlk f x t fd p k j = wTo f x t p k j - wAt f x t p k j := by unfold wBlk; rw [if_pos hj]; rfl
      have e3 := e.trans ih
      refine (congr (congrArg HAdd.hAdd e3) e2).trans ?_
      show wAt f x t p k j + (wTo f x t p k j - wAt f x t p k j) = wTo f x t p k j
      omega
    · rw [wN, wG, if_neg hm, if_neg hm, ih]
      have hm2 : wMv f x t p k = false := by simpa using hm
      unfold wMv same4 wC at hm2
      simp at hm2
      show _ = wTo f x t p k j
      rcases (by omega : j = 0 ∨ j = 1 ∨ j = 2 ∨ j = 3) with rfl | rfl | rfl | rfl <;> omega
end
end Go.Proofs.Ytkiadcgdmeebmaa
