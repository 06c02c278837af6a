/- Plain facts on the plan of a way: its blocks, their ends and junctions, and the speeds within a block -/
import Derived.Test.YtkiadcgdmeebmaaTopPlain
import Derived.Test.YtkiadcgdmeebmaaTopKit
namespace Go.Proofs.Ytkiadcgdmeebmaa
set_option linter.unusedVariables false

theorem dom_small (a b c d M : Int) (hM : 0 ≤ M) (h0 : -M ≤ a ∧ a ≤ M) (h1 : -M ≤ b ∧ b ≤ M) (h2 : -M ≤ c ∧ c ≤ M) (h3 : -M ≤ d ∧ d ≤ M) : ddaDom a b c d ≤ M := by
  unfold ddaDom
  split
  · unfold dom4 ab; omega
  · exact hM
/-- What the blocks h of a plan obey. -/
def TopOK (f : Nat → Int) (h : Nat → Nat → Int) (N : Nat) : Prop :=
  (∀ i, i < N → bval h i = true ∧ (1 ≤ gD h i ∧ gD h i ≤ 3200) ∧ (∀ j, j < 4 → -3200 ≤ h i j ∧ h i j ≤ 3200) ∧ h i 7 - h i 5 ≤ 2 * h i 4 * gD h i ∧ h i 5 - h i 7 ≤ 2 * h i 4 * gD h i) ∧
  (0 < N → h 0 5 = 0) ∧ (∀ i, i + 1 < N → h i 7 = h (i + 1) 5) ∧ (∀ i, i + 1 = N → h i 7 = 0) ∧
  (∀ i, i + 1 < N → ∀ j, j < 4 → ab ((isq (h i 7).toNat : Int) * (h i j * gD h (i + 1) - h (i + 1) j * gD h i)) ≤ f (7 * j + 4) * gD h i * gD h (i + 1))

theorem sq_le {v J : Int} (hJ : 0 ≤ J) (h : v * v ≤ J * J) : v ≤ J := by
  rcases (by omega : J < v ∨ v ≤ J) with g | g
  · have a := Int.mul_le_mul_of_nonneg_left (show J + 1 ≤ v by omega) (show 0 ≤ v by omega)
    have b := Int.mul_le_mul_of_nonneg_right (show J + 1 ≤ v by omega) hJ
    rw [Int.mul_add, Int.mul_one] at a
    rw [Int.add_mul, Int.one_mul] at b
    omega
  · exact g
theorem limC_at (g : Nat → Nat → Int) (i j : Nat) (hj : j < 4) : limC (g i 0) (g i 1) (g i 2) (g i 3) j = g i j := by
  rcases (by omega : j = 0 ∨ j = 1 ∨ j = 2 ∨ j = 3) with rfl | rfl | rfl | rfl <;> rfl

theorem top_ok (f : Nat → Int) (x : Bool) (t fd : Int) (p : Nat → Nat → Int) (n : Nat) (hv : kinValid f t = true) (hs : Slow f) (hp : Near p n)
    (hE : plnE (wG f x t fd p n) (wZ f x t fd p n) 0 (wN f x t p n) (wN f x t p n) = 0) :
    TopOK f (plnG (wG f x t fd p n) (wZ f x t fd p n) 0 (wN f x t p n) (wN f x t p n)) (wN f x t p n) := by
  have hf := plan_feas _ _ _ _ _ hE
  obtain ⟨_, h1, h2⟩ := feas_open _ _ _ _ _ hf
  have hcap := w_cap f x t fd p hv hs n hp n
  have hsrc := wG_src f x t fd p n
  have hc := w_c f x t p hv hs n hp
  have he : ∀ i o, o ≠ 5 → o ≠ 7 → plnG (wG f x t fd p n) (wZ f x t fd p n) 0 (wN f x t p n) (wN f x t p n) i o = wG f x t fd p n i o := fun i o h5 h7 => by
    unfold plnG; rw [if_neg (fun h => h5 h.2), if_neg (fun h => h7 h.2)]
  have hcnt : ∀ i, i < wN f x t p n → ∀ j, j < 4 → -3200 ≤ wG f x t fd p n i j ∧ wG f x t fd p n i j ≤ 3200 := fun i hi j hj => by
    obtain ⟨k', a1, a2, a3, a4, _, _⟩ := hsrc i hi
    rw [a4 j]
    unfold wBlk
    rw [if_pos hj]
    exact hc k' a1 j
  generalize plnG (wG f x t fd p n) (wZ f x t fd p n) 0 (wN f x t p n) (wN f x t p n) = h at *
  generalize wG f x t fd p n = G at *
  generalize wZ f x t fd p n = Z at *
  generalize wN f x t p n = N at *
  have hD : ∀ i, gD h i = gD G i := fun i => by unfold gD; rw [he i 0 (by omega) (by omega), he i 1 (by omega) (by omega), he i 2 (by omega) (by omega), he i 3 (by omega) (by omega)]
  have hb : ∀ i, i < N → bval h i = true ∧ (1 ≤ gD h i ∧ gD h i ≤ 3200) ∧ (∀ j, j < 4 → -3200 ≤ h i j ∧ h i j ≤ 3200) ∧ h i 7 - h i 5 ≤ 2 * h i 4 * gD h i ∧ h i 5 - h i 7 ≤ 2 * h i 4 * gD h i := fun i hi => by
    obtain ⟨b1, b2, b3, _, _⟩ := fst1_open _ _ _ _ (h1 i hi)
    have b0 := (bsnd_in h i (bval_in h i b1).1).2.2.1
    have hcc : ∀ j, j < 4 → -3200 ≤ h i j ∧ h i j ≤ 3200 := fun j hj => by rw [he i j (by omega) (by omega)]; exact hcnt i hi j hj
    exact ⟨b1, ⟨b0.1, dom_small _ _ _ _ 3200 (by omega) (hcc 0 (by omega)) (hcc 1 (by omega)) (hcc 2 (by omega)) (hcc 3 (by omega))⟩, hcc, b2, b3⟩
  have hj : ∀ i, i + 1 < N → h i 7 = h (i + 1) 5 ∧ h (i + 1) 5 ≤ Z (i + 1) := fun i hi => by
    have := (fst1_open _ _ _ _ (h1 (i + 1) hi)).2.2.2.2 (by omega)
    rw [Nat.add_sub_cancel] at this
    exact ⟨this.1.symm, this.2⟩
  refine ⟨hb, fun h0 => ?_, fun i hi => (hj i hi).1, fun i hi => ?_, fun i hi j hj4 => ?_⟩
  · exact (fst1_open _ _ _ _ (h1 0 h0)).2.2.2.1 rfl
  · have := h2 (by omega)
    rw [← hi, Nat.add_sub_cancel] at this
    exact this
  · obtain ⟨e1, e2⟩ := hj i hi
    obtain ⟨J, J0, J1, J2⟩ := hcap (i + 1) (Nat.le_refl _) (by omega) hi
    rw [Nat.add_sub_cancel] at J2
    obtain ⟨_, v2, v3, v4, v5⟩ := bval_in h i (hb i (by omega)).1
    have hcr := (bsnd_in h i (bval_in h i (hb i (by omega)).1).1).2.1
    obtain ⟨q1, _⟩ := isq_spec (h i 7).toNat (by omega)
    have q2 : (isq (h i 7).toNat : Int) * (isq (h i 7).toNat : Int) ≤ h i 7 := by
      have := Int.ofNat_le.2 q1
      rw [Int.natCast_mul] at this
      omega
    have vJ := sq_le J0 (show (isq (h i 7).toNat : Int) * (isq (h i 7).toNat : Int) ≤ J * J by omega)
    rw [J2] at vJ
    unfold gJ at vJ
    have r := junK_jump f (gD G i) (gD G (i + 1)) (G i 0) (G i 1) (G i 2) (G i 3) (G (i + 1) 0) (G (i + 1) 1) (G (i + 1) 2) (G (i + 1) 3) (isq (h i 7).toNat : Int) j hj4 (acc_facts f t hv j hj4).2.2.1 (ddaDom_in _ _ _ _).1 (ddaDom_in _ _ _ _).1 (by omega) vJ
    rw [limC_at G i j hj4, limC_at G (i + 1) j hj4] at r
    rw [hD i, hD (i + 1), he i j (by omega) (by omega), he (i + 1) j (by omega) (by omega)]
    exact r

theorem sqI_ends (n ac en cr ex : Int) (n0 : 1 ≤ n) (a0 : 1 ≤ ac) (c0 : en ≤ cr) (c1 : ex ≤ cr) (h1 : ex - en ≤ 2 * ac * n) (h2 : en - ex ≤ 2 * ac * n) :
    (en ≤ sqI n ac en cr ex 1 ∧ sqI n ac en cr ex 1 ≤ en + 2 * ac) ∧ (ex ≤ sqI n ac en cr ex n ∧ sqI n ac en cr ex n ≤ ex + 2 * ac) := by
  unfold sqI
  rw [show n + 1 - 1 = n from by omega, show n + 1 - n = 1 from by omega]
  generalize 2 * ac * n = y at *
  omega
/-- What stands ahead of step k of a block: the square of the last step, and its acceleration. -/
def InOK (n ac en cr ex k last gain : Int) : Prop :=
  (k = 1 ∧ en ≤ last ∧ last ≤ en + 2 * gain ∧ 0 ≤ gain ∧ gain ≤ 16777216) ∨ (2 ≤ k ∧ last = sqI n ac en cr ex (k - 1) ∧ gain = ac)
theorem in_step (n ac en cr ex k last gain : Int) (h : InOK n ac en cr ex k last gain) (n0 : 1 ≤ n) (n1 : n ≤ 16777216) (a0 : 1 ≤ ac) (a1 : ac ≤ 16777216) (cr0 : 1 ≤ cr) (cr1 : cr ≤ 1099511627776) (e0 : 0 ≤ en) (x0 : 0 ≤ ex) (c0 : en ≤ cr) (c1 : ex ≤ cr) (h1 : ex - en ≤ 2 * ac * n) (h2 : en - ex ≤ 2 * ac * n) (k0 : 1 ≤ k) (k1 : k ≤ n) :
    (1 ≤ sqI n ac en cr ex k ∧ sqI n ac en cr ex k ≤ cr) ∧ sqI n ac en cr ex k - last ≤ 2 * max ac gain ∧ last - sqI n ac en cr ex k ≤ 2 * max ac gain ∧ (0 ≤ last ∧ last ≤ 1099545182208) ∧ (0 ≤ gain ∧ gain ≤ 16777216) ∧ InOK n ac en cr ex (k + 1) (sqI n ac en cr ex k) ac := by
  have hi := sqI_in n ac en cr ex k a0 a1 cr0 cr1 e0 x0 n1 k0 k1
  have he := sqI_ends n ac en cr ex n0 a0 c0 c1 h1 h2
  have hn : InOK n ac en cr ex (k + 1) (sqI n ac en cr ex k) ac := .inr ⟨by omega, by rw [show k + 1 - 1 = k from by omega], rfl⟩
  rcases h with ⟨rfl, g1, g2, g3, g4⟩ | ⟨g1, g2, g3⟩
  · exact ⟨hi, by omega, by omega, by omega, by omega, hn⟩
  · have hs := sqI_step n ac en cr ex (k - 1) a0
    rw [show k - 1 + 1 = k from by omega, ← g2] at hs
    have hi2 := sqI_in n ac en cr ex (k - 1) a0 a1 cr0 cr1 e0 x0 n1 (by omega) (by omega)
    rw [← g2] at hi2
    exact ⟨hi, by omega, by omega, by omega, by omega, hn⟩
theorem in_end (n ac en cr ex last gain : Int) (h : InOK n ac en cr ex (n + 1) last gain) (n0 : 1 ≤ n) (a0 : 1 ≤ ac) (c0 : en ≤ cr) (c1 : ex ≤ cr) (h1 : ex - en ≤ 2 * ac * n) (h2 : en - ex ≤ 2 * ac * n) :
    gain = ac ∧ ex ≤ last ∧ last ≤ ex + 2 * ac := by
  have he := (sqI_ends n ac en cr ex n0 a0 c0 c1 h1 h2).2
  rcases h with ⟨g1, _⟩ | ⟨g1, g2, g3⟩
  · omega
  · rw [show n + 1 - 1 = n from by omega] at g2
    rw [← g2] at he
    exact ⟨g3, he.1, he.2⟩
/-- An argument of type []api.Vec is a slice that is only read. -/
theorem vecs_open {H : Type} {enc : TypeId × Value → H} {w : World} {base : Nat} {v : Value} {d : DataW H} {p : List MemPlace}
    (hv : Value.okWide Try.prog w .any base 27 v) (h : DataW.Trod enc Try.prog w 0 (fun _ => true) true 27 v d p) :
    ∃ a n cap q, v = .slice a n cap ∧ n ≤ 9223372036854775807 ∧ VecS w a n q := by
  obtain ⟨a0, len, cap, rfl⟩ := Go.WideShapes.okWide_slice Try.underlying27 hv
  obtain ⟨fuel, hf⟩ := h
  obtain ⟨a, n, cap, q, h1, h2, _, _, h5, _⟩ := vecs_arg hf
  exact ⟨a, n, cap, q, h1, h2, h5⟩
end Go.Proofs.Ytkiadcgdmeebmaa
