/- NumRoots: Isqrt of the program and of the reference return the same, the greatest number whose square is at most n -/
import Derived.Test.YtimonckfibphcaaL01Kit
namespace Go.Proofs.Ytimonckfibphcaa.numRoots
open Go.ChangeShapes Go.WideShapes Go.ChangeAt Go.RowKit
set_option linter.unusedVariables false

attribute [local go_sem] cell_past1 cell_past2 cell_past3 cell_past4 froz_past1 froz_past2 froz_past3

theorem root_facts (N : Nat) (hN : N ≤ 9223372036854775807) : isq N < 4294967296 ∧ (0 < isq N → isq N ≤ N / isq N) ∧ N / (isq N + 1) < isq N + 1 := by
  obtain ⟨h1, h2⟩ := isq_spec N (by omega)
  refine ⟨?_, ?_, ?_⟩
  · rcases Nat.lt_or_ge (isq N) 4294967296 with h | h
    · exact h
    · exfalso
      have := Nat.mul_le_mul h h
      omega
  · exact fun h => (le_div N (isq N) h).2 h1
  · exact Nat.lt_of_not_le fun h => absurd ((le_div N (isq N + 1) (by omega)).1 h) (by omega)

set_option maxRecDepth 100000 in
set_option maxHeartbeats 4000000 in
theorem walk (n : Int) (hn : -9223372036854775808 ≤ n ∧ n ≤ 9223372036854775807) (w : World) : Calls Try.prog 5 #[.int .i64 n] w fun e w' => e = .returned (.bool true) ∧ Below w.heap.size w w' := by
  rcases Int.lt_or_le n 0 with h | h
  · have K1 := Lib.hid (fun w => num_isqrt_neg n w h)
    have K2 := Lib.hid (fun w => ref01_isqrt_neg n w h)
    clear hn
    go_enter Try.func5, Try.ntmps5
    go_wp2_with (first | (go_at_call 19; refine (K1.out _).mono ?_; rintro e w' ⟨rfl, rfl⟩) | (go_at_call 20; refine (K2.out _).mono ?_; rintro e w' ⟨rfl, rfl⟩) | (go_at_call 14; refine (law01_same _ _ _).mono ?_; rintro e w' ⟨rfl, rfl⟩) | (go_at_call 15; refine (law01_awake _).mono ?_; rintro e w9 ⟨rfl, hb9⟩; have z9 := hb9.size; (try simp at z9)))
    all_goals go_ret
    all_goals refine ⟨rfl, ?_⟩
    all_goals (repeat' (first | with_reducible exact Below.refl _ _ | with_reducible refine Below.drew ?_ | with_reducible refine below_drewN ?_ _ | with_reducible refine Below.alloc ?_ ?_ _ | with_reducible refine Below.setCell ?_ ?_ _ | with_reducible refine Below.trans ?_ (Below.mono (by with_reducible assumption) ?_) | (simp; done) | (simp; omega) | omega))
  · obtain ⟨N, rfl⟩ := Int.eq_ofNat_of_zero_le h
    obtain ⟨h1, h2, h3⟩ := root_facts N (by omega)
    have K1 := Lib.hid (fun w => num_isqrt N w (by omega))
    have K2 := Lib.hid (fun w => ref01_isqrt N w (by omega))
    have e1 : ((N / isq N : Nat) : Int) = (N : Int) / (isq N : Int) := by simp
    have e2 : ((N / (isq N + 1) : Nat) : Int) = (N : Int) / ((isq N : Int) + 1) := by simp
    have f1 : (isq N : Int) < 4294967296 := by omega
    have f2 : 0 < isq N → (isq N : Int) ≤ (N : Int) / (isq N : Int) := fun h => by rw [← e1]; have := h2 h; omega
    have f3 : (N : Int) / ((isq N : Int) + 1) < (isq N : Int) + 1 := by rw [← e2]; omega
    have f4 : (N : Int) / (isq N : Int) ≤ 9223372036854775807 := by rw [← e1]; have := Nat.div_le_self N (isq N); omega
    have f5 : 0 ≤ (N : Int) / (isq N : Int) := by rw [← e1]; exact Int.natCast_nonneg _
    have f6 : 0 ≤ (N : Int) / ((isq N : Int) + 1) := by rw [← e2]; exact Int.natCast_nonneg _
    clear h1 h2 h3 e1 e2
    generalize isq N = R at *
    rcases Nat.eq_zero_or_pos R with hr | hr
    · subst hr
      clear f2 f1 f4 f5
      simp only [Int.natCast_zero, Int.zero_add] at f3 f6
      have F3 : (N : Int) / 1 < 1 := f3
      have hN0 : N = 0 := by omega
      subst hN0
      clear f3 f6 F3 hn h
      go_enter Try.func5, Try.ntmps5
      go_wp2_with (first | (go_at_call 19; refine (K1.out _).mono ?_; rintro e w' ⟨rfl, rfl⟩) | (go_at_call 20; refine (K2.out _).mono ?_; rintro e w' ⟨rfl, rfl⟩) | (go_at_call 14; refine (law01_same _ _ _).mono ?_; rintro e w' ⟨rfl, rfl⟩) | (go_at_call 15; refine (law01_awake _).mono ?_; rintro e w9 ⟨rfl, hb9⟩; have z9 := hb9.size; (try simp at z9)))
      all_goals go_ret
      all_goals refine ⟨rfl, ?_⟩
      all_goals (repeat' (first | with_reducible exact Below.refl _ _ | with_reducible refine Below.drew ?_ | with_reducible refine below_drewN ?_ _ | with_reducible refine Below.alloc ?_ ?_ _ | with_reducible refine Below.setCell ?_ ?_ _ | with_reducible refine Below.trans ?_ (Below.mono (by with_reducible assumption) ?_) | (simp; done) | (simp; omega) | omega))
    · have f2' := f2 hr
      have hr' : 0 < (R : Int) := by omega
      clear f2 hr
      generalize (R : Int) = Z at *
      generalize (N : Int) = Y at *
      clear R
      obtain ⟨Q1, q1⟩ : ∃ Q, Y / Z = Q := ⟨_, rfl⟩
      obtain ⟨Q2, q2⟩ : ∃ Q, Y / (Z + 1) = Q := ⟨_, rfl⟩
      have t1 : Y.tdiv Z = Q1 := by rw [← q1, Int.tdiv_eq_ediv_of_nonneg h]
      have t2 : Y.tdiv (Z + 1) = Q2 := by rw [← q2, Int.tdiv_eq_ediv_of_nonneg h]
      have z1 : (Z == 0) = false := by simp; omega
      have z2 : (Z + 1 == 0) = false := by simp; omega
      rw [q1] at f2' f4 f5
      rw [q2] at f3 f6
      go_enter Try.func5, Try.ntmps5
      go_wp2_with (first | (go_at_call 19; refine (K1.out _).mono ?_; rintro e w' ⟨rfl, rfl⟩) | (go_at_call 20; refine (K2.out _).mono ?_; rintro e w' ⟨rfl, rfl⟩) | (go_at_call 14; refine (law01_same _ _ _).mono ?_; rintro e w' ⟨rfl, rfl⟩) | (go_at_call 15; refine (law01_awake _).mono ?_; rintro e w9 ⟨rfl, hb9⟩; have z9 := hb9.size; (try simp at z9)))
      all_goals go_ret
      all_goals refine ⟨rfl, ?_⟩
      all_goals (repeat' (first | with_reducible exact Below.refl _ _ | with_reducible refine Below.drew ?_ | with_reducible refine below_drewN ?_ _ | with_reducible refine Below.alloc ?_ ?_ _ | with_reducible refine Below.setCell ?_ ?_ _ | with_reducible refine Below.trans ?_ (Below.mono (by with_reducible assumption) ?_) | (simp; done) | (simp; omega) | omega))

set_option maxRecDepth 100000 in
theorem lifted (os : Os) (started : os.Started) (H : Type) (enc : TypeId × Value → H) :
    ReturnsInHanded {} Try.checked os 5 .any (Rows.numRootsSpec.pre6 enc Try.prog Try.f5 Rows.numRootsRow.domain false) (Rows.numRootsSpec.post enc Try.prog Try.f5 false true false false) := by
  refine returnsInHanded_of_change (C := Try.checked) own started (by kernel_rfl) Try.func5
    (ChangeSpec.witness6 (enc := enc) (C := Try.checked) false ⟨#[], #[.int .i64 0], []⟩ 8 (by kernel_rfl) (by kernel_rfl) (by kernel_rfl) (by kernel_rfl)) ?_
  intro W base args ds gs before hval0 hW _ _
  have hval : ∀ (j : Nat) t v, Try.f5.params[j]? = some t → args[j]? = some v → Value.okWide Try.prog W .any base t v := hval0
  have hW' := hW
  obtain ⟨p, q, hA0, hV, rfl, _, _⟩ := hW
  have hA : DataW.TrodAll enc Try.prog W 0 (fun _ => true) true Try.f5.params.toList args.toList ds p := hA0
  rw [Try.params5] at hA hval
  obtain ⟨v0, d0, rfl, rfl, h0⟩ := trodAll_one hA
  clear hA hA0 hval0
  obtain ⟨a0, rfl, ba0⟩ := int_open Try.underlying3 (hval 0 3 v0 rfl rfl)
  exact (walk a0 ba0 W).mono fun e W' ⟨he, hb⟩ => ⟨_, he, law_post laidOut (by kernel_rfl) rfl (fun _ => rfl) rfl Try.underlying4 hW' hb⟩

theorem holds : Rows.NumRootsSaid :=
  OpenClaim.holds_of_wide 5 Try.f5 rfl rfl rfl rfl rfl rfl rfl ⟨rfl, rfl, rfl, rfl, rfl⟩ rfl rfl rfl rfl rfl (by kernel_rfl) Try.func5 (by kernel_rfl)
    (of_decide_eq_true (by kernel_rfl)) (by unfold Func.isWrapper; rw [if_neg (of_decide_eq_false (by kernel_rfl))]; exact ⟨rfl, rfl⟩)
    (fun os started H enc _ => lifted os started H enc)

#print axioms holds
end Go.Proofs.Ytimonckfibphcaa.numRoots
