/- NumMulDiv: MulDiv of the program and of the reference return the same, the floor of the exact quotient -/
import Derived.Test.YtimonckfibphcaaL01Kit
namespace Go.Proofs.Ytimonckfibphcaa.numMulDiv
open Go.ChangeShapes Go.WideShapes Go.ChangeAt Go.RowKit
set_option linter.unusedVariables false

attribute [local go_sem] cell_past1 cell_past2 cell_past3 cell_past4 froz_past1 froz_past2 froz_past3

theorem md_left (a b c : Int) (hc : -9223372036854775808 ≤ c ∧ c ≤ 9223372036854775807) : mdE a b c ≠ 0 ∨ (mdE a b c = 0 ∧ ∃ L, RowKit.wrap64 (RowKit.wrap64 (a * b) - RowKit.wrap64 (mdV a b c * c)) = L ∧ (L = 0 ∨ (0 < L ∧ L < c) ∨ (L < 0 ∧ c < L))) := by
  by_cases hz : c = 0
  · left; rw [(md_zero a b c hz).2]; decide
  · by_cases h : -9223372036854775808 ≤ mdF a b c ∧ mdF a b c ≤ 9223372036854775807
    · right
      obtain ⟨h1, h2⟩ := md_fine a b c hz h
      refine ⟨h2, _, rfl, ?_⟩
      rw [h1]
      have hm : a * b - mdF a b c * c = (a * b).fmod c := by have := Int.mul_fdiv_add_fmod (a * b) c; unfold mdF; rw [Int.mul_comm] at this; omega
      generalize mdF a b c * c = S at *
      have hb : (0 < c → 0 ≤ (a * b).fmod c ∧ (a * b).fmod c < c) ∧ (c < 0 → (a * b).fmod c ≤ 0 ∧ c < (a * b).fmod c) := by
        refine ⟨fun h => ⟨Int.fmod_nonneg_of_pos _ h, Int.fmod_lt_of_pos _ h⟩, fun h => ?_⟩
        have e : (a * b).fmod c = -((-(a * b)).fmod (-c)) := by rw [Int.neg_fmod_neg]; omega
        rw [e]
        have h1 := Int.fmod_nonneg_of_pos (-(a * b)) (b := -c) (by omega)
        have h2 := Int.fmod_lt_of_pos (-(a * b)) (b := -c) (by omega)
        omega
      generalize (a * b).fmod c = m at *
      generalize a * b = P at *
      have e : RowKit.wrap64 (RowKit.wrap64 P - RowKit.wrap64 S) = m := by unfold RowKit.wrap64; omega
      rw [e]
      rcases Int.lt_or_le 0 c with hc0 | hc0
      · have := hb.1 hc0; omega
      · have := hb.2 (by omega); omega
    · left; rw [(md_over a b c hz (by omega)).2]; decide
theorem md_back (a b : Int) (ha : -9223372036854775808 ≤ a ∧ a ≤ 9223372036854775807) (hb : b ≠ 0) : mdV a b b = a ∧ mdE a b b = 0 := by
  have e : mdF a b b = a := Int.mul_fdiv_cancel a hb
  obtain ⟨h1, h2⟩ := md_fine a b b hb (by rw [e]; exact ha)
  exact ⟨h1.trans e, h2⟩

set_option maxRecDepth 100000 in
set_option maxHeartbeats 4000000 in
theorem walk (a b c : Int) (ha : -9223372036854775808 ≤ a ∧ a ≤ 9223372036854775807) (hb : -9223372036854775808 ≤ b ∧ b ≤ 9223372036854775807) (hc : -9223372036854775808 ≤ c ∧ c ≤ 9223372036854775807) (w : World) : Calls Try.prog 4 #[.int .i64 a, .int .i64 b, .int .i64 c] w fun e w' => e = .returned (.bool true) ∧ Below w.heap.size w w' := by
  have hl := md_left a b c hc
  have hk : (b = 0 ∧ mdE a b b = 4) ∨ (b ≠ 0 ∧ mdE a b b = 0 ∧ mdV a b b = a) := by
    by_cases h : b = 0
    · exact Or.inl ⟨h, (md_zero a b b h).2⟩
    · exact Or.inr ⟨h, (md_back a b ha h).2, (md_back a b ha h).1⟩
  have K1 := Lib.hid (fun w => num_muldiv a b c w ha hb hc)
  have K2 := Lib.hid (fun w => ref01_muldiv a b c w ha hb hc)
  have K3 := Lib.hid (fun w => num_muldiv a b b w ha hb hb)
  have K5 := Lib.hid (fun w => law01_size c w hc)
  generalize mdE a b c = E at *
  generalize mdV a b c = V at *
  generalize mdE a b b = G at *
  generalize mdV a b b = X at *
  have HC := Lib.hid hc
  clear ha hb hc
  rcases hl with h0 | ⟨rfl, L, hL, h0⟩
  · have h0' : (E == 0) = false := by simp; exact h0
    rcases hk with ⟨rfl, rfl⟩ | ⟨hb, rfl, rfl⟩
    all_goals go_enter Try.func4, Try.ntmps4
    all_goals go_wp2_with (first | (go_at_call 16; with_reducible refine (K1.out _).mono ?_; rintro e w1 ⟨rfl, hb1⟩; have z1 := hb1.size; (try simp at z1)) | (go_at_call 16; with_reducible refine (K3.out _).mono ?_; rintro e w3 ⟨rfl, hb3⟩; have z3 := hb3.size; (try simp at z3)) | (go_at_call 17; refine (K2.out _).mono ?_; rintro e w2 ⟨rfl, hb2⟩; have z2 := hb2.size; (try simp at z2)) | (go_at_call 14; refine (law01_same _ _ _).mono ?_; rintro e w' ⟨rfl, rfl⟩) | (go_at_call 15; refine (law01_awake _).mono ?_; rintro e w9 ⟨rfl, hb9⟩; have z9 := hb9.size; (try simp at z9)))
    all_goals go_ret
    all_goals refine ⟨rfl, ?_⟩
    all_goals (repeat' (first | with_reducible exact Below.refl _ _ | with_reducible refine Below.drew ?_ | with_reducible refine below_drewN ?_ _ | with_reducible refine Below.alloc ?_ ?_ _ | with_reducible refine Below.setCell ?_ ?_ _ | with_reducible refine Below.trans ?_ (Below.mono (by with_reducible assumption) ?_) | (simp; done) | (simp; omega) | omega))
  · have K4 := Lib.hid (fun w => law01_size L w (by have := HC.out; omega))
    rcases h0 with rfl | ⟨h1, h2⟩ | ⟨h1, h2⟩
    all_goals rcases hk with ⟨rfl, rfl⟩ | ⟨hb, rfl, rfl⟩
    all_goals (have e0 : RowKit.wrap64 0 = 0 := by unfold RowKit.wrap64; omega)
    all_goals (have hL2 := hL; try simp only [Int.mul_zero, e0] at hL2)
    all_goals (have hL3 := hL2; try simp only [Int.zero_sub] at hL3)
    all_goals go_enter Try.func4, Try.ntmps4
    all_goals go_wp2_with (first | (go_at_call 16; with_reducible refine (K1.out _).mono ?_; rintro e w1 ⟨rfl, hb1⟩; have z1 := hb1.size; (try simp at z1)) | (go_at_call 16; with_reducible refine (K3.out _).mono ?_; rintro e w3 ⟨rfl, hb3⟩; have z3 := hb3.size; (try simp at z3)) | (go_at_call 17; refine (K2.out _).mono ?_; rintro e w2 ⟨rfl, hb2⟩; have z2 := hb2.size; (try simp at z2)) | (go_at_call 18; with_reducible refine (K4.out _).mono ?_; rintro e w' ⟨rfl, rfl⟩) | (go_at_call 18; with_reducible refine (K5.out _).mono ?_; rintro e w' ⟨rfl, rfl⟩) | (go_at_call 14; refine (law01_same _ _ _).mono ?_; rintro e w' ⟨rfl, rfl⟩) | (go_at_call 15; refine (law01_awake _).mono ?_; rintro e w9 ⟨rfl, hb9⟩; have z9 := hb9.size; (try simp at z9)))
    all_goals go_ret
    all_goals refine ⟨rfl, ?_⟩
    all_goals (repeat' (first | with_reducible exact Below.refl _ _ | with_reducible refine Below.drew ?_ | with_reducible refine below_drewN ?_ _ | with_reducible refine Below.alloc ?_ ?_ _ | with_reducible refine Below.setCell ?_ ?_ _ | with_reducible refine Below.trans ?_ (Below.mono (by with_reducible assumption) ?_) | (simp; done) | (simp; omega) | omega))

set_option maxRecDepth 100000 in
theorem lifted (os : Os) (started : os.Started) (H : Type) (enc : TypeId × Value → H) :
    ReturnsInHanded {} Try.checked os 4 .any (Rows.numMulDivSpec.pre6 enc Try.prog Try.f4 Rows.numMulDivRow.domain false) (Rows.numMulDivSpec.post enc Try.prog Try.f4 false true false false) := by
  refine returnsInHanded_of_change (C := Try.checked) own started (by kernel_rfl) Try.func4
    (ChangeSpec.witness6 (enc := enc) (C := Try.checked) false ⟨#[], #[.int .i64 0, .int .i64 0, .int .i64 0], []⟩ 8 (by kernel_rfl) (by kernel_rfl) (by kernel_rfl) (by kernel_rfl)) ?_
  intro W base args ds gs before hval0 hW _ _
  have hval : ∀ (j : Nat) t v, Try.f4.params[j]? = some t → args[j]? = some v → Value.okWide Try.prog W .any base t v := hval0
  have hW' := hW
  obtain ⟨p, q, hA0, hV, rfl, _, _⟩ := hW
  have hA : DataW.TrodAll enc Try.prog W 0 (fun _ => true) true Try.f4.params.toList args.toList ds p := hA0
  rw [Try.params4] at hA hval
  obtain ⟨v0, v1, v2, d0, d1, d2, p0, p1, p2, rfl, rfl, rfl, h0, h1, h2⟩ := trodAll_three hA
  clear hA hA0 hval0
  obtain ⟨a0, rfl, ba0⟩ := int_open Try.underlying3 (hval 0 3 v0 rfl rfl)
  obtain ⟨a1, rfl, ba1⟩ := int_open Try.underlying3 (hval 1 3 v1 rfl rfl)
  obtain ⟨a2, rfl, ba2⟩ := int_open Try.underlying3 (hval 2 3 v2 rfl rfl)
  exact (walk a0 a1 a2 ba0 ba1 ba2 W).mono fun e W' ⟨he, hb⟩ => ⟨_, he, law_post laidOut (by kernel_rfl) rfl (fun _ => rfl) rfl Try.underlying4 hW' hb⟩

theorem holds : Rows.NumMulDivSaid :=
  OpenClaim.holds_of_wide 4 Try.f4 rfl rfl rfl rfl rfl rfl rfl ⟨rfl, rfl, rfl, rfl, rfl⟩ rfl rfl rfl rfl rfl (by kernel_rfl) Try.func4 (by kernel_rfl)
    (of_decide_eq_true (by kernel_rfl)) (by unfold Func.isWrapper; rw [if_neg (of_decide_eq_false (by kernel_rfl))]; exact ⟨rfl, rfl⟩)
    (fun os started H enc _ => lifted os started H enc)

#print axioms holds
end Go.Proofs.Ytimonckfibphcaa.numMulDiv
