/- What MulDiv of the reference returns: the floor of the exact quotient, or an error -/
import Derived.Test.YthodfmmmddfkmaaNumMulDiv
namespace Go.Proofs.Ythodfmmmddfkmaa
open Go.RowKit
set_option linter.unusedVariables false

set_option maxRecDepth 1000000 in
set_option maxHeartbeats 4000000 in
theorem ref01_muldiv (a b c : Int) (w : World) (ha : -9223372036854775808 ≤ a ∧ a ≤ 9223372036854775807) (hb : -9223372036854775808 ≤ b ∧ b ≤ 9223372036854775807) (hc : -9223372036854775808 ≤ c ∧ c ≤ 9223372036854775807) :
    Calls Try.prog 55 #[.int .i64 a, .int .i64 b, .int .i64 c] w fun e w' => e = .returned (.tuple #[.int .i64 (mdV a b c), .int .i64 (mdE a b c)]) ∧ Below w.heap.size w w' := by
  by_cases hz : c = 0
  · obtain ⟨h1, h2⟩ := md_zero a b c hz
    rw [h1, h2]
    clear h1 h2
    subst hz
    go_enter Try.func55, Try.ntmps55
    go_wp2_with fail
    go_ret2
    exact ⟨rfl, Below.refl _ _⟩
  have hz0 : (c == 0) = false := by simp; exact hz
  have hD : 0 < c.natAbs := by omega
  have K1 := Lib.hid (fun w => ref01_size a w ha)
  have K2 := Lib.hid (fun w => ref01_size b w hb)
  have K3 := Lib.hid (fun w => ref01_size c w hc)
  have KM := Lib.hid (fun w => ref01_product a.natAbs b.natAbs (by omega) (by omega) w)
  have hDb : c.natAbs < 18446744073709551616 := by omega
  have hZ := Lib.hid hz
  clear hz
  by_cases ho : c.natAbs ≤ a.natAbs * b.natAbs / 18446744073709551616
  · have HO := Lib.hid (md_out a b c hZ.out (md_high _ _ hD ho))
    have KN := Lib.hid (fun w => ref01_quot_no (a.natAbs * b.natAbs / 18446744073709551616) (a.natAbs * b.natAbs % 18446744073709551616) c.natAbs w ho)
    clear ha hb hc
    generalize a.natAbs * b.natAbs / 18446744073709551616 = hi at *
    generalize a.natAbs * b.natAbs % 18446744073709551616 = lo at *
    generalize a.natAbs = x at *
    generalize b.natAbs = y at *
    generalize c.natAbs = D at *
    go_enter Try.func55, Try.ntmps55
    go_wp2_with (first | (go_at_call 61; refine (KN.out _).mono ?_; rintro e w1 ⟨rfl, rfl⟩) | (go_at_call 56; first | ((with_reducible refine (K1.out _).mono ?_); rintro e w1 ⟨rfl, rfl⟩) | ((with_reducible refine (K2.out _).mono ?_); rintro e w1 ⟨rfl, rfl⟩) | ((with_reducible refine (K3.out _).mono ?_); rintro e w1 ⟨rfl, rfl⟩)) | (go_at_call 60; refine (KM.out _).mono ?_; rintro e w1 ⟨rfl, rfl⟩))
    go_ret2
    exact ⟨ret_int2 HO.out.1.symm HO.out.2.symm, Below.refl _ _⟩
  · have hm := md_low (a.natAbs * b.natAbs) c.natAbs hD (by omega)
    have hr := Nat.mod_lt (a.natAbs * b.natAbs) hD
    have KD0 := fun w => ref01_quot_yes (a.natAbs * b.natAbs / 18446744073709551616) (a.natAbs * b.natAbs % 18446744073709551616) c.natAbs w (by omega) hDb (Nat.mod_lt _ (by decide))
    simp only [Nat.div_add_mod'] at KD0
    have HF := Lib.hid (md_cases a b c hZ.out)
    have KD := Lib.hid KD0
    clear KD0 ha hb hc hDb
    generalize a.natAbs * b.natAbs / c.natAbs = q at *
    generalize a.natAbs * b.natAbs % c.natAbs = r at *
    generalize a.natAbs * b.natAbs / 18446744073709551616 = hi at *
    generalize a.natAbs * b.natAbs % 18446744073709551616 = lo at *
    generalize a.natAbs = x at *
    generalize b.natAbs = y at *
    generalize c.natAbs = D at *
    have HI : Hid ((q : Int) < 18446744073709551616) := Lib.hid (by omega)
    have hoB : decide ((D : Int) ≤ (hi : Int)) = false := decide_eq_false (by omega)
    have hoN : ¬ D ≤ hi := by omega
    clear hm hr hD ho
    cases hn : mdNeg a b c
    · have hs : (!decide (a < 0) == (!decide (b < 0) == decide (c < 0))) = false := by
        revert hn; unfold mdNeg; cases decide (a < 0) <;> cases decide (b < 0) <;> cases decide (c < 0) <;> decide
      have HV := Lib.hid (HF.out.1 hn)
      clear hn HF
      by_cases h63 : (9223372036854775808 : Int) ≤ (q : Int)
      · have HO := Lib.hid (md_over a b c hZ.out (by rw [HV.out]; omega))
        have hB : decide ((9223372036854775807 : Int) < (q : Int)) = true := decide_eq_true (by omega)
        clear h63
        go_enter Try.func55, Try.ntmps55
        go_wp2_with (first | (go_at_call 56; first | ((with_reducible refine (K1.out _).mono ?_); rintro e w1 ⟨rfl, rfl⟩) | ((with_reducible refine (K2.out _).mono ?_); rintro e w1 ⟨rfl, rfl⟩) | ((with_reducible refine (K3.out _).mono ?_); rintro e w1 ⟨rfl, rfl⟩)) | (go_at_call 60; refine (KM.out _).mono ?_; rintro e w1 ⟨rfl, rfl⟩) | (go_at_call 61; refine (KD.out _).mono ?_; rintro e w1 ⟨rfl, rfl⟩))
        go_ret2
        exact ⟨ret_int2 HO.out.1.symm HO.out.2.symm, Below.refl _ _⟩
      · have HO := Lib.hid (md_fine a b c hZ.out (by rw [HV.out]; omega))
        have hB : decide ((9223372036854775807 : Int) < (q : Int)) = false := decide_eq_false (by omega)
        have H6 := Lib.hid h63
        clear h63
        go_enter Try.func55, Try.ntmps55
        go_wp2_with (first | (go_at_call 56; first | ((with_reducible refine (K1.out _).mono ?_); rintro e w1 ⟨rfl, rfl⟩) | ((with_reducible refine (K2.out _).mono ?_); rintro e w1 ⟨rfl, rfl⟩) | ((with_reducible refine (K3.out _).mono ?_); rintro e w1 ⟨rfl, rfl⟩)) | (go_at_call 60; refine (KM.out _).mono ?_; rintro e w1 ⟨rfl, rfl⟩) | (go_at_call 61; refine (KD.out _).mono ?_; rintro e w1 ⟨rfl, rfl⟩))
        go_ret2
        exact ⟨ret_int2 (by rw [HO.out.1, HV.out]; have hqI := HI.out; have h63 := H6.out; first | rfl | (unfold RowKit.wrap64; (try simp only [IntKind.wrap_u64]); omega)) HO.out.2.symm, Below.refl _ _⟩
    · have hs : (!decide (a < 0) == (!decide (b < 0) == decide (c < 0))) = true := by
        revert hn; unfold mdNeg; cases decide (a < 0) <;> cases decide (b < 0) <;> cases decide (c < 0) <;> decide
      have HQ := Lib.hid (HF.out.2 hn)
      clear hn HF
      by_cases h63 : (9223372036854775808 : Int) < (q : Int)
      · have HO := Lib.hid (md_over a b c hZ.out (by rw [HQ.out]; split <;> omega))
        have hB : decide ((9223372036854775808 : Int) < (q : Int)) = true := decide_eq_true h63
        clear h63
        go_enter Try.func55, Try.ntmps55
        go_wp2_with (first | (go_at_call 56; first | ((with_reducible refine (K1.out _).mono ?_); rintro e w1 ⟨rfl, rfl⟩) | ((with_reducible refine (K2.out _).mono ?_); rintro e w1 ⟨rfl, rfl⟩) | ((with_reducible refine (K3.out _).mono ?_); rintro e w1 ⟨rfl, rfl⟩)) | (go_at_call 60; refine (KM.out _).mono ?_; rintro e w1 ⟨rfl, rfl⟩) | (go_at_call 61; refine (KD.out _).mono ?_; rintro e w1 ⟨rfl, rfl⟩))
        go_ret2
        exact ⟨ret_int2 HO.out.1.symm HO.out.2.symm, Below.refl _ _⟩
      have hB : decide ((9223372036854775808 : Int) < (q : Int)) = false := decide_eq_false h63
      have H6 := Lib.hid h63
      by_cases hr : r = 0
      · subst hr
        have HO := Lib.hid (md_fine a b c hZ.out (by rw [HQ.out, if_pos rfl]; omega))
        have HV : Hid (mdF a b c = -(q : Int)) := Lib.hid (by rw [HQ.out, if_pos rfl])
        by_cases he : (q : Int) = 9223372036854775808
        · have he1 : ((q : Int) == 9223372036854775808) = true := by simp; omega
          clear he h63
          go_enter Try.func55, Try.ntmps55
          go_wp2_with (first | (go_at_call 56; first | ((with_reducible refine (K1.out _).mono ?_); rintro e w1 ⟨rfl, rfl⟩) | ((with_reducible refine (K2.out _).mono ?_); rintro e w1 ⟨rfl, rfl⟩) | ((with_reducible refine (K3.out _).mono ?_); rintro e w1 ⟨rfl, rfl⟩)) | (go_at_call 60; refine (KM.out _).mono ?_; rintro e w1 ⟨rfl, rfl⟩) | (go_at_call 61; refine (KD.out _).mono ?_; rintro e w1 ⟨rfl, rfl⟩))
          go_ret2
          exact ⟨ret_int2 (by rw [HO.out.1, HV.out]; have hqI := HI.out; have h63 := H6.out; first | rfl | (unfold RowKit.wrap64; (try simp only [IntKind.wrap_u64]); omega)) HO.out.2.symm, Below.refl _ _⟩
        · have he0 : ((q : Int) == 9223372036854775808) = false := by simp; omega
          clear he h63
          go_enter Try.func55, Try.ntmps55
          go_wp2_with (first | (go_at_call 56; first | ((with_reducible refine (K1.out _).mono ?_); rintro e w1 ⟨rfl, rfl⟩) | ((with_reducible refine (K2.out _).mono ?_); rintro e w1 ⟨rfl, rfl⟩) | ((with_reducible refine (K3.out _).mono ?_); rintro e w1 ⟨rfl, rfl⟩)) | (go_at_call 60; refine (KM.out _).mono ?_; rintro e w1 ⟨rfl, rfl⟩) | (go_at_call 61; refine (KD.out _).mono ?_; rintro e w1 ⟨rfl, rfl⟩))
          go_ret2
          exact ⟨ret_int2 (by rw [HO.out.1, HV.out]; have hqI := HI.out; have h63 := H6.out; first | rfl | (unfold RowKit.wrap64; (try simp only [IntKind.wrap_u64]); omega)) HO.out.2.symm, Below.refl _ _⟩
      · have hr1 : 0 < r := by omega
        have HR := Lib.hid hr
        clear hr
        by_cases he : (q : Int) = 9223372036854775808
        · have HO := Lib.hid (md_over a b c hZ.out (by rw [HQ.out, if_neg HR.out]; omega))
          have he1 : ((q : Int) == 9223372036854775808) = true := by simp; omega
          clear he h63
          go_enter Try.func55, Try.ntmps55
          go_wp2_with (first | (go_at_call 56; first | ((with_reducible refine (K1.out _).mono ?_); rintro e w1 ⟨rfl, rfl⟩) | ((with_reducible refine (K2.out _).mono ?_); rintro e w1 ⟨rfl, rfl⟩) | ((with_reducible refine (K3.out _).mono ?_); rintro e w1 ⟨rfl, rfl⟩)) | (go_at_call 60; refine (KM.out _).mono ?_; rintro e w1 ⟨rfl, rfl⟩) | (go_at_call 61; refine (KD.out _).mono ?_; rintro e w1 ⟨rfl, rfl⟩))
          go_ret2
          exact ⟨ret_int2 HO.out.1.symm HO.out.2.symm, Below.refl _ _⟩
        · have he0 : ((q : Int) == 9223372036854775808) = false := by simp; omega
          have HO := Lib.hid (md_fine a b c hZ.out (by rw [HQ.out, if_neg HR.out]; omega))
          have HV : Hid (mdF a b c = -(q : Int) - 1) := Lib.hid (by rw [HQ.out, if_neg HR.out])
          have H7 := Lib.hid he
          clear he h63
          go_enter Try.func55, Try.ntmps55
          go_wp2_with (first | (go_at_call 56; first | ((with_reducible refine (K1.out _).mono ?_); rintro e w1 ⟨rfl, rfl⟩) | ((with_reducible refine (K2.out _).mono ?_); rintro e w1 ⟨rfl, rfl⟩) | ((with_reducible refine (K3.out _).mono ?_); rintro e w1 ⟨rfl, rfl⟩)) | (go_at_call 60; refine (KM.out _).mono ?_; rintro e w1 ⟨rfl, rfl⟩) | (go_at_call 61; refine (KD.out _).mono ?_; rintro e w1 ⟨rfl, rfl⟩))
          go_ret2
          exact ⟨ret_int2 (by rw [HO.out.1, HV.out]; have hqI := HI.out; have h63 := H6.out; have he := H7.out; first | rfl | (unfold RowKit.wrap64; (try simp only [IntKind.wrap_u64]); omega)) HO.out.2.symm, Below.refl _ _⟩
end Go.Proofs.Ythodfmmmddfkmaa
