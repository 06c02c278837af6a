/- What MulDiv returns, in the program and in the reference: the floor of the exact quotient, or an error -/
import Derived.Test.YtkiadcgdmeebmaaNumRound
import Derived.Test.YtkiadcgdmeebmaaNumDiv
import Derived.Test.YtkiadcgdmeebmaaNumQuot
namespace Go.Proofs.Ytkiadcgdmeebmaa
open Go.RowKit
set_option linter.unusedVariables false

def mdF (a b c : Int) : Int := (a * b).fdiv c
def mdE (a b c : Int) : Int := if c = 0 then 4 else if -9223372036854775808 ≤ mdF a b c ∧ mdF a b c ≤ 9223372036854775807 then 0 else 3
def mdV (a b c : Int) : Int := if mdE a b c = 0 then mdF a b c else 0
theorem md_zero (a b c : Int) (hc : c = 0) : mdV a b c = 0 ∧ mdE a b c = 4 := by
  have h : mdE a b c = 4 := by unfold mdE; rw [if_pos hc]
  exact ⟨by unfold mdV; rw [h, if_neg (by decide)], h⟩
theorem md_over (a b c : Int) (hc : c ≠ 0) (h : mdF a b c < -9223372036854775808 ∨ 9223372036854775807 < mdF a b c) : mdV a b c = 0 ∧ mdE a b c = 3 := by
  have h : mdE a b c = 3 := by unfold mdE; rw [if_neg hc, if_neg (by omega)]
  exact ⟨by unfold mdV; rw [h, if_neg (by decide)], h⟩
theorem md_fine (a b c : Int) (hc : c ≠ 0) (h : -9223372036854775808 ≤ mdF a b c ∧ mdF a b c ≤ 9223372036854775807) : mdV a b c = mdF a b c ∧ mdE a b c = 0 := by
  have h : mdE a b c = 0 := by unfold mdE; rw [if_neg hc, if_pos h]
  exact ⟨by unfold mdV; rw [h, if_pos rfl], h⟩

theorem fd_pos (P D : Nat) : (P : Int).fdiv (D : Int) = ((P / D : Nat) : Int) := by
  rw [Int.fdiv_eq_ediv_of_nonneg _ (by omega)]; rfl
theorem fd_neg (P D : Nat) (hD : 0 < D) : (-(P : Int)).fdiv (D : Int) = if P % D = 0 then -((P / D : Nat) : Int) else -((P / D : Nat) : Int) - 1 := by
  rw [Int.fdiv_eq_ediv_of_nonneg _ (by omega)]
  have h := Nat.div_add_mod' P D
  have hm := Nat.mod_lt P hD
  generalize P / D = q at *
  generalize P % D = r at *
  have e : (P : Int) = (q : Int) * (D : Int) + (r : Int) := by rw [← h]; simp
  split
  · rename_i h0
    subst h0
    have e2 : -(P : Int) = -(q : Int) * (D : Int) := by rw [e, Int.neg_mul]; omega
    rw [e2, Int.mul_ediv_cancel _ (by omega)]
  · have e2 : -(P : Int) = ((D : Int) - (r : Int)) + (-(q : Int) - 1) * (D : Int) := by rw [e, Int.sub_mul, Int.neg_mul]; omega
    rw [e2, Int.add_mul_ediv_right _ _ (by omega), Int.ediv_eq_zero_of_lt (by omega) (by omega)]
    omega
/-- The floor of the quotient out of the numbers' sizes. -/
theorem md_same (a b c : Int) (x y D : Nat) (hs : (a = x ∧ b = y ∧ c = D) ∨ (a = -x ∧ b = -y ∧ c = D) ∨ (a = -x ∧ b = y ∧ c = -D) ∨ (a = x ∧ b = -y ∧ c = -D)) : mdF a b c = ((x * y / D : Nat) : Int) := by
  unfold mdF
  rcases hs with ⟨rfl, rfl, rfl⟩ | ⟨rfl, rfl, rfl⟩ | ⟨rfl, rfl, rfl⟩ | ⟨rfl, rfl, rfl⟩
  · rw [← Int.natCast_mul]; exact fd_pos _ _
  · rw [Int.neg_mul_neg, ← Int.natCast_mul]; exact fd_pos _ _
  · rw [Int.neg_mul, ← Int.natCast_mul, Int.neg_fdiv_neg]; exact fd_pos _ _
  · rw [Int.mul_neg, ← Int.natCast_mul, Int.neg_fdiv_neg]; exact fd_pos _ _
theorem md_diff (a b c : Int) (x y D : Nat) (hD : 0 < D) (hs : (a = x ∧ b = y ∧ c = -D) ∨ (a = -x ∧ b = -y ∧ c = -D) ∨ (a = -x ∧ b = y ∧ c = D) ∨ (a = x ∧ b = -y ∧ c = D)) : mdF a b c = if x * y % D = 0 then -((x * y / D : Nat) : Int) else -((x * y / D : Nat) : Int) - 1 := by
  unfold mdF
  have hn : ∀ z : Int, z.fdiv (-(D : Int)) = (-z).fdiv (D : Int) := fun z => by rw [← Int.neg_fdiv_neg, Int.neg_neg]
  rcases hs with ⟨rfl, rfl, rfl⟩ | ⟨rfl, rfl, rfl⟩ | ⟨rfl, rfl, rfl⟩ | ⟨rfl, rfl, rfl⟩
  · rw [← Int.natCast_mul, hn]; exact fd_neg _ _ hD
  · rw [Int.neg_mul_neg, ← Int.natCast_mul, hn]; exact fd_neg _ _ hD
  · rw [Int.neg_mul, ← Int.natCast_mul]; exact fd_neg _ _ hD
  · rw [Int.mul_neg, ← Int.natCast_mul]; exact fd_neg _ _ hD
/-- The upper half of the product against the divisor. -/
theorem md_high (P D : Nat) (hD : 0 < D) (h : D ≤ P / 18446744073709551616) : 18446744073709551616 ≤ P / D := by
  rw [Nat.le_div_iff_mul_le hD, Nat.mul_comm]
  exact Nat.le_trans (Nat.mul_le_mul_right _ h) (Nat.div_mul_le_self _ _)
theorem md_low (P D : Nat) (hD : 0 < D) (h : P / 18446744073709551616 < D) : P / D < 18446744073709551616 := by
  rw [Nat.div_lt_iff_lt_mul hD, Nat.mul_comm, ← Nat.div_lt_iff_lt_mul (by decide)]
  exact h

theorem num_size (n : Int) (w : World) (h : -9223372036854775808 ≤ n ∧ n ≤ 9223372036854775807) : Calls Try.prog 54 #[.int .i64 n] w fun e w' => e = .returned (.int .u64 (n.natAbs : Int)) ∧ w = w' := by
  by_cases hn : n < 0
  · go_enter Try.func54, Try.ntmps54
    go_wp2
    go_ret
    refine ⟨ret_int ?_, rfl⟩
    first | omega | (simp only [IntKind.wrap_u64] at *; omega) | (simp [IntKind.wrap_u64]; omega)
  · go_enter Try.func54, Try.ntmps54
    go_wp2
    go_ret
    refine ⟨ret_int ?_, rfl⟩
    first | omega | (simp only [IntKind.wrap_u64] at *; omega) | (simp [IntKind.wrap_u64]; omega)

/-- The signs of three numbers, and whether the quotient is negative (its size aside). -/
theorem md_signs (a b c : Int) : (a = a.natAbs ∧ 0 ≤ a ∨ a = -a.natAbs ∧ a < 0) ∧ (b = b.natAbs ∧ 0 ≤ b ∨ b = -b.natAbs ∧ b < 0) ∧ (c = c.natAbs ∧ 0 ≤ c ∨ c = -c.natAbs ∧ c < 0) := by omega
/-- Is the quotient negative, but for its size? -/
def mdNeg (a b c : Int) : Bool := (decide (a < 0) != decide (b < 0)) != decide (c < 0)
theorem md_cases (a b c : Int) (hc : c ≠ 0) : (mdNeg a b c = false → mdF a b c = ((a.natAbs * b.natAbs / c.natAbs : Nat) : Int)) ∧ (mdNeg a b c = true → mdF a b c = if a.natAbs * b.natAbs % c.natAbs = 0 then -((a.natAbs * b.natAbs / c.natAbs : Nat) : Int) else -((a.natAbs * b.natAbs / c.natAbs : Nat) : Int) - 1) := by
  unfold mdNeg
  obtain ⟨h1, h2, h3⟩ := md_signs a b c
  have hD : 0 < c.natAbs := by omega
  rcases h1 with ⟨a1, a2⟩ | ⟨a1, a2⟩ <;> rcases h2 with ⟨b1, b2⟩ | ⟨b1, b2⟩ <;> rcases h3 with ⟨c1, c2⟩ | ⟨c1, c2⟩
  all_goals refine ⟨fun h => ?_, fun h => ?_⟩
  all_goals first
    | (exfalso; simp only [decide_eq_true a2, decide_eq_true b2, decide_eq_true c2, decide_eq_false (Int.not_lt.2 a2), decide_eq_false (Int.not_lt.2 b2), decide_eq_false (Int.not_lt.2 c2)] at h; exact absurd h (by decide))
    | exact md_same a b c a.natAbs b.natAbs c.natAbs (by omega)
    | exact md_diff a b c a.natAbs b.natAbs c.natAbs hD (by omega)
theorem md_out (a b c : Int) (hc : c ≠ 0) (h : 18446744073709551616 ≤ a.natAbs * b.natAbs / c.natAbs) : mdV a b c = 0 ∧ mdE a b c = 3 := by
  refine md_over a b c hc ?_
  obtain ⟨h1, h2⟩ := md_cases a b c hc
  cases hn : mdNeg a b c
  · rw [h1 hn]; omega
  · rw [h2 hn]; split <;> omega


set_option maxRecDepth 1000000 in
set_option maxHeartbeats 4000000 in
theorem num_muldiv (a b c : Int) (w : World) (ha : -9223372036854775808 ≤ a ∧ a ≤ 9223372036854775807) (hb : -9223372036854775808 ≤ b ∧ b ≤ 9223372036854775807) (hc : -9223372036854775808 ≤ c ∧ c ≤ 9223372036854775807) :
    Calls Try.prog 48 #[.int .i64 a, .int .i64 b, .int .i64 c] w fun e w' => e = .returned (.tuple #[.int .i64 (mdV a b c), .int .i64 (mdE a b c)]) ∧ Below w.heap.size w w' := by
  by_cases hz : c = 0
  · obtain ⟨h1, h2⟩ := md_zero a b c hz
    rw [h1, h2]
    clear h1 h2
    subst hz
    go_enter Try.func48, Try.ntmps48
    go_wp2_with fail
    go_ret2
    exact ⟨rfl, Below.refl _ _⟩
  have hz0 : (c == 0) = false := by simp; exact hz
  have hD : 0 < c.natAbs := by omega
  have K1 := Lib.hid (fun w => num_size a w ha)
  have K2 := Lib.hid (fun w => num_size b w hb)
  have K3 := Lib.hid (fun w => num_size c w hc)
  have KM := Lib.hid (fun w => bits_mul64 a.natAbs b.natAbs (by omega) (by omega) w)
  have hDb : c.natAbs < 18446744073709551616 := by omega
  have hZ := Lib.hid hz
  clear hz
  by_cases ho : c.natAbs ≤ a.natAbs * b.natAbs / 18446744073709551616
  · have HO := Lib.hid (md_out a b c hZ.out (md_high _ _ hD ho))
    clear ha hb hc
    generalize a.natAbs * b.natAbs / 18446744073709551616 = hi at *
    generalize a.natAbs * b.natAbs % 18446744073709551616 = lo at *
    generalize a.natAbs = x at *
    generalize b.natAbs = y at *
    generalize c.natAbs = D at *
    go_enter Try.func48, Try.ntmps48
    go_wp2_with (first | (go_at_call 54; first | ((with_reducible refine (K1.out _).mono ?_); rintro e w1 ⟨rfl, rfl⟩) | ((with_reducible refine (K2.out _).mono ?_); rintro e w1 ⟨rfl, rfl⟩) | ((with_reducible refine (K3.out _).mono ?_); rintro e w1 ⟨rfl, rfl⟩)) | (go_at_call 53; refine (KM.out _).mono ?_; rintro e w1 ⟨rfl, rfl⟩))
    go_ret2
    exact ⟨ret_int2 HO.out.1.symm HO.out.2.symm, Below.refl _ _⟩
  · have hm := md_low (a.natAbs * b.natAbs) c.natAbs hD (by omega)
    have hr := Nat.mod_lt (a.natAbs * b.natAbs) hD
    have KD0 := fun w => bits_div64 (a.natAbs * b.natAbs / 18446744073709551616) (a.natAbs * b.natAbs % 18446744073709551616) c.natAbs w (by omega) hDb (Nat.mod_lt _ (by decide))
    simp only [Nat.div_add_mod'] at KD0
    have HF := Lib.hid (md_cases a b c hZ.out)
    have KD := Lib.hid KD0
    clear KD0 ha hb hc hDb
    generalize a.natAbs * b.natAbs / c.natAbs = q at *
    generalize a.natAbs * b.natAbs % c.natAbs = r at *
    generalize a.natAbs * b.natAbs / 18446744073709551616 = hi at *
    generalize a.natAbs * b.natAbs % 18446744073709551616 = lo at *
    generalize a.natAbs = x at *
    generalize b.natAbs = y at *
    generalize c.natAbs = D at *
    have HI : Hid ((q : Int) < 18446744073709551616) := Lib.hid (by omega)
    have hoB : decide ((D : Int) ≤ (hi : Int)) = false := decide_eq_false (by omega)
    have hoN : ¬ D ≤ hi := by omega
    clear hm hr hD ho
    cases hn : mdNeg a b c
    · have hs : ((!decide (a < 0) == decide (b < 0)) == decide (c < 0)) = true := by
        revert hn; unfold mdNeg; cases decide (a < 0) <;> cases decide (b < 0) <;> cases decide (c < 0) <;> decide
      have HV := Lib.hid (HF.out.1 hn)
      clear hn HF
      by_cases h63 : (9223372036854775808 : Int) ≤ (q : Int)
      · have HO := Lib.hid (md_over a b c hZ.out (by rw [HV.out]; omega))
        have hB : decide ((9223372036854775808 : Int) ≤ (q : Int)) = true := decide_eq_true (by omega)
        clear h63
        go_enter Try.func48, Try.ntmps48
        go_wp2_with (first | (go_at_call 54; first | ((with_reducible refine (K1.out _).mono ?_); rintro e w1 ⟨rfl, rfl⟩) | ((with_reducible refine (K2.out _).mono ?_); rintro e w1 ⟨rfl, rfl⟩) | ((with_reducible refine (K3.out _).mono ?_); rintro e w1 ⟨rfl, rfl⟩)) | (go_at_call 53; refine (KM.out _).mono ?_; rintro e w1 ⟨rfl, rfl⟩) | (go_at_call 55; refine (KD.out _).mono ?_; rintro e w1 ⟨rfl, hb1⟩))
        go_ret2
        exact ⟨ret_int2 HO.out.1.symm HO.out.2.symm, hb1⟩
      · have HO := Lib.hid (md_fine a b c hZ.out (by rw [HV.out]; omega))
        have hB : decide ((9223372036854775808 : Int) ≤ (q : Int)) = false := decide_eq_false (by omega)
        have H6 := Lib.hid h63
        clear h63
        go_enter Try.func48, Try.ntmps48
        go_wp2_with (first | (go_at_call 54; first | ((with_reducible refine (K1.out _).mono ?_); rintro e w1 ⟨rfl, rfl⟩) | ((with_reducible refine (K2.out _).mono ?_); rintro e w1 ⟨rfl, rfl⟩) | ((with_reducible refine (K3.out _).mono ?_); rintro e w1 ⟨rfl, rfl⟩)) | (go_at_call 53; refine (KM.out _).mono ?_; rintro e w1 ⟨rfl, rfl⟩) | (go_at_call 55; refine (KD.out _).mono ?_; rintro e w1 ⟨rfl, hb1⟩))
        go_ret2
        exact ⟨ret_int2 (by rw [HO.out.1, HV.out]; have hqI := HI.out; have h63 := H6.out; first | rfl | (unfold RowKit.wrap64; (try simp only [IntKind.wrap_u64]); omega)) HO.out.2.symm, hb1⟩
    · have hs : ((!decide (a < 0) == decide (b < 0)) == decide (c < 0)) = false := by
        revert hn; unfold mdNeg; cases decide (a < 0) <;> cases decide (b < 0) <;> cases decide (c < 0) <;> decide
      have HQ := Lib.hid (HF.out.2 hn)
      clear hn HF
      by_cases h63 : (9223372036854775808 : Int) < (q : Int)
      · have HO := Lib.hid (md_over a b c hZ.out (by rw [HQ.out]; split <;> omega))
        have hB : decide ((9223372036854775808 : Int) < (q : Int)) = true := decide_eq_true h63
        clear h63
        go_enter Try.func48, Try.ntmps48
        go_wp2_with (first | (go_at_call 54; first | ((with_reducible refine (K1.out _).mono ?_); rintro e w1 ⟨rfl, rfl⟩) | ((with_reducible refine (K2.out _).mono ?_); rintro e w1 ⟨rfl, rfl⟩) | ((with_reducible refine (K3.out _).mono ?_); rintro e w1 ⟨rfl, rfl⟩)) | (go_at_call 53; refine (KM.out _).mono ?_; rintro e w1 ⟨rfl, rfl⟩) | (go_at_call 55; refine (KD.out _).mono ?_; rintro e w1 ⟨rfl, hb1⟩))
        go_ret2
        exact ⟨ret_int2 HO.out.1.symm HO.out.2.symm, hb1⟩
      have hB : decide ((9223372036854775808 : Int) < (q : Int)) = false := decide_eq_false h63
      have H6 := Lib.hid h63
      by_cases hr : r = 0
      · subst hr
        have HO := Lib.hid (md_fine a b c hZ.out (by rw [HQ.out, if_pos rfl]; omega))
        have HV : Hid (mdF a b c = -(q : Int)) := Lib.hid (by rw [HQ.out, if_pos rfl])
        by_cases he : (q : Int) = 9223372036854775808
        · have he1 : ((q : Int) == 9223372036854775808) = true := by simp; omega
          clear he h63
          go_enter Try.func48, Try.ntmps48
          go_wp2_with (first | (go_at_call 54; first | ((with_reducible refine (K1.out _).mono ?_); rintro e w1 ⟨rfl, rfl⟩) | ((with_reducible refine (K2.out _).mono ?_); rintro e w1 ⟨rfl, rfl⟩) | ((with_reducible refine (K3.out _).mono ?_); rintro e w1 ⟨rfl, rfl⟩)) | (go_at_call 53; refine (KM.out _).mono ?_; rintro e w1 ⟨rfl, rfl⟩) | (go_at_call 55; refine (KD.out _).mono ?_; rintro e w1 ⟨rfl, hb1⟩))
          go_ret2
          exact ⟨ret_int2 (by rw [HO.out.1, HV.out]; have hqI := HI.out; have h63 := H6.out; first | rfl | (unfold RowKit.wrap64; (try simp only [IntKind.wrap_u64]); omega)) HO.out.2.symm, hb1⟩
        · have he0 : ((q : Int) == 9223372036854775808) = false := by simp; omega
          clear he h63
          go_enter Try.func48, Try.ntmps48
          go_wp2_with (first | (go_at_call 54; first | ((with_reducible refine (K1.out _).mono ?_); rintro e w1 ⟨rfl, rfl⟩) | ((with_reducible refine (K2.out _).mono ?_); rintro e w1 ⟨rfl, rfl⟩) | ((with_reducible refine (K3.out _).mono ?_); rintro e w1 ⟨rfl, rfl⟩)) | (go_at_call 53; refine (KM.out _).mono ?_; rintro e w1 ⟨rfl, rfl⟩) | (go_at_call 55; refine (KD.out _).mono ?_; rintro e w1 ⟨rfl, hb1⟩))
          go_ret2
          exact ⟨ret_int2 (by rw [HO.out.1, HV.out]; have hqI := HI.out; have h63 := H6.out; first | rfl | (unfold RowKit.wrap64; (try simp only [IntKind.wrap_u64]); omega)) HO.out.2.symm, hb1⟩
      · have hr1 : 0 < r := by omega
        have HR := Lib.hid hr
        clear hr
        by_cases he : (q : Int) = 9223372036854775808
        · have HO := Lib.hid (md_over a b c hZ.out (by rw [HQ.out, if_neg HR.out]; omega))
          have he1 : ((q : Int) == 9223372036854775808) = true := by simp; omega
          clear he h63
          go_enter Try.func48, Try.ntmps48
          go_wp2_with (first | (go_at_call 54; first | ((with_reducible refine (K1.out _).mono ?_); rintro e w1 ⟨rfl, rfl⟩) | ((with_reducible refine (K2.out _).mono ?_); rintro e w1 ⟨rfl, rfl⟩) | ((with_reducible refine (K3.out _).mono ?_); rintro e w1 ⟨rfl, rfl⟩)) | (go_at_call 53; refine (KM.out _).mono ?_; rintro e w1 ⟨rfl, rfl⟩) | (go_at_call 55; refine (KD.out _).mono ?_; rintro e w1 ⟨rfl, hb1⟩))
          go_ret2
          exact ⟨ret_int2 HO.out.1.symm HO.out.2.symm, hb1⟩
        · have he0 : ((q : Int) == 9223372036854775808) = false := by simp; omega
          have HO := Lib.hid (md_fine a b c hZ.out (by rw [HQ.out, if_neg HR.out]; omega))
          have HV : Hid (mdF a b c = -(q : Int) - 1) := Lib.hid (by rw [HQ.out, if_neg HR.out])
          have H7 := Lib.hid he
          clear he h63
          go_enter Try.func48, Try.ntmps48
          go_wp2_with (first | (go_at_call 54; first | ((with_reducible refine (K1.out _).mono ?_); rintro e w1 ⟨rfl, rfl⟩) | ((with_reducible refine (K2.out _).mono ?_); rintro e w1 ⟨rfl, rfl⟩) | ((with_reducible refine (K3.out _).mono ?_); rintro e w1 ⟨rfl, rfl⟩)) | (go_at_call 53; refine (KM.out _).mono ?_; rintro e w1 ⟨rfl, rfl⟩) | (go_at_call 55; refine (KD.out _).mono ?_; rintro e w1 ⟨rfl, hb1⟩))
          go_ret2
          exact ⟨ret_int2 (by rw [HO.out.1, HV.out]; have hqI := HI.out; have h63 := H6.out; have he := H7.out; first | rfl | (unfold RowKit.wrap64; (try simp only [IntKind.wrap_u64]); omega)) HO.out.2.symm, hb1⟩
end Go.Proofs.Ytkiadcgdmeebmaa
