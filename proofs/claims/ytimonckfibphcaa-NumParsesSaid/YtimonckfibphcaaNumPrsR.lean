/- What Parse of the reference returns: the number that the text tells, or an error -/
import Derived.Test.YtimonckfibphcaaNumPrs
namespace Go.Proofs.Ytimonckfibphcaa
open Go.RowKit
set_option linter.unusedVariables false

/-- The test before each digit of the reference: does the number stay within -2^63? -/
theorem ref_fit (V d : Nat) (hV : V ≤ 9223372036854775808) (hd : d ≤ 9) : (-(V : Int) < (-9223372036854775808 + (d : Int)).tdiv 10) ↔ 9223372036854775808 < 10 * V + d := by
  have e : (-9223372036854775808 + (d : Int)).tdiv 10 = -((9223372036854775808 - (d : Int)) / 10) := by
    rw [show (-9223372036854775808 + (d : Int)) = -(9223372036854775808 - (d : Int)) from by omega, Int.neg_tdiv, Int.tdiv_eq_ediv_of_nonneg (by omega)]
  rw [e]
  omega

set_option maxRecDepth 1000000 in
set_option maxHeartbeats 8000000 in
theorem ref01_parse_pos (s : ByteArray) (w : World) (hs : s.size ≤ 9223372036854775807) (hn : psNeg s = false) (h0 : 0 < psM s) (hz : ¬ (psF s 0 = 48 ∧ 1 < s.size)) :
    Calls Try.prog 24 #[.string s] w fun e w' => e = .returned (.tuple #[.int .i64 (psV s), .int .i64 (psE s)]) ∧ w = w' := by
  have hm : psM s + 0 = s.size := by unfold psM psFrom; rw [hn]; rfl
  have hF : ∀ k (h : k < s.size), psF s k = (s[k]'h).toNat := fun k h => by
    unfold psF psFrom
    rw [hn]
    simp [h]
    rfl
  have h01 : 0 < s.size := by omega
  have hne : ¬ s[0].toNat = 45 := ps_first s h01 hn
  have hne' : ((s[0].toNat : Int) == 45) = false := by simp; omega
  have HN := Lib.hid hn
  have HF := Lib.hid hF
  have HM := Lib.hid hm
  have HZ := Lib.hid hz
  have hF0 : psF s 0 = (s[0]'h01).toNat := hF 0 h01
  rw [hF0] at hz
  have hsi : (0 : Int) < (s.size : Int) := by omega
  have hlen : ((s.size : Int) == 0) = false := beq_eq_false_iff_ne.2 (by omega)
  have hq : (((s[0].toNat : Int) == 48) = false) ∨ (((s[0].toNat : Int) == 48) = true ∧ ¬ (1 : Int) < (s.size : Int)) := by
    by_cases h : s[0].toNat = 48
    · exact Or.inr ⟨by simp; omega, fun h3 => hz ⟨h, by omega⟩⟩
    · exact Or.inl (by simp; omega)
  clear hn hF hm hz hF0
  rcases hq with hq | ⟨hq, hq2⟩
  all_goals
    go_enter Try.func24, Try.ntmps24
    go_wp2_with fail
    clear hne' hq hlen hne
    go_loop [5] (fun a => ∃ k : Nat, a = .int .i64 (k : Int) ∧ k ≤ psM s ∧ ∀ j, j < k → 48 ≤ psF s j ∧ psF s j ≤ 57) (fun i => s.size - (intOf i).toNat)
    case atStart => exact ⟨0, rfl, by omega, fun j h => absurd h (by omega)⟩
    case round =>
      obtain ⟨k, rfl, hk, hg⟩ := hrel
      by_cases hlt : k < psM s
      · have hix : k < s.size := by rw [← HM.out]; omega
        have hFk := HF.out k hix
        obtain ⟨c, hc⟩ : ∃ c, s[k] = c := ⟨_, rfl⟩
        rw [hc] at hFk
        have HFk := Lib.hid hFk
        rcases (by omega : c.toNat < 48 ∨ 57 < c.toNat ∨ (48 ≤ c.toNat ∧ c.toNat ≤ 57)) with hb | hb | ⟨hb1, hb2⟩
        · have HO := Lib.hid (ps_bad s (fun h => absurd (h.2 k hlt) (fun hg => by have h1 := hg.1; rw [hFk] at h1; omega)))
          have hb' : (c.toNat : Int) < 48 := by omega
          clear hg hFk hb hlt hk
          go_wp2_with fail
          go_ret2
          exact ⟨ret_int2 HO.out.1.symm HO.out.2.symm, rfl⟩
        · have HO := Lib.hid (ps_bad s (fun h => absurd (h.2 k hlt) (fun hg => by have h1 := hg.2.1; rw [hFk] at h1; omega)))
          have hb' : (57 : Int) < (c.toNat : Int) := by omega
          have hb'' : ¬ (c.toNat : Int) < 48 := by omega
          clear hg hFk hb hlt hk
          go_wp2_with fail
          go_ret2
          exact ⟨ret_int2 HO.out.1.symm HO.out.2.symm, rfl⟩
        · have c1 : (48 : Int) ≤ (c.toNat : Int) := by omega
          have c2 : (c.toNat : Int) ≤ 57 := by omega
          have HG : Hid (∀ j, j < k + 1 → 48 ≤ psF s j ∧ psF s j ≤ 57) := Lib.hid (fun j hj => by
            by_cases hjk : j = k
            · subst hjk; rw [hFk]; exact ⟨hb1, hb2⟩
            · exact hg j (by omega))
          have HLT := Lib.hid hlt
          clear hg hFk hb1 hb2 hlt hk
          go_wp2_with fail
          go_round
          case rel => exact ⟨k + 1, congrArg (Value.int IntKind.i64) (by omega), by have := HLT.out; omega, HG.out⟩
          case measure => simp [intOf]; omega
      · have hkm : k = psM s := by omega
        have hP : pOk (psF s) (psM s) (psNeg s) := ⟨h0, fun j hj => ⟨(hg j (by omega)).1, (hg j (by omega)).2, fun h => HZ.out (by obtain ⟨q1, q2, q3⟩ := h; subst q2; exact ⟨q1, by rcases q3 with h4 | h4; (· rw [HN.out] at h4; exact Bool.noConfusion h4); (· have := HM.out; omega)⟩)⟩⟩
        have HG := Lib.hid hg
        have hni : ¬ (k : Int) < (s.size : Int) := by have := HM.out; omega
        clear hg hkm hk hlt
        go_wp2_with fail
        clear hni
        go_loop [6, 7] (fun a b => ∃ k V : Nat, b = .int .i64 (k : Int) ∧ k ≤ psM s ∧ a = .int .i64 (-(V : Int)) ∧ V = vF (psF s) k ∧ V ≤ 9223372036854775808) (fun _ i => s.size - (intOf i).toNat)
        case atStart => exact ⟨0, 0, rfl, by omega, rfl, rfl, by omega⟩
        case round =>
          obtain ⟨k, V, rfl, hk, rfl, hV, hV2⟩ := hrel
          by_cases hlt : k < psM s
          · have hix : k < s.size := by rw [← HM.out]; omega
            have hFk := HF.out k hix
            obtain ⟨c, hc⟩ : ∃ c, s[k] = c := ⟨_, rfl⟩
            rw [hc] at hFk
            have hgk := hP.2 k hlt
            unfold gdF at hgk
            rw [hFk] at hgk
            have c1 : (48 : Int) ≤ (c.toNat : Int) := by omega
            have c2 : (c.toNat : Int) ≤ 57 := by omega
            have hst : vF (psF s) (k + 1) = 10 * V + (c.toNat - 48) := by show 10 * vF (psF s) k + (psF s k - 48) = _; rw [hFk, hV]
            have hfit := ref_fit V (c.toNat - 48) hV2 (by omega)
            rw [show (((c.toNat - 48 : Nat) : Int)) = (c.toNat : Int) - 48 from by omega] at hfit
            have HST := Lib.hid hst
            have HLT := Lib.hid hlt
            have HV := Lib.hid hV
            by_cases ho : 9223372036854775808 < 10 * V + (c.toNat - 48)
            · have hB : decide (-(V : Int) < (-9223372036854775808 + ((c.toNat : Int) - 48)).tdiv 10) = true := decide_eq_true (hfit.2 ho)
              have hle := vF_le (psF s) (k + 1) (psM s) (by omega)
              have HO := Lib.hid (ps_over s hP (by rw [hst] at hle; omega))
              clear hgk hst hfit ho hle hV hV2 hlt hk hFk hP HG
              go_wp2_with fail
              go_ret2
              exact ⟨ret_int2 HO.out.1.symm HO.out.2.symm, rfl⟩
            · have hB : decide (-(V : Int) < (-9223372036854775808 + ((c.toNat : Int) - 48)).tdiv 10) = false := decide_eq_false (fun h => ho (hfit.1 h))
              have HO2 := Lib.hid ho
              have HP := Lib.hid hP
              clear hgk hst hfit ho hV hV2 hlt hk hFk hP HG
              go_wp2_with fail
              go_round
              case rel => exact ⟨k + 1, 10 * V + (c.toNat - 48), congrArg (Value.int IntKind.i64) (by omega), by have := HLT.out; omega, congrArg (Value.int IntKind.i64) (by have := HO2.out; first | omega | (unfold RowKit.wrap64; omega)), HST.out.symm, by have := HO2.out; omega⟩
              case measure => simp [intOf]; omega
          · have hkm : k = psM s := by omega
            subst hkm
            have hni : ¬ (psM s : Int) < (s.size : Int) := by have := HM.out; omega
            by_cases he : V = 9223372036854775808
            · have HO := Lib.hid (ps_over s hP (by rw [← hV, HN.out]; rintro (h | h); (· omega); (· exact Bool.noConfusion h.2)))
              have hB : ((-(V : Int)) == -9223372036854775808) = true := by simp; omega
              clear hP hV hV2 hlt hk HG he
              go_wp2_with fail
              go_ret2
              exact ⟨ret_int2 HO.out.1.symm HO.out.2.symm, rfl⟩
            · have HO := Lib.hid (ps_fine s hP (by rw [← hV]; exact Or.inl (by omega)))
              have hB : ((-(V : Int)) == -9223372036854775808) = false := by simp; omega
              have HV := Lib.hid hV
              have HV2 := Lib.hid hV2
              have HE := Lib.hid he
              clear hP hV hV2 hlt hk HG he
              go_wp2_with fail
              go_ret2
              refine ⟨ret_int2 ?_ HO.out.2.symm, rfl⟩
              rw [HO.out.1, HN.out, if_neg (by decide), ← HV.out]
              have h1 := HV2.out
              have h2 := HE.out
              first | rfl | omega | (unfold RowKit.wrap64; omega)

set_option maxRecDepth 1000000 in
set_option maxHeartbeats 8000000 in
theorem ref01_parse_neg (s : ByteArray) (w : World) (hs : s.size ≤ 9223372036854775807) (hn : psNeg s = true) (h0 : 0 < psM s) (hz : ¬ (psF s 0 = 48 ∧ 1 < s.size)) :
    Calls Try.prog 24 #[.string s] w fun e w' => e = .returned (.tuple #[.int .i64 (psV s), .int .i64 (psE s)]) ∧ w = w' := by
  obtain ⟨hs0, hne⟩ := ps_minus s hn
  have hm : psM s + 1 = s.size := by unfold psM psFrom; rw [hn, if_pos rfl]; omega
  have hF : ∀ k (h : k + 1 < s.size), psF s k = (s[k + 1]'h).toNat := fun k h => by
    unfold psF psFrom
    rw [hn, if_pos rfl, get_eq s (1 + k) (by omega)]
    simp only [Nat.add_comm 1 k]
  have hne' : ((s[0].toNat : Int) == 45) = true := by simp; omega
  have h01 : 1 < s.size := by omega
  have HN := Lib.hid hn
  have HF := Lib.hid hF
  have HM := Lib.hid hm
  have HZ := Lib.hid hz
  have hF0 : psF s 0 = (s[1]'h01).toNat := hF 0 h01
  rw [hF0] at hz
  have hsi : (1 : Int) < (s.size : Int) := by omega
  have hlen : ((s.size : Int) == 1) = false := beq_eq_false_iff_ne.2 (by omega)
  have hq : (((s[1].toNat : Int) == 48) = false) := beq_eq_false_iff_ne.2 (fun h => hz ⟨by omega, h01⟩)
  clear hn hF hm hz hF0
  all_goals
    go_enter Try.func24, Try.ntmps24
    go_wp2_with fail
    clear hne' hq hlen hne
    go_loop [5] (fun a => ∃ k : Nat, a = .int .i64 ((k : Int) + 1) ∧ k ≤ psM s ∧ ∀ j, j < k → 48 ≤ psF s j ∧ psF s j ≤ 57) (fun i => s.size - (intOf i).toNat)
    case atStart => exact ⟨0, rfl, by omega, fun j h => absurd h (by omega)⟩
    case round =>
      obtain ⟨k, rfl, hk, hg⟩ := hrel
      by_cases hlt : k < psM s
      · have hix : k + 1 < s.size := by rw [← HM.out]; omega
        have hFk := HF.out k hix
        obtain ⟨c, hc⟩ : ∃ c, s[k + 1] = c := ⟨_, rfl⟩
        rw [hc] at hFk
        have HFk := Lib.hid hFk
        rcases (by omega : c.toNat < 48 ∨ 57 < c.toNat ∨ (48 ≤ c.toNat ∧ c.toNat ≤ 57)) with hb | hb | ⟨hb1, hb2⟩
        · have HO := Lib.hid (ps_bad s (fun h => absurd (h.2 k hlt) (fun hg => by have h1 := hg.1; rw [hFk] at h1; omega)))
          have hb' : (c.toNat : Int) < 48 := by omega
          clear hg hFk hb hlt hk
          go_wp2_with fail
          go_ret2
          exact ⟨ret_int2 HO.out.1.symm HO.out.2.symm, rfl⟩
        · have HO := Lib.hid (ps_bad s (fun h => absurd (h.2 k hlt) (fun hg => by have h1 := hg.2.1; rw [hFk] at h1; omega)))
          have hb' : (57 : Int) < (c.toNat : Int) := by omega
          have hb'' : ¬ (c.toNat : Int) < 48 := by omega
          clear hg hFk hb hlt hk
          go_wp2_with fail
          go_ret2
          exact ⟨ret_int2 HO.out.1.symm HO.out.2.symm, rfl⟩
        · have c1 : (48 : Int) ≤ (c.toNat : Int) := by omega
          have c2 : (c.toNat : Int) ≤ 57 := by omega
          have HG : Hid (∀ j, j < k + 1 → 48 ≤ psF s j ∧ psF s j ≤ 57) := Lib.hid (fun j hj => by
            by_cases hjk : j = k
            · subst hjk; rw [hFk]; exact ⟨hb1, hb2⟩
            · exact hg j (by omega))
          have HLT := Lib.hid hlt
          clear hg hFk hb1 hb2 hlt hk
          go_wp2_with fail
          go_round
          case rel => exact ⟨k + 1, congrArg (Value.int IntKind.i64) (by omega), by have := HLT.out; omega, HG.out⟩
          case measure => simp [intOf]; omega
      · have hkm : k = psM s := by omega
        have hP : pOk (psF s) (psM s) (psNeg s) := ⟨h0, fun j hj => ⟨(hg j (by omega)).1, (hg j (by omega)).2, fun h => HZ.out (by obtain ⟨q1, q2, q3⟩ := h; subst q2; exact ⟨q1, by omega⟩)⟩⟩
        have HG := Lib.hid hg
        have hni : ¬ ((k : Int) + 1) < (s.size : Int) := by have := HM.out; omega
        clear hg hkm hk hlt
        go_wp2_with fail
        clear hni
        go_loop [6, 7] (fun a b => ∃ k V : Nat, b = .int .i64 ((k : Int) + 1) ∧ k ≤ psM s ∧ a = .int .i64 (-(V : Int)) ∧ V = vF (psF s) k ∧ V ≤ 9223372036854775808) (fun _ i => s.size - (intOf i).toNat)
        case atStart => exact ⟨0, 0, rfl, by omega, rfl, rfl, by omega⟩
        case round =>
          obtain ⟨k, V, rfl, hk, rfl, hV, hV2⟩ := hrel
          by_cases hlt : k < psM s
          · have hix : k + 1 < s.size := by rw [← HM.out]; omega
            have hFk := HF.out k hix
            obtain ⟨c, hc⟩ : ∃ c, s[k + 1] = c := ⟨_, rfl⟩
            rw [hc] at hFk
            have hgk := hP.2 k hlt
            unfold gdF at hgk
            rw [hFk] at hgk
            have c1 : (48 : Int) ≤ (c.toNat : Int) := by omega
            have c2 : (c.toNat : Int) ≤ 57 := by omega
            have hst : vF (psF s) (k + 1) = 10 * V + (c.toNat - 48) := by show 10 * vF (psF s) k + (psF s k - 48) = _; rw [hFk, hV]
            have hfit := ref_fit V (c.toNat - 48) hV2 (by omega)
            rw [show (((c.toNat - 48 : Nat) : Int)) = (c.toNat : Int) - 48 from by omega] at hfit
            have HST := Lib.hid hst
            have HLT := Lib.hid hlt
            have HV := Lib.hid hV
            by_cases ho : 9223372036854775808 < 10 * V + (c.toNat - 48)
            · have hB : decide (-(V : Int) < (-9223372036854775808 + ((c.toNat : Int) - 48)).tdiv 10) = true := decide_eq_true (hfit.2 ho)
              have hle := vF_le (psF s) (k + 1) (psM s) (by omega)
              have HO := Lib.hid (ps_over s hP (by rw [hst] at hle; omega))
              clear hgk hst hfit ho hle hV hV2 hlt hk hFk hP HG
              go_wp2_with fail
              go_ret2
              exact ⟨ret_int2 HO.out.1.symm HO.out.2.symm, rfl⟩
            · have hB : decide (-(V : Int) < (-9223372036854775808 + ((c.toNat : Int) - 48)).tdiv 10) = false := decide_eq_false (fun h => ho (hfit.1 h))
              have HO2 := Lib.hid ho
              have HP := Lib.hid hP
              clear hgk hst hfit ho hV hV2 hlt hk hFk hP HG
              go_wp2_with fail
              go_round
              case rel => exact ⟨k + 1, 10 * V + (c.toNat - 48), congrArg (Value.int IntKind.i64) (by omega), by have := HLT.out; omega, congrArg (Value.int IntKind.i64) (by have := HO2.out; first | omega | (unfold RowKit.wrap64; omega)), HST.out.symm, by have := HO2.out; omega⟩
              case measure => simp [intOf]; omega
          · have hkm : k = psM s := by omega
            subst hkm
            have hni : ¬ ((psM s : Int) + 1) < (s.size : Int) := by have := HM.out; omega
            have HO := Lib.hid (ps_fine s hP (by rw [← hV, HN.out]; rcases Nat.lt_or_ge V 9223372036854775808 with h | h; (· exact Or.inl h); (· exact Or.inr ⟨by omega, rfl⟩)))
            have HV := Lib.hid hV
            clear hP hV hV2 hlt hk HG
            go_wp2_with fail
            go_ret2
            refine ⟨ret_int2 ?_ HO.out.2.symm, rfl⟩
            rw [HO.out.1, HN.out, if_pos rfl, ← HV.out]

set_option maxRecDepth 1000000 in
theorem ref01_parse_bad_pos (s : ByteArray) (w : World) (hs : s.size ≤ 9223372036854775807) (hn : psNeg s = false) (hz : psM s = 0 ∨ (psF s 0 = 48 ∧ 1 < s.size)) :
    Calls Try.prog 24 #[.string s] w fun e w' => e = .returned (.tuple #[.int .i64 (psV s), .int .i64 (psE s)]) ∧ w = w' := by
  have hm : psM s = s.size := by unfold psM psFrom; rw [hn]; rfl
  rcases Nat.eq_zero_or_pos s.size with h0 | h0
  · have HO := Lib.hid (ps_bad s (fun h => absurd h.1 (by omega)))
    clear hz hm
    go_enter Try.func24, Try.ntmps24
    go_wp2_with fail
    go_ret2
    exact ⟨ret_int2 HO.out.1.symm HO.out.2.symm, rfl⟩
  · have h1 : psF s 0 = 48 ∧ 1 < s.size := by rcases hz with h | h; (· omega); (· exact h)
    have HO := Lib.hid (ps_bad s (fun h => absurd (h.2 0 h.1) (fun hg => hg.2.2 ⟨h1.1, rfl, Or.inr (by omega)⟩)))
    have hF : psF s 0 = (s[0]'h0).toNat := by
      unfold psF psFrom
      rw [hn]
      simp [h0]
      rfl
    have hne : ¬ s[0].toNat = 45 := ps_first s h0 hn
    have hne' : ((s[0].toNat : Int) == 45) = false := by simp; omega
    have hq : ((s[0].toNat : Int) == 48) = true := by simp; omega
    have hs1 : (1 : Int) < (s.size : Int) := by omega
    have hlen : ((s.size : Int) == 0) = false := beq_eq_false_iff_ne.2 (by omega)
    clear hz hm h1 hF hne
    go_enter Try.func24, Try.ntmps24
    go_wp2_with fail
    go_ret2
    exact ⟨ret_int2 HO.out.1.symm HO.out.2.symm, rfl⟩
set_option maxRecDepth 1000000 in
theorem ref01_parse_bad_neg (s : ByteArray) (w : World) (hs : s.size ≤ 9223372036854775807) (hn : psNeg s = true) (hz : psM s = 0 ∨ (psF s 0 = 48 ∧ 1 < s.size)) :
    Calls Try.prog 24 #[.string s] w fun e w' => e = .returned (.tuple #[.int .i64 (psV s), .int .i64 (psE s)]) ∧ w = w' := by
  obtain ⟨hs0, hne⟩ := ps_minus s hn
  have hm : psM s + 1 = s.size := by unfold psM psFrom; rw [hn, if_pos rfl]; omega
  have hne' : ((s[0].toNat : Int) == 45) = true := by simp; omega
  have hs01 : (0 : Int) < (s.size : Int) := by omega
  by_cases h0 : psM s = 0
  · have HO := Lib.hid (ps_bad s (fun h => absurd h.1 (by omega)))
    have hlen : ((s.size : Int) == 1) = true := by simp; omega
    clear hz hm h0 hne
    go_enter Try.func24, Try.ntmps24
    go_wp2_with fail
    go_ret2
    exact ⟨ret_int2 HO.out.1.symm HO.out.2.symm, rfl⟩
  · have h1 : psF s 0 = 48 ∧ 1 < s.size := by rcases hz with h | h; (· omega); (· exact h)
    have HO := Lib.hid (ps_bad s (fun h => absurd (h.2 0 h.1) (fun hg => hg.2.2 ⟨h1.1, rfl, Or.inl hn⟩)))
    have h11 := h1.2
    have hF : psF s 0 = (s[1]'h11).toNat := by
      unfold psF psFrom
      rw [hn, if_pos rfl, get_eq s (1 + 0) (by omega)]
    have hq : ((s[1].toNat : Int) == 48) = true := by simp; omega
    have hs1 : (1 : Int) < (s.size : Int) := by omega
    have hlen : ((s.size : Int) == 1) = false := beq_eq_false_iff_ne.2 (by omega)
    clear hz hm h1 hF h0 hne
    go_enter Try.func24, Try.ntmps24
    go_wp2_with fail
    go_ret2
    exact ⟨ret_int2 HO.out.1.symm HO.out.2.symm, rfl⟩
theorem ref01_parse (s : ByteArray) (w : World) (hs : s.size ≤ 9223372036854775807) :
    Calls Try.prog 24 #[.string s] w fun e w' => e = .returned (.tuple #[.int .i64 (psV s), .int .i64 (psE s)]) ∧ w = w' := by
  by_cases hz : psM s = 0 ∨ (psF s 0 = 48 ∧ 1 < s.size)
  · cases hn : psNeg s
    · exact ref01_parse_bad_pos s w hs hn hz
    · exact ref01_parse_bad_neg s w hs hn hz
  · cases hn : psNeg s
    · exact ref01_parse_pos s w hs hn (Nat.pos_of_ne_zero fun h => hz (Or.inl h)) fun h => hz (Or.inr h)
    · exact ref01_parse_neg s w hs hn (Nat.pos_of_ne_zero fun h => hz (Or.inl h)) fun h => hz (Or.inr h)
end Go.Proofs.Ytimonckfibphcaa
