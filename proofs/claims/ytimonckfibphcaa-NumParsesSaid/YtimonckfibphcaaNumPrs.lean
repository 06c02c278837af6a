/- What Parse returns: the number that the text tells, or an error -/
import Derived.Test.YtimonckfibphcaaProg
import Derived.WalkKit
import Derived.WalkLawsBesides
import Derived.WalkSpells
import Derived.LoopTactic
import Derived.Deep.DeepCutAuto
import Derived.IntWalk
import Derived.Outline
import Derived.Lib.Hide
import Derived.Test.YtimonckfibphcaaNumPrsP
import Derived.Test.YtimonckfibphcaaNumMul
namespace Go.Proofs.Ytimonckfibphcaa
open Go.RowKit
set_option linter.unusedVariables false

theorem get_eq (s : ByteArray) (k : Nat) (h : k < s.size) : s.data.toList.getD k 0 = s[k]'h := by
  rw [List.getD_eq_getElem?_getD, Array.getElem?_toList, Array.getElem?_eq_getElem (by exact h)]
  rfl
theorem ps_minus (s : ByteArray) (hn : psNeg s = true) : ∃ h : 0 < s.size, (s[0]'h).toNat = 45 := by
  unfold psNeg at hn
  rw [Bool.and_eq_true, decide_eq_true_eq] at hn
  obtain ⟨h1, h2⟩ := hn
  refine ⟨h1, ?_⟩
  rw [get_eq s 0 h1] at h2
  have h3 : s[0] = 45 := by simpa using h2
  rw [h3]; rfl
theorem ps_first (s : ByteArray) (h : 0 < s.size) (hn : psNeg s = false) : ¬ (s[0]'h).toNat = 45 := fun h2 => by
  unfold psNeg at hn
  rw [get_eq s 0 h, decide_eq_true h, Bool.true_and] at hn
  have : s[0] = 45 := UInt8.toNat_inj.1 h2
  rw [this] at hn
  exact Bool.noConfusion hn
def PRel (s : ByteArray) (s6 s7 s8 s9 : Value) : Prop :=
  ∃ k u : Nat, s9 = .int .i64 (k : Int) ∧ k ≤ psM s ∧ s6 = .bool true ∧ s8 = .int .u64 (u : Int) ∧ u < 18446744073709551616 ∧
    ((vF (psF s) k < 18446744073709551616 ∧ s7 = .bool false ∧ u = vF (psF s) k) ∨ (18446744073709551616 ≤ vF (psF s) k ∧ s7 = .bool true)) ∧ ∀ j, j < k → gdF (psF s) (psM s) (psNeg s) j

set_option maxRecDepth 1000000 in
set_option maxHeartbeats 8000000 in
theorem num_parse_pos (s : ByteArray) (w : World) (hs : s.size ≤ 9223372036854775807) (hn : psNeg s = false) (h0 : 0 < s.size) :
    Calls Try.prog 22 #[.string s] w fun e w' => e = .returned (.tuple #[.int .i64 (psV s), .int .i64 (psE s)]) ∧ w = w' := by
  have hm : psM s = s.size := by unfold psM psFrom; rw [hn]; rfl
  have hF : ∀ k (h : k < s.size), psF s k = (s[k]'h).toNat := fun k h => by
    unfold psF psFrom
    rw [hn]
    simp [h]
    rfl
  have hne : ¬ s[0].toNat = 45 := ps_first s h0 hn
  have hne' : ((s[0].toNat : Int) == 45) = false := by simp; omega
  have hsi : (0 : Int) < (s.size : Int) := by omega
  have HN := Lib.hid hn
  have HF := Lib.hid hF
  have HM := Lib.hid hm
  clear hn hF hm
  go_enter Try.func22, Try.ntmps22
  go_wp2_with fail
  go_step3
  go_wp2_with fail
  go_step3
  go_wp2_with fail
  clear hne hne' hsi
  go_loop [6, 7, 8, 9] (fun a b c d => PRel s a b c d) (fun _ _ _ i => s.size - (intOf i).toNat)
  case atStart => exact ⟨0, 0, rfl, by omega, rfl, rfl, by omega, Or.inl ⟨by show (0:Nat) < _; omega, rfl, rfl⟩, fun j h => absurd h (by omega)⟩
  case round =>
    obtain ⟨k, u, rfl, hk, rfl, rfl, hu, hcase, hg⟩ := hrel
    rw [HM.out] at hk
    by_cases hlt : k < s.size
    · have hFk := HF.out k hlt
      obtain ⟨c, hc⟩ : ∃ c, s[k] = c := ⟨_, rfl⟩
      rw [hc] at hFk
      have HFk := Lib.hid hFk
      rcases (by omega : c.toNat < 48 ∨ 57 < c.toNat ∨ (48 ≤ c.toNat ∧ c.toNat ≤ 57)) with hb | hb | ⟨hb1, hb2⟩
      · have HO := Lib.hid (ps_bad s (fun h => absurd (h.2 k (by rw [HM.out]; exact hlt)) (fun hg => by have h1 := hg.1; have h2 := hg.2.1; have h3 := hg.2.2; rw [hFk] at h1 h2 h3; omega)))
        have hb' : (c.toNat : Int) < 48 := by omega
        clear hcase hg hu hFk hb
        go_wp2_with fail
        skip
        go_ret2
        exact ⟨ret_int2 HO.out.1.symm HO.out.2.symm, rfl⟩
      · have HO := Lib.hid (ps_bad s (fun h => absurd (h.2 k (by rw [HM.out]; exact hlt)) (fun hg => by have h1 := hg.1; have h2 := hg.2.1; have h3 := hg.2.2; rw [hFk] at h1 h2 h3; omega)))
        have hb' : (57 : Int) < (c.toNat : Int) := by omega
        have hb'' : ¬ (c.toNat : Int) < 48 := by omega
        clear hcase hg hu hFk hb
        go_wp2_with fail
        skip
        go_ret2
        exact ⟨ret_int2 HO.out.1.symm HO.out.2.symm, rfl⟩
      · have c1 : (48 : Int) ≤ (c.toNat : Int) := by omega
        have c2 : (c.toNat : Int) ≤ 57 := by omega
        by_cases h3 : c.toNat = 48 ∧ k = 0 ∧ 1 < s.size
        · obtain ⟨h31, h32, h33⟩ := h3
          have HO := Lib.hid (ps_bad s (fun h => absurd (h.2 k (by rw [HM.out]; exact hlt)) (fun hg => hg.2.2 ⟨by rw [hFk]; exact h31, h32, Or.inr (by rw [HM.out]; exact h33)⟩)))
          have q48 : ((c.toNat : Int) == 48) = true := by simp; omega
          have h33' : (1 : Int) < (s.size : Int) := by omega
          subst h32
          clear hcase hg hu hFk hb1 hb2 h31
          go_wp2_with fail
          skip
          go_ret2
          exact ⟨ret_int2 HO.out.1.symm HO.out.2.symm, rfl⟩
        · have HG : Hid (∀ j, j < k + 1 → gdF (psF s) (psM s) (psNeg s) j) := Lib.hid (fun j hj => by
            by_cases hjk : j = k
            · subst hjk
              exact ⟨by rw [hFk]; exact hb1, by rw [hFk]; exact hb2, fun h => h3 ⟨by rw [← hFk]; exact h.1, h.2.1, by rcases h.2.2 with h4 | h4; (· rw [HN.out] at h4; exact Bool.noConfusion h4); (· rw [HM.out] at h4; exact h4)⟩⟩
            · exact hg j (by omega))
          have hstep : vF (psF s) (k + 1) = 10 * vF (psF s) k + (c.toNat - 48) := by show 10 * vF (psF s) k + (psF s k - 48) = _; rw [hFk]
          obtain ⟨V1, hV1⟩ : ∃ V1, V1 = vF (psF s) (k + 1) := ⟨_, rfl⟩
          rw [← hV1] at hstep
          have HV1 := Lib.hid hV1
          clear hV1
          generalize vF (psF s) k = V at *
          have HST := Lib.hid hstep
          have H3 := Lib.hid h3
          clear hstep hFk hb1 hb2 h3 hg
          rcases hcase with ⟨hv, rfl, rfl⟩ | ⟨hv, rfl⟩
          · by_cases ho : 18446744073709551616 ≤ 10 * u + (c.toNat - 48)
            · have hB : decide ((18446744073709551615 - ((c.toNat : Int) - 48)) / 10 < (u : Int)) = true := decide_eq_true (by omega)
              have HV : Hid (18446744073709551616 ≤ V1) := Lib.hid (by rw [HST.out]; exact ho)
              have HU := Lib.hid hu
              clear hv ho hu
              by_cases hq : c.toNat = 48
              · have q48 : ((c.toNat : Int) == 48) = true := by simp; omega
                have hB48 : decide ((1844674407370955161 : Int) < (u : Int)) = true := decide_eq_true (by have := of_decide_eq_true hB; omega)
                by_cases hk0 : k = 0
                · have hsz : ¬ (1 : Int) < (s.size : Int) := by have := H3.out; intro h; exact this ⟨hq, hk0, by omega⟩
                  subst hk0
                  go_wp2_with fail
                  go_round
                  case rel => exact ⟨0 + 1, u, by go_num, by rw [HM.out]; omega, rfl, rfl, HU.out, Or.inr ⟨by rw [← HV1.out]; exact HV.out, rfl⟩, HG.out⟩
                  case measure => simp [intOf]; omega
                · have k48 : ((k : Int) == 0) = false := by simp; omega
                  go_wp2_with fail
                  go_round
                  case rel => exact ⟨k + 1, u, by go_num, by rw [HM.out]; omega, rfl, rfl, HU.out, Or.inr ⟨by rw [← HV1.out]; exact HV.out, rfl⟩, HG.out⟩
                  case measure => simp [intOf]; omega
              · have q48 : ((c.toNat : Int) == 48) = false := by simp; omega
                go_wp2_with fail
                go_round
                case rel => exact ⟨k + 1, u, by go_num, by rw [HM.out]; omega, rfl, rfl, HU.out, Or.inr ⟨by rw [← HV1.out]; exact HV.out, rfl⟩, HG.out⟩
                case measure => simp [intOf]; omega
            · have hB : decide ((18446744073709551615 - ((c.toNat : Int) - 48)) / 10 < (u : Int)) = false := decide_eq_false (by omega)
              have HV : Hid (10 * u + (c.toNat - 48) < 18446744073709551616) := Lib.hid (by omega)
              clear hv ho hu
              by_cases hq : c.toNat = 48
              · have q48 : ((c.toNat : Int) == 48) = true := by simp; omega
                have hB48 : decide ((1844674407370955161 : Int) < (u : Int)) = false := decide_eq_false (by have := of_decide_eq_false hB; omega)
                by_cases hk0 : k = 0
                · have hsz : ¬ (1 : Int) < (s.size : Int) := by have := H3.out; intro h; exact this ⟨hq, hk0, by omega⟩
                  subst hk0
                  go_wp2_with fail
                  go_round
                  case rel => exact ⟨0 + 1, 10 * u + (c.toNat - 48), by go_num, by rw [HM.out]; omega, rfl, congrArg (Value.int IntKind.u64) (by have := HV.out; first | omega | (simp only [IntKind.wrap_u64]; omega)), HV.out, Or.inl ⟨by rw [← HV1.out, HST.out]; exact HV.out, rfl, by rw [← HV1.out]; exact HST.out.symm⟩, HG.out⟩
                  case measure => simp [intOf]; omega
                · have k48 : ((k : Int) == 0) = false := by simp; omega
                  go_wp2_with fail
                  go_round
                  case rel => exact ⟨k + 1, 10 * u + (c.toNat - 48), by go_num, by rw [HM.out]; omega, rfl, congrArg (Value.int IntKind.u64) (by have := HV.out; first | omega | (simp only [IntKind.wrap_u64]; omega)), HV.out, Or.inl ⟨by rw [← HV1.out, HST.out]; exact HV.out, rfl, by rw [← HV1.out]; exact HST.out.symm⟩, HG.out⟩
                  case measure => simp [intOf]; omega
              · have q48 : ((c.toNat : Int) == 48) = false := by simp; omega
                go_wp2_with fail
                go_round
                case rel => exact ⟨k + 1, 10 * u + (c.toNat - 48), by go_num, by rw [HM.out]; omega, rfl, congrArg (Value.int IntKind.u64) (by have := HV.out; first | omega | (simp only [IntKind.wrap_u64]; omega)), HV.out, Or.inl ⟨by rw [← HV1.out, HST.out]; exact HV.out, rfl, by rw [← HV1.out]; exact HST.out.symm⟩, HG.out⟩
                case measure => simp [intOf]; omega
          · have HV : Hid (18446744073709551616 ≤ V1) := Lib.hid (by rw [HST.out]; omega)
            have HU := Lib.hid hu
            clear hv hu
            by_cases hq : c.toNat = 48
            · have q48 : ((c.toNat : Int) == 48) = true := by simp; omega
              by_cases hk0 : k = 0
              · have hsz : ¬ (1 : Int) < (s.size : Int) := by have := H3.out; intro h; exact this ⟨hq, hk0, by omega⟩
                subst hk0
                go_wp2_with fail
                go_round
                case rel => exact ⟨0 + 1, u, by go_num, by rw [HM.out]; omega, rfl, rfl, HU.out, Or.inr ⟨by rw [← HV1.out]; exact HV.out, rfl⟩, HG.out⟩
                case measure => simp [intOf]; omega
              · have k48 : ((k : Int) == 0) = false := by simp; omega
                go_wp2_with fail
                go_round
                case rel => exact ⟨k + 1, u, by go_num, by rw [HM.out]; omega, rfl, rfl, HU.out, Or.inr ⟨by rw [← HV1.out]; exact HV.out, rfl⟩, HG.out⟩
                case measure => simp [intOf]; omega
            · have q48 : ((c.toNat : Int) == 48) = false := by simp; omega
              go_wp2_with fail
              go_round
              case rel => exact ⟨k + 1, u, by go_num, by rw [HM.out]; omega, rfl, rfl, HU.out, Or.inr ⟨by rw [← HV1.out]; exact HV.out, rfl⟩, HG.out⟩
              case measure => simp [intOf]; omega
    · have hkm : psM s = k := by rw [HM.out]; omega
      have hP : pOk (psF s) (psM s) (psNeg s) := ⟨by rw [HM.out]; omega, fun j hj => hg j (by rw [← hkm]; exact hj)⟩
      have hk2 : ¬ (k : Int) < (s.size : Int) := by omega
      rw [← hkm] at hcase
      rcases hcase with ⟨hv, rfl, hu2⟩ | ⟨hv, rfl⟩
      · rcases (by omega : u < 9223372036854775808 ∨ u = 9223372036854775808 ∨ 9223372036854775808 < u) with hx | hx | hx
        · have HO := Lib.hid (ps_fine s hP (Or.inl (by rw [← hu2]; exact hx)))
          have hB : decide ((9223372036854775808 : Int) < (u : Int)) = false := decide_eq_false (by omega)
          have hB2 : ((u : Int) == 9223372036854775808) = false := by simp; omega
          have HU2 := Lib.hid hu2
          have HX := Lib.hid hx
          clear hg hP hkm hv hu hu2 hx hlt
          go_wp2_with fail
          skip
          go_ret2
          refine ⟨ret_int2 ?_ HO.out.2.symm, rfl⟩
          rw [HO.out.1, HN.out, if_neg (by decide), ← HU2.out]
          have hx := HX.out
          first | rfl | (unfold RowKit.wrap64; omega)
        · have HO := Lib.hid (ps_over s hP (by rw [← hu2, HN.out]; rintro (h | h); (· omega); (· exact Bool.noConfusion h.2)))
          have hB : decide ((9223372036854775808 : Int) < (u : Int)) = false := decide_eq_false (by omega)
          have hB2 : ((u : Int) == 9223372036854775808) = true := by simp; omega
          clear hg hP hkm hv hu hu2 hx hlt
          go_wp2_with fail
          skip
          go_ret2
          exact ⟨ret_int2 HO.out.1.symm HO.out.2.symm, rfl⟩
        · have HO := Lib.hid (ps_over s hP (by rw [← hu2]; omega))
          have hB : decide ((9223372036854775808 : Int) < (u : Int)) = true := decide_eq_true (by omega)
          clear hg hP hkm hv hu hu2 hx hlt
          go_wp2_with fail
          skip
          go_ret2
          exact ⟨ret_int2 HO.out.1.symm HO.out.2.symm, rfl⟩
      · have HO := Lib.hid (ps_over s hP (by omega))
        clear hg hP hkm hv hu hlt
        go_wp2_with fail
        skip
        go_ret2
        exact ⟨ret_int2 HO.out.1.symm HO.out.2.symm, rfl⟩
set_option maxRecDepth 1000000 in
set_option maxHeartbeats 8000000 in
theorem num_parse_neg (s : ByteArray) (w : World) (hs : s.size ≤ 9223372036854775807) (hn : psNeg s = true) (h0 : 0 < psM s) :
    Calls Try.prog 22 #[.string s] w fun e w' => e = .returned (.tuple #[.int .i64 (psV s), .int .i64 (psE s)]) ∧ w = w' := by
  obtain ⟨hs0, hne⟩ := ps_minus s hn
  obtain ⟨D, hD⟩ : ∃ D, D = s.extract 1 s.size := ⟨_, rfl⟩
  have hDs : D.size = s.size - 1 := by rw [hD, ByteArray.size_extract]; omega
  have hDb : D.size ≤ 9223372036854775807 := by omega
  have hm : psM s = D.size := by unfold psM psFrom; rw [hn, hDs]; rfl
  have hF : ∀ k (h : k < D.size), psF s k = (D[k]'h).toNat := fun k h => by
    unfold psF psFrom
    rw [hn, if_pos rfl]
    subst hD
    rw [ByteArray.getElem_extract, get_eq s (1 + k) (by omega)]
  have hne' : ((s[0].toNat : Int) == 45) = true := by simp; omega
  have hs1 : (1 : Int) ≤ (s.size : Int) := by omega
  rw [hm] at h0
  have hsi : (0 : Int) < (D.size : Int) := by omega
  have hD' : s.extract 1 s.size = D := hD.symm
  have HDS := Lib.hid hDs
  clear hDs hD hne
  have HN := Lib.hid hn
  have HF := Lib.hid hF
  have HM := Lib.hid hm
  clear hn hF hm
  go_enter Try.func22, Try.ntmps22
  go_wp2_with fail
  go_step3
  go_wp2_with fail
  go_step3
  go_wp2_with fail
  clear hne' hsi hs1 hD'
  go_loop [6, 7, 8, 9] (fun a b c d => PRel s a b c d) (fun _ _ _ i => D.size - (intOf i).toNat)
  case atStart => exact ⟨0, 0, rfl, by omega, rfl, rfl, by omega, Or.inl ⟨by show (0:Nat) < _; omega, rfl, rfl⟩, fun j h => absurd h (by omega)⟩
  case round =>
    obtain ⟨k, u, rfl, hk, rfl, rfl, hu, hcase, hg⟩ := hrel
    rw [HM.out] at hk
    by_cases hlt : k < D.size
    · have hFk := HF.out k hlt
      obtain ⟨c, hc⟩ : ∃ c, D[k] = c := ⟨_, rfl⟩
      rw [hc] at hFk
      have HFk := Lib.hid hFk
      rcases (by omega : c.toNat < 48 ∨ 57 < c.toNat ∨ (48 ≤ c.toNat ∧ c.toNat ≤ 57)) with hb | hb | ⟨hb1, hb2⟩
      · have HO := Lib.hid (ps_bad s (fun h => absurd (h.2 k (by rw [HM.out]; exact hlt)) (fun hg => by have h1 := hg.1; have h2 := hg.2.1; have h3 := hg.2.2; rw [hFk] at h1 h2 h3; omega)))
        have hb' : (c.toNat : Int) < 48 := by omega
        clear hcase hg hu hFk hb
        go_wp2_with fail
        skip
        go_ret2
        exact ⟨ret_int2 HO.out.1.symm HO.out.2.symm, rfl⟩
      · have HO := Lib.hid (ps_bad s (fun h => absurd (h.2 k (by rw [HM.out]; exact hlt)) (fun hg => by have h1 := hg.1; have h2 := hg.2.1; have h3 := hg.2.2; rw [hFk] at h1 h2 h3; omega)))
        have hb' : (57 : Int) < (c.toNat : Int) := by omega
        have hb'' : ¬ (c.toNat : Int) < 48 := by omega
        clear hcase hg hu hFk hb
        go_wp2_with fail
        skip
        go_ret2
        exact ⟨ret_int2 HO.out.1.symm HO.out.2.symm, rfl⟩
      · have c1 : (48 : Int) ≤ (c.toNat : Int) := by omega
        have c2 : (c.toNat : Int) ≤ 57 := by omega
        by_cases h3 : c.toNat = 48 ∧ k = 0 ∧ True
        · obtain ⟨h31, h32, h33⟩ := h3
          have HO := Lib.hid (ps_bad s (fun h => absurd (h.2 k (by rw [HM.out]; exact hlt)) (fun hg => hg.2.2 ⟨by rw [hFk]; exact h31, h32, Or.inl HN.out⟩)))
          have q48 : ((c.toNat : Int) == 48) = true := by simp; omega
          subst h32
          clear hcase hg hu hFk hb1 hb2 h31
          go_wp2_with fail
          skip
          go_ret2
          exact ⟨ret_int2 HO.out.1.symm HO.out.2.symm, rfl⟩
        · have HG : Hid (∀ j, j < k + 1 → gdF (psF s) (psM s) (psNeg s) j) := Lib.hid (fun j hj => by
            by_cases hjk : j = k
            · subst hjk
              exact ⟨by rw [hFk]; exact hb1, by rw [hFk]; exact hb2, fun h => h3 ⟨by rw [← hFk]; exact h.1, h.2.1, trivial⟩⟩
            · exact hg j (by omega))
          have hstep : vF (psF s) (k + 1) = 10 * vF (psF s) k + (c.toNat - 48) := by show 10 * vF (psF s) k + (psF s k - 48) = _; rw [hFk]
          obtain ⟨V1, hV1⟩ : ∃ V1, V1 = vF (psF s) (k + 1) := ⟨_, rfl⟩
          rw [← hV1] at hstep
          have HV1 := Lib.hid hV1
          clear hV1
          generalize vF (psF s) k = V at *
          have HST := Lib.hid hstep
          have H3 := Lib.hid h3
          clear hstep hFk hb1 hb2 h3 hg
          rcases hcase with ⟨hv, rfl, rfl⟩ | ⟨hv, rfl⟩
          · by_cases ho : 18446744073709551616 ≤ 10 * u + (c.toNat - 48)
            · have hB : decide ((18446744073709551615 - ((c.toNat : Int) - 48)) / 10 < (u : Int)) = true := decide_eq_true (by omega)
              have HV : Hid (18446744073709551616 ≤ V1) := Lib.hid (by rw [HST.out]; exact ho)
              have HU := Lib.hid hu
              clear hv ho hu
              by_cases hq : c.toNat = 48
              · have q48 : ((c.toNat : Int) == 48) = true := by simp; omega
                have hB48 : decide ((1844674407370955161 : Int) < (u : Int)) = true := decide_eq_true (by have := of_decide_eq_true hB; omega)
                by_cases hk0 : k = 0
                · exact absurd ⟨hq, hk0, trivial⟩ H3.out
                · have k48 : ((k : Int) == 0) = false := by simp; omega
                  go_wp2_with fail
                  go_round
                  case rel => exact ⟨k + 1, u, by go_num, by rw [HM.out]; omega, rfl, rfl, HU.out, Or.inr ⟨by rw [← HV1.out]; exact HV.out, rfl⟩, HG.out⟩
                  case measure => simp [intOf]; omega
              · have q48 : ((c.toNat : Int) == 48) = false := by simp; omega
                go_wp2_with fail
                go_round
                case rel => exact ⟨k + 1, u, by go_num, by rw [HM.out]; omega, rfl, rfl, HU.out, Or.inr ⟨by rw [← HV1.out]; exact HV.out, rfl⟩, HG.out⟩
                case measure => simp [intOf]; omega
            · have hB : decide ((18446744073709551615 - ((c.toNat : Int) - 48)) / 10 < (u : Int)) = false := decide_eq_false (by omega)
              have HV : Hid (10 * u + (c.toNat - 48) < 18446744073709551616) := Lib.hid (by omega)
              clear hv ho hu
              by_cases hq : c.toNat = 48
              · have q48 : ((c.toNat : Int) == 48) = true := by simp; omega
                have hB48 : decide ((1844674407370955161 : Int) < (u : Int)) = false := decide_eq_false (by have := of_decide_eq_false hB; omega)
                by_cases hk0 : k = 0
                · exact absurd ⟨hq, hk0, trivial⟩ H3.out
                · have k48 : ((k : Int) == 0) = false := by simp; omega
                  go_wp2_with fail
                  go_round
                  case rel => exact ⟨k + 1, 10 * u + (c.toNat - 48), by go_num, by rw [HM.out]; omega, rfl, congrArg (Value.int IntKind.u64) (by have := HV.out; first | omega | (simp only [IntKind.wrap_u64]; omega)), HV.out, Or.inl ⟨by rw [← HV1.out, HST.out]; exact HV.out, rfl, by rw [← HV1.out]; exact HST.out.symm⟩, HG.out⟩
                  case measure => simp [intOf]; omega
              · have q48 : ((c.toNat : Int) == 48) = false := by simp; omega
                go_wp2_with fail
                go_round
                case rel => exact ⟨k + 1, 10 * u + (c.toNat - 48), by go_num, by rw [HM.out]; omega, rfl, congrArg (Value.int IntKind.u64) (by have := HV.out; first | omega | (simp only [IntKind.wrap_u64]; omega)), HV.out, Or.inl ⟨by rw [← HV1.out, HST.out]; exact HV.out, rfl, by rw [← HV1.out]; exact HST.out.symm⟩, HG.out⟩
                case measure => simp [intOf]; omega
          · have HV : Hid (18446744073709551616 ≤ V1) := Lib.hid (by rw [HST.out]; omega)
            have HU := Lib.hid hu
            clear hv hu
            by_cases hq : c.toNat = 48
            · have q48 : ((c.toNat : Int) == 48) = true := by simp; omega
              by_cases hk0 : k = 0
              · exact absurd ⟨hq, hk0, trivial⟩ H3.out
              · have k48 : ((k : Int) == 0) = false := by simp; omega
                go_wp2_with fail
                go_round
                case rel => exact ⟨k + 1, u, by go_num, by rw [HM.out]; omega, rfl, rfl, HU.out, Or.inr ⟨by rw [← HV1.out]; exact HV.out, rfl⟩, HG.out⟩
                case measure => simp [intOf]; omega
            · have q48 : ((c.toNat : Int) == 48) = false := by simp; omega
              go_wp2_with fail
              go_round
              case rel => exact ⟨k + 1, u, by go_num, by rw [HM.out]; omega, rfl, rfl, HU.out, Or.inr ⟨by rw [← HV1.out]; exact HV.out, rfl⟩, HG.out⟩
              case measure => simp [intOf]; omega
    · have hkm : psM s = k := by rw [HM.out]; omega
      have hP : pOk (psF s) (psM s) (psNeg s) := ⟨by rw [HM.out]; omega, fun j hj => hg j (by rw [← hkm]; exact hj)⟩
      have hk2 : ¬ (k : Int) < (D.size : Int) := by omega
      rw [← hkm] at hcase
      rcases hcase with ⟨hv, rfl, hu2⟩ | ⟨hv, rfl⟩
      · rcases (by omega : u < 9223372036854775808 ∨ u = 9223372036854775808 ∨ 9223372036854775808 < u) with hx | hx | hx
        · have HO := Lib.hid (ps_fine s hP (Or.inl (by rw [← hu2]; exact hx)))
          have hB : decide ((9223372036854775808 : Int) < (u : Int)) = false := decide_eq_false (by omega)
          have hB2 : ((u : Int) == 9223372036854775808) = false := by simp; omega
          have HU2 := Lib.hid hu2
          have HX := Lib.hid hx
          clear hg hP hkm hv hu hu2 hx hlt
          go_wp2_with fail
          skip
          go_ret2
          refine ⟨ret_int2 ?_ HO.out.2.symm, rfl⟩
          rw [HO.out.1, HN.out, if_pos rfl, ← HU2.out]
          have hx := HX.out
          first | rfl | (unfold RowKit.wrap64; (try simp only [IntKind.wrap_u64]); omega)
        · have HO := Lib.hid (ps_fine s hP (Or.inr ⟨by rw [← hu2]; exact hx, HN.out⟩))
          have hB : decide ((9223372036854775808 : Int) < (u : Int)) = false := decide_eq_false (by omega)
          have hB2 : ((u : Int) == 9223372036854775808) = true := by simp; omega
          have HU2 := Lib.hid hu2
          have HX := Lib.hid hx
          clear hg hP hkm hv hu hu2 hx hlt
          go_wp2_with fail
          skip
          go_ret2
          refine ⟨ret_int2 ?_ HO.out.2.symm, rfl⟩
          rw [HO.out.1, HN.out, if_pos rfl, ← HU2.out]
          have hx := HX.out
          first | rfl | (unfold RowKit.wrap64; (try simp only [IntKind.wrap_u64]); omega)
        · have HO := Lib.hid (ps_over s hP (by rw [← hu2]; omega))
          have hB : decide ((9223372036854775808 : Int) < (u : Int)) = true := decide_eq_true (by omega)
          clear hg hP hkm hv hu hu2 hx hlt
          go_wp2_with fail
          skip
          go_ret2
          exact ⟨ret_int2 HO.out.1.symm HO.out.2.symm, rfl⟩
      · have HO := Lib.hid (ps_over s hP (by omega))
        clear hg hP hkm hv hu hlt
        go_wp2_with fail
        skip
        go_ret2
        exact ⟨ret_int2 HO.out.1.symm HO.out.2.symm, rfl⟩

set_option maxRecDepth 1000000 in
set_option maxHeartbeats 4000000 in
theorem num_parse_pos0 (s : ByteArray) (w : World) (hs : s.size ≤ 9223372036854775807) (hn : psNeg s = false) (h0 : psM s = 0) :
    Calls Try.prog 22 #[.string s] w fun e w' => e = .returned (.tuple #[.int .i64 (psV s), .int .i64 (psE s)]) ∧ w = w' := by
  have HO := Lib.hid (ps_bad s (fun h => absurd h.1 (by omega)))
  have hs1 : s.size = 0 := by unfold psM psFrom at h0; rw [hn] at h0; simpa using h0
  clear h0
  go_enter Try.func22, Try.ntmps22
  go_wp2_with fail
  go_step3
  go_wp2_with fail
  go_step3
  go_wp2_with fail
  refine wp_loop_rounds 1 ?_
  rw [rounds_succ]
  go_wp2_with fail
  rw [Exit.noGoto_ret]
  go_ret2
  exact ⟨ret_int2 HO.out.1.symm HO.out.2.symm, rfl⟩

set_option maxRecDepth 1000000 in
set_option maxHeartbeats 4000000 in
theorem num_parse_neg0 (s : ByteArray) (w : World) (hs : s.size ≤ 9223372036854775807) (hn : psNeg s = true) (h0 : psM s = 0) :
    Calls Try.prog 22 #[.string s] w fun e w' => e = .returned (.tuple #[.int .i64 (psV s), .int .i64 (psE s)]) ∧ w = w' := by
  have HO := Lib.hid (ps_bad s (fun h => absurd h.1 (by omega)))
  obtain ⟨hs0, hne⟩ := ps_minus s hn
  have hs1 : s.size = 1 := by unfold psM psFrom at h0; rw [hn, if_pos rfl] at h0; omega
  have hne' : ((s[0].toNat : Int) == 45) = true := by simp; omega
  have hD : (s.extract 1 s.size).size = 0 := by rw [ByteArray.size_extract]; omega
  clear h0
  go_enter Try.func22, Try.ntmps22
  go_wp2_with fail
  go_step3
  go_wp2_with fail
  go_step3
  go_wp2_with fail
  refine wp_loop_rounds 1 ?_
  rw [rounds_succ]
  go_wp2_with fail
  rw [Exit.noGoto_ret]
  go_ret2
  exact ⟨ret_int2 HO.out.1.symm HO.out.2.symm, rfl⟩

theorem num_parse (s : ByteArray) (w : World) (hs : s.size ≤ 9223372036854775807) :
    Calls Try.prog 22 #[.string s] w fun e w' => e = .returned (.tuple #[.int .i64 (psV s), .int .i64 (psE s)]) ∧ w = w' := by
  rcases Nat.eq_zero_or_pos (psM s) with h0 | h0
  · cases hn : psNeg s
    · exact num_parse_pos0 s w hs hn h0
    · exact num_parse_neg0 s w hs hn h0
  · cases hn : psNeg s
    · exact num_parse_pos s w hs hn (by unfold psM psFrom at h0; rw [hn] at h0; simpa using h0)
    · exact num_parse_neg s w hs hn h0
end Go.Proofs.Ytimonckfibphcaa
