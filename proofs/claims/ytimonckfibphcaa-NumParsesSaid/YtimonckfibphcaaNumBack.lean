/- Writing a number and reading a decimal text are inverse to each other, as plain arithmetic -/
import Derived.Test.YtimonckfibphcaaNumFmtP
import Derived.Test.YtimonckfibphcaaNumPrsP
namespace Go.Proofs.Ytimonckfibphcaa
set_option linter.unusedVariables false

/-- What digits tell, the last one first. -/
def valR : List UInt8 → Nat
  | [] => 0
  | d :: ds => 10 * valR ds + (d.toNat - 48)
def isDg (d : UInt8) : Prop := 48 ≤ d.toNat ∧ d.toNat ≤ 57
theorem dgB_dg (d : Nat) (h : d < 10) : isDg (dgB d) := by unfold isDg; rw [dgB_nat d h]; omega
theorem valR_leD (u : Nat) : valR (leD u) = u := by
  induction u using Nat.strongRecOn with
  | _ u ih =>
    rw [leD_rec]
    show 10 * valR (if u / 10 = 0 then [] else leD (u / 10)) + ((dgB (u % 10)).toNat - 48) = u
    rw [dgB_nat _ (by omega)]
    split
    · show 10 * 0 + _ = u; omega
    · rw [ih (u / 10) (by omega)]; omega
theorem leD_dg (u : Nat) : ∀ d ∈ leD u, isDg d := by
  induction u using Nat.strongRecOn with
  | _ u ih =>
    rw [leD_rec]
    intro d hd
    rcases List.mem_cons.1 hd with rfl | hd
    · exact dgB_dg _ (by omega)
    · split at hd
      · exact absurd hd (by simp)
      · exact ih (u / 10) (by omega) d hd
theorem leD_ne (u : Nat) : leD u ≠ [] := by rw [leD_rec]; simp
theorem leD_pos (u : Nat) : 0 < (leD u).length := List.length_pos_iff.2 (leD_ne u)
/-- The first digit of a positive number is not 0. -/
theorem leD_last (u : Nat) (hu : 0 < u) : ((leD u).getLast (leD_ne u)).toNat ≠ 48 := by
  induction u using Nat.strongRecOn with
  | _ u ih =>
    by_cases h : u / 10 = 0
    · have e : leD u = [dgB (u % 10)] := by rw [leD_rec, if_pos h]
      simp only [e, List.getLast_singleton]
      rw [dgB_nat _ (by omega)]
      omega
    · have e : leD u = dgB (u % 10) :: leD (u / 10) := by rw [leD_rec, if_neg h]
      simp only [e, List.getLast_cons (leD_ne (u / 10))]
      exact ih (u / 10) (by omega) (by omega)
theorem valR_pos : ∀ (R : List UInt8) (hne : R ≠ []), (∀ d ∈ R, isDg d) → (R.getLast hne).toNat ≠ 48 → 0 < valR R
  | [d], _, hd, hl => by
    have := hd d (by simp)
    unfold isDg at this
    simp only [List.getLast_singleton] at hl
    show 0 < 10 * 0 + (d.toNat - 48)
    omega
  | d :: e :: ds, _, hd, hl => by
    have := valR_pos (e :: ds) (by simp) (fun x hx => hd x (List.mem_cons_of_mem _ hx)) (by rwa [List.getLast_cons (by simp)] at hl)
    show 0 < 10 * valR (e :: ds) + (d.toNat - 48)
    omega
theorem dgB_back (d : UInt8) (h : isDg d) : dgB (d.toNat - 48) = d := by
  unfold isDg at h
  apply UInt8.toNat_inj.1
  rw [dgB_nat _ (by omega)]
  omega
theorem leD_val : ∀ (R : List UInt8) (hne : R ≠ []), (∀ d ∈ R, isDg d) → ((R.getLast hne).toNat ≠ 48 ∨ R.length = 1) → leD (valR R) = R
  | [d], _, hd, _ => by
    have h := hd d (by simp)
    have h' := h
    unfold isDg at h'
    have e : valR [d] = d.toNat - 48 := by show 10 * 0 + (d.toNat - 48) = _; omega
    rw [e, leD_rec, if_pos (by omega), Nat.mod_eq_of_lt (by omega), dgB_back d h]
  | d :: e :: ds, _, hd, hl => by
    have h := hd d (by simp)
    have h' := h
    unfold isDg at h'
    have hd' : ∀ x ∈ e :: ds, isDg x := fun x hx => hd x (List.mem_cons_of_mem _ hx)
    have hl' : ((e :: ds).getLast (by simp)).toNat ≠ 48 := by
      rcases hl with hl | hl
      · rwa [List.getLast_cons (by simp)] at hl
      · simp at hl
    have hp := valR_pos (e :: ds) (by simp) hd' hl'
    have hv : valR (d :: e :: ds) = 10 * valR (e :: ds) + (d.toNat - 48) := rfl
    rw [hv, leD_rec, show (10 * valR (e :: ds) + (d.toNat - 48)) % 10 = d.toNat - 48 from by omega, show (10 * valR (e :: ds) + (d.toNat - 48)) / 10 = valR (e :: ds) from by omega, if_neg (by omega), dgB_back d h, leD_val (e :: ds) (by simp) hd' (Or.inl hl')]

theorem vF_list (f : Nat → Nat) (M : List UInt8) (h : ∀ k, k < M.length → f k = (M.getD k 0).toNat) : ∀ k, k ≤ M.length → vF f k = valR (M.take k).reverse
  | 0, _ => by simp [vF, valR]
  | k + 1, hk => by
    have hk' : k < M.length := by omega
    rw [List.take_add_one, List.getElem?_eq_getElem hk', Option.toList_some, List.reverse_append]
    show 10 * vF f k + (f k - 48) = valR (M[k] :: (M.take k).reverse)
    show _ = 10 * valR (M.take k).reverse + ((M[k]).toNat - 48)
    rw [vF_list f M h k (by omega), h k hk', List.getD_eq_getElem?_getD, List.getElem?_eq_getElem hk', Option.getD_some]

/-- The digits of a text. -/
def psD (s : ByteArray) : List UInt8 := s.data.toList.drop (psFrom s)
theorem psM_len (s : ByteArray) : psM s = (psD s).length := by
  unfold psM psD
  rw [List.length_drop, Array.length_toList]
  rfl
theorem psF_get (s : ByteArray) (k : Nat) : psF s k = ((psD s).getD k 0).toNat := by
  unfold psF psD
  rw [List.getD_eq_getElem?_getD, List.getD_eq_getElem?_getD, List.getElem?_drop]
theorem psVal (s : ByteArray) : vF (psF s) (psM s) = valR (psD s).reverse := by
  rw [psM_len, vF_list (psF s) (psD s) (fun k _ => psF_get s k) _ (Nat.le_refl _), List.take_length]
theorem psNeg_iff (s : ByteArray) : psNeg s = true ↔ ∃ M, s.data.toList = 45 :: M := by
  unfold psNeg
  have e : s.size = s.data.toList.length := rfl
  rw [e]
  cases s.data.toList with
  | nil => simp
  | cons x xs => simp
theorem ps_list (s : ByteArray) : s.data.toList = (if psNeg s then [45] else []) ++ psD s := by
  unfold psD psFrom
  cases h : psNeg s
  · rfl
  · obtain ⟨M, hM⟩ := (psNeg_iff s).1 h
    rw [hM]
    rfl
theorem pOk_list (s : ByteArray) : pOk (psF s) (psM s) (psNeg s) ↔ 0 < (psD s).length ∧ (∀ d ∈ psD s, isDg d) ∧ (((psD s).getD 0 0).toNat = 48 → psNeg s = false ∧ (psD s).length ≤ 1) := by
  unfold pOk gdF
  rw [psM_len]
  simp only [psF_get]
  constructor
  · rintro ⟨h1, h2⟩
    refine ⟨h1, fun d hd => ?_, fun h => ?_⟩
    · obtain ⟨k, hk, rfl⟩ := List.mem_iff_getElem.1 hd
      have := h2 k hk
      rw [List.getD_eq_getElem?_getD, List.getElem?_eq_getElem hk, Option.getD_some] at this
      exact ⟨this.1, this.2.1⟩
    · have h3 := (h2 0 h1).2.2
      refine ⟨?_, ?_⟩
      · cases hn : psNeg s
        · rfl
        · exact absurd ⟨h, rfl, Or.inl hn⟩ h3
      · exact Nat.le_of_not_lt fun h5 => h3 ⟨h, rfl, Or.inr h5⟩
  · rintro ⟨h1, h2, h3⟩
    refine ⟨h1, fun k hk => ?_⟩
    have h4 := h2 _ (List.getElem_mem hk)
    have e : (psD s).getD k 0 = (psD s)[k] := by rw [List.getD_eq_getElem?_getD, List.getElem?_eq_getElem hk, Option.getD_some]
    rw [e]
    refine ⟨h4.1, h4.2, ?_⟩
    rintro ⟨h5, rfl, h6⟩
    rw [← e] at h5
    obtain ⟨h7, h8⟩ := h3 h5
    rcases h6 with h6 | h6
    · rw [h7] at h6; exact absurd h6 (by decide)
    · omega
theorem last_rev (M : List UInt8) (h : M.reverse ≠ []) : M.reverse.getLast h = M.getD 0 0 := by
  cases M with
  | nil => simp at h
  | cons x xs => simp

theorem ps_zero (s : ByteArray) (h : psE s = 0) : pOk (psF s) (psM s) (psNeg s) ∧ (vF (psF s) (psM s) < 9223372036854775808 ∨ (vF (psF s) (psM s) = 9223372036854775808 ∧ psNeg s = true)) := by
  by_cases h1 : pOk (psF s) (psM s) (psNeg s)
  · by_cases h2 : vF (psF s) (psM s) < 9223372036854775808 ∨ (vF (psF s) (psM s) = 9223372036854775808 ∧ psNeg s = true)
    · exact ⟨h1, h2⟩
    · rw [(ps_over s h1 h2).2] at h; exact absurd h (by decide)
  · rw [(ps_bad s h1).2] at h; exact absurd h (by decide)
theorem psV_int (s : ByteArray) : -9223372036854775808 ≤ psV s ∧ psV s ≤ 9223372036854775807 := by
  by_cases h : psE s = 0
  · obtain ⟨h1, h2⟩ := ps_zero s h
    rw [(ps_fine s h1 h2).1]
    cases hn : psNeg s
    · rw [hn] at h2
      rw [if_neg (by decide)]
      rcases h2 with h2 | h2
      · omega
      · exact absurd h2.2 (by decide)
    · rw [if_pos rfl]; omega
  · have e : psV s = 0 := by
      unfold psE at h
      unfold psV
      cases h1 : okB (psF s) (psM s) (psNeg s)
      · rfl
      · rw [h1, if_pos rfl] at h
        cases h2 : fitB s
        · rfl
        · rw [h2] at h; exact absurd rfl h
    rw [e]
    decide

theorem parse_fmts (s : ByteArray) (h : psE s = 0) : fmtS (psV s) = s := by
  obtain ⟨h1, h2⟩ := ps_zero s h
  rw [(ps_fine s h1 h2).1, psVal]
  rw [psVal] at h2
  obtain ⟨k1, k2, k3⟩ := (pOk_list s).1 h1
  have hne : (psD s).reverse ≠ [] := by rw [ne_eq, List.reverse_eq_nil_iff]; exact List.length_pos_iff.1 k1
  have hd : ∀ d ∈ (psD s).reverse, isDg d := fun d hd => k2 d (List.mem_reverse.1 hd)
  have hv : leD (valR (psD s).reverse) = (psD s).reverse := by
    refine leD_val _ hne hd ?_
    rw [last_rev, List.length_reverse]
    by_cases h : ((psD s).getD 0 0).toNat = 48
    · right; have := (k3 h).2; omega
    · exact Or.inl h
  have hl := ps_list s
  have e : fmtL (if psNeg s then -(valR (psD s).reverse : Int) else (valR (psD s).reverse : Int)) = s.data.toList := by
    rw [hl]
    unfold fmtL
    cases hn : psNeg s
    · rw [if_neg (by decide : ¬ (false = true)), if_neg (by omega), if_neg (by decide : ¬ (false = true)), Int.natAbs_natCast, hv, List.reverse_reverse]
    · have hp : 0 < valR (psD s).reverse := by
        refine valR_pos _ hne hd ?_
        rw [last_rev]
        intro h
        rw [(k3 h).1] at hn
        exact absurd hn (by decide)
      rw [if_pos rfl, if_pos (by omega), if_pos rfl, Int.natAbs_neg, Int.natAbs_natCast, hv, List.reverse_reverse]
  unfold fmtS
  rw [e]

theorem fmtS_len (n : Int) (hn : -9223372036854775808 ≤ n ∧ n ≤ 9223372036854775807) : (fmtS n).size ≤ 21 := by
  have h := leD_len20 n.natAbs (by omega)
  show (fmtL n).toArray.size ≤ 21
  rw [List.size_toArray]
  unfold fmtL
  rw [List.length_append, List.length_reverse]
  split
  · simp only [List.length_cons, List.length_nil]; omega
  · simp only [List.length_nil]; omega
theorem fmt_parses (n : Int) (hn : -9223372036854775808 ≤ n ∧ n ≤ 9223372036854775807) : psV (fmtS n) = n ∧ psE (fmtS n) = 0 := by
  have hl : (fmtS n).data.toList = fmtL n := rfl
  have hr : (leD n.natAbs).reverse ≠ [] := by rw [ne_eq, List.reverse_eq_nil_iff]; exact leD_ne _
  have hdg : ∀ d ∈ (leD n.natAbs).reverse, isDg d := fun d hd => leD_dg _ d (List.mem_reverse.1 hd)
  have hng : psNeg (fmtS n) = decide (n < 0) := by
    by_cases h : n < 0
    · rw [decide_eq_true h]
      refine (psNeg_iff _).2 ⟨(leD n.natAbs).reverse, ?_⟩
      rw [hl]
      unfold fmtL
      rw [if_pos h]
      rfl
    · rw [decide_eq_false h]
      cases hx : psNeg (fmtS n)
      · rfl
      · exfalso
        obtain ⟨M, hM⟩ := (psNeg_iff _).1 hx
        rw [hl] at hM
        unfold fmtL at hM
        rw [if_neg h, List.nil_append] at hM
        have := hdg 45 (by rw [hM]; simp)
        unfold isDg at this
        exact absurd this.1 (by decide)
  have hD : psD (fmtS n) = (leD n.natAbs).reverse := by
    have := ps_list (fmtS n)
    rw [hl, hng] at this
    unfold fmtL at this
    by_cases h : n < 0
    · rw [decide_eq_true h, if_pos h, if_pos rfl] at this
      exact (List.append_cancel_left this).symm
    · rw [decide_eq_false h, if_neg h, if_neg (by decide)] at this
      exact (List.append_cancel_left this).symm
  have hv : vF (psF (fmtS n)) (psM (fmtS n)) = n.natAbs := by rw [psVal, hD, List.reverse_reverse, valR_leD]
  have hok : pOk (psF (fmtS n)) (psM (fmtS n)) (psNeg (fmtS n)) := by
    refine (pOk_list _).2 ?_
    rw [hD]
    refine ⟨by rw [List.length_reverse]; exact leD_pos _, hdg, fun h => ?_⟩
    rw [← last_rev _ (by rw [List.reverse_reverse]; exact leD_ne _)] at h
    simp only [List.reverse_reverse] at h
    by_cases h0 : n.natAbs = 0
    · refine ⟨by rw [hng]; exact decide_eq_false (by omega), ?_⟩
      rw [h0, leD_rec]
      simp
    · exact absurd h (leD_last _ (by omega))
  obtain ⟨h1, h2⟩ := ps_fine (fmtS n) hok (by rw [hv, hng]; by_cases h : n < 0 <;> simp [h] <;> omega)
  refine ⟨?_, h2⟩
  rw [h1, hv, hng]
  by_cases h : n < 0
  · rw [decide_eq_true h, if_pos rfl]; omega
  · rw [decide_eq_false h, if_neg (by decide)]; omega
end Go.Proofs.Ytimonckfibphcaa
