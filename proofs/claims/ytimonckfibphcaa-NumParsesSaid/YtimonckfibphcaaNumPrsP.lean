/- Reading a decimal text, as plain arithmetic -/
import Derived.WalkKit
import Derived.Lib.Hide
namespace Go.Proofs.Ytimonckfibphcaa
set_option linter.unusedVariables false

/-- The number that the first k of the bytes f tell. -/
def vF (f : Nat → Nat) : Nat → Nat
  | 0 => 0
  | k + 1 => 10 * vF f k + (f k - 48)
/-- Is byte k of m bytes one that may stand there? -/
def gdF (f : Nat → Nat) (m : Nat) (neg : Bool) (k : Nat) : Prop := 48 ≤ f k ∧ f k ≤ 57 ∧ ¬ (f k = 48 ∧ k = 0 ∧ (neg = true ∨ 1 < m))
def pOk (f : Nat → Nat) (m : Nat) (neg : Bool) : Prop := 0 < m ∧ ∀ k, k < m → gdF f m neg k
def gdB (f : Nat → Nat) (m : Nat) (neg : Bool) (k : Nat) : Bool := decide (48 ≤ f k) && (decide (f k ≤ 57) && !(f k == 48 && (k == 0 && (neg || decide (1 < m)))))
def okB (f : Nat → Nat) (m : Nat) (neg : Bool) : Bool := decide (0 < m) && (List.range m).all (gdB f m neg)
theorem gdB_iff (f : Nat → Nat) (m : Nat) (neg : Bool) (k : Nat) : gdB f m neg k = true ↔ gdF f m neg k := by
  unfold gdB gdF
  cases neg <;> simp <;> omega
theorem okB_iff (f : Nat → Nat) (m : Nat) (neg : Bool) : okB f m neg = true ↔ pOk f m neg := by
  unfold okB pOk
  rw [Bool.and_eq_true, decide_eq_true_eq, List.all_eq_true]
  constructor
  · rintro ⟨h1, h2⟩
    exact ⟨h1, fun k hk => (gdB_iff f m neg k).1 (h2 k (List.mem_range.2 hk))⟩
  · rintro ⟨h1, h2⟩
    exact ⟨h1, fun k hk => (gdB_iff f m neg k).2 (h2 k (List.mem_range.1 hk))⟩
theorem vF_mono (f : Nat → Nat) (k : Nat) : vF f k ≤ vF f (k + 1) := by
  show vF f k ≤ 10 * vF f k + (f k - 48)
  omega
theorem vF_le (f : Nat → Nat) : ∀ (k j : Nat), k ≤ j → vF f k ≤ vF f j
  | k, 0, h => by rw [show k = 0 from by omega]; exact Nat.le_refl _
  | k, j + 1, h => by
    by_cases e : k = j + 1
    · rw [e]; exact Nat.le_refl _
    · exact Nat.le_trans (vF_le f k j (by omega)) (vF_mono f j)

/-- A text's sign, its digits and what it tells. -/
def psNeg (s : ByteArray) : Bool := decide (0 < s.size) && (s.data.toList.getD 0 0 == 45)
def psFrom (s : ByteArray) : Nat := if psNeg s then 1 else 0
def psF (s : ByteArray) (k : Nat) : Nat := (s.data.toList.getD (psFrom s + k) 0).toNat
def psM (s : ByteArray) : Nat := s.size - psFrom s
def fitB (s : ByteArray) : Bool := decide (vF (psF s) (psM s) < 9223372036854775808) || (vF (psF s) (psM s) == 9223372036854775808 && psNeg s)
def psE (s : ByteArray) : Int := if okB (psF s) (psM s) (psNeg s) then (if fitB s then 0 else 3) else 5
def psV (s : ByteArray) : Int := if okB (psF s) (psM s) (psNeg s) && fitB s then (if psNeg s then -(vF (psF s) (psM s) : Int) else (vF (psF s) (psM s) : Int)) else 0
theorem fitB_iff (s : ByteArray) : fitB s = true ↔ (vF (psF s) (psM s) < 9223372036854775808 ∨ (vF (psF s) (psM s) = 9223372036854775808 ∧ psNeg s = true)) := by
  unfold fitB
  simp
theorem ps_bad (s : ByteArray) (h : ¬ pOk (psF s) (psM s) (psNeg s)) : psV s = 0 ∧ psE s = 5 := by
  have h1 : okB (psF s) (psM s) (psNeg s) = false := by
    cases h2 : okB (psF s) (psM s) (psNeg s)
    · rfl
    · exact absurd ((okB_iff _ _ _).1 h2) h
  unfold psV psE
  rw [h1]
  exact ⟨rfl, rfl⟩
theorem ps_over (s : ByteArray) (h : pOk (psF s) (psM s) (psNeg s)) (h2 : ¬ (vF (psF s) (psM s) < 9223372036854775808 ∨ (vF (psF s) (psM s) = 9223372036854775808 ∧ psNeg s = true))) : psV s = 0 ∧ psE s = 3 := by
  have h1 := (okB_iff _ _ _).2 h
  have h3 : fitB s = false := by
    cases h4 : fitB s
    · rfl
    · exact absurd ((fitB_iff s).1 h4) h2
  unfold psV psE
  rw [h1, h3]
  exact ⟨rfl, rfl⟩
theorem ps_fine (s : ByteArray) (h : pOk (psF s) (psM s) (psNeg s)) (h2 : vF (psF s) (psM s) < 9223372036854775808 ∨ (vF (psF s) (psM s) = 9223372036854775808 ∧ psNeg s = true)) : psV s = (if psNeg s then -(vF (psF s) (psM s) : Int) else (vF (psF s) (psM s) : Int)) ∧ psE s = 0 := by
  have h1 := (okB_iff _ _ _).2 h
  have h3 := (fitB_iff s).2 h2
  unfold psV psE
  rw [h1, h3]
  exact ⟨rfl, rfl⟩
end Go.Proofs.Ytimonckfibphcaa
