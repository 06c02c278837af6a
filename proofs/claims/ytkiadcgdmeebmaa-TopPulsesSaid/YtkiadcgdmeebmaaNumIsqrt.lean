/- What Isqrt returns, in the program and in the reference, for all numbers: the greatest number whose square is at most n -/
import Derived.Test.YtkiadcgdmeebmaaProg
import Derived.WalkKit
import Derived.WalkLawsBesides
import Derived.Lib.Hide
import Derived.Laws.BitsAllLaws
import Derived.Laws.BitsLemmas
import Derived.Deep.LoopGhost
import Derived.Test.YtkiadcgdmeebmaaKit
namespace Go.Proofs.Ytkiadcgdmeebmaa
open Go.RowKit
set_option linter.unusedVariables false

/-- The root, bit by bit: so many bits are left. -/
def isqL (N : Nat) : Nat → Nat → Nat
  | 0, r => r
  | j + 1, r => if (r + 2 ^ j) * (r + 2 ^ j) ≤ N then isqL N j (r + 2 ^ j) else isqL N j r
def isq (N : Nat) : Nat := isqL N 32 0

theorem isqL_spec (N : Nat) : ∀ (j r : Nat), r * r ≤ N → N < (r + 2 ^ j) * (r + 2 ^ j) → isqL N j r * isqL N j r ≤ N ∧ N < (isqL N j r + 1) * (isqL N j r + 1)
  | 0, r, h1, h2 => by simpa [isqL] using ⟨h1, h2⟩
  | j + 1, r, h1, h2 => by
    have e : 2 ^ (j + 1) = 2 ^ j + 2 ^ j := by rw [Nat.pow_succ]; omega
    unfold isqL
    split
    · rename_i h
      refine isqL_spec N j _ h ?_
      rw [e] at h2
      rw [Nat.add_assoc]
      exact h2
    · rename_i h
      exact isqL_spec N j r h1 (by omega)
theorem isq_spec (N : Nat) (h : N < 18446744073709551616) : isq N * isq N ≤ N ∧ N < (isq N + 1) * (isq N + 1) := isqL_spec N 32 0 (by omega) (by simpa using h)
theorem isq_unique (N r : Nat) (hN : N < 18446744073709551616) (h1 : r * r ≤ N) (h2 : N < (r + 1) * (r + 1)) : r = isq N := by
  obtain ⟨k1, k2⟩ := isq_spec N hN
  generalize isq N = s at *
  rcases Nat.lt_trichotomy r s with h | h | h
  · have : (r + 1) * (r + 1) ≤ s * s := Nat.mul_le_mul (by omega) (by omega)
    omega
  · exact h
  · have : (s + 1) * (s + 1) ≤ r * r := Nat.mul_le_mul (by omega) (by omega)
    omega

/-- The test of the code, t ≤ N / t, is t * t ≤ N. -/
theorem le_div (N t : Nat) (ht : 1 ≤ t) : t ≤ N / t ↔ t * t ≤ N := by rw [Nat.le_div_iff_mul_le (by omega)]

theorem or_step (P q : Nat) (i : Nat) (hP : P = 2 ^ i) (hb : 2 * P * q + P < 9223372036854775808) : bits .or .i64 ((2 * P * q : Nat) : Int) (P : Int) = ((2 * P * q + P : Nat) : Int) := by
  have h : 2 * P * q ||| P = 2 * P * q + P := by
    have := Nat.two_pow_add_eq_or_of_lt (i := i + 1) (b := P) (by rw [hP, Nat.pow_succ]; have := Nat.two_pow_pos i; omega) q
    rw [Nat.pow_succ, ← hP, Nat.mul_comm P 2] at this
    exact this.symm
  have ofInt : ∀ a : Nat, a < 9223372036854775808 → (BitVec.ofInt 64 (a : Int)).toNat = a := fun a ha => by
    rw [BitVec.ofInt_natCast, BitVec.toNat_ofNat]; exact Nat.mod_eq_of_lt (by omega)
  show IntKind.i64.wrap ((BitVec.ofInt 64 ((2 * P * q : Nat) : Int) ||| BitVec.ofInt 64 (P : Int)).toNat : Int) = _
  rw [BitVec.toNat_or, ofInt _ (by omega), ofInt _ (by omega), h, IntKind.wrap_i64]
  omega

def IRel (N : Nat) (g : Nat) (s4 s5 : Value) (wr : World) : Prop :=
  ∃ j r : Nat, s4 = .int .i64 (r : Int) ∧ s5 = .int .i64 ((2 ^ j / 2 : Nat) : Int) ∧ j ≤ 32 ∧ j ≤ g ∧ r + 2 ^ j ≤ 4294967296 ∧ (∃ q, r = 2 ^ j * q) ∧ isqL N j r = isq N

set_option maxRecDepth 100000 in
set_option maxHeartbeats 4000000 in
theorem num_isqrt (N : Nat) (w : World) (hN : N ≤ 9223372036854775807) :
    Calls Try.prog 56 #[.int .i64 (N : Int)] w fun e w' => e = .returned (.tuple #[.int .i64 (isq N : Int), .int .i64 0]) ∧ w = w' := by
  go_enter Try.func56, Try.ntmps56
  go_wp2
  go_loopg [4, 5] 32 (fun g s4 s5 wr => w = wr ∧ IRel N g s4 s5 wr)
  case atStart => exact ⟨rfl, 32, 0, rfl, rfl, by omega, by omega, by decide, ⟨0, rfl⟩, rfl⟩
  case round =>
    obtain ⟨rfl, j, r, rfl, rfl, hj, hg, hr, ⟨q, hq⟩, hs⟩ := hrel
    have HS := Lib.hid hs
    have HG := Lib.hid hg
    clear hs hg
    cases j with
    | zero =>
      clear hr hq
      go_wp2
      go_ret2
      exact ⟨by rw [← HS.out]; rfl, rfl⟩
    | succ i =>
      have e1 : 2 ^ (i + 1) / 2 = 2 ^ i := by rw [Nat.pow_succ]; omega
      have e2 : 2 ^ (i + 1) = 2 * 2 ^ i := by rw [Nat.pow_succ]; omega
      rw [e1]
      rw [e2] at hr hq
      have hp := Nat.two_pow_pos i
      obtain ⟨P, hP⟩ : ∃ P, P = 2 ^ i := ⟨_, rfl⟩
      rw [← hP] at hr hq hp ⊢
      have hor := or_step P q i hP (by omega)
      rw [← hq] at hor
      have HP := Lib.hid hP
      have HQ := Lib.hid hq
      clear e1 e2 hP hq
      have ec : ((N / (r + P) : Nat) : Int) = (N : Int) / ((r : Int) + (P : Int)) := by simp
      have hb0 : 0 ≤ (N : Int) / ((r : Int) + (P : Int)) := by rw [← ec]; exact Int.natCast_nonneg _
      have hb1 : (N : Int) / ((r : Int) + (P : Int)) ≤ (N : Int) := by rw [← ec]; have := Nat.div_le_self N (r + P); omega
      by_cases ht : (r + P) * (r + P) ≤ N
      · have hd : (r : Int) + (P : Int) ≤ (N : Int) / ((r : Int) + (P : Int)) := by rw [← ec]; have := (le_div N (r + P) (by omega)).2 ht; omega
        have HT := Lib.hid ht
        clear ht ec
        go_wp2
        go_roundg i
        case measure => have := HG.out; omega
        case rel =>
          refine ⟨rfl, i, r + P, by go_num, by rw [← HP.out]; go_num, by omega, by omega, by rw [← HP.out]; omega, ⟨2 * q + 1, ?_⟩, ?_⟩
          · rw [← HP.out, HQ.out, Nat.mul_add, Nat.mul_one, ← Nat.mul_assoc, Nat.mul_comm P 2]
          · rw [← HS.out, HP.out]
            have h2 := HT.out
            rw [HP.out] at h2
            show _ = (if (r + 2 ^ i) * (r + 2 ^ i) ≤ N then isqL N i (r + 2 ^ i) else isqL N i r)
            rw [if_pos h2]
      · have hd : (N : Int) / ((r : Int) + (P : Int)) < (r : Int) + (P : Int) := by
          rw [← ec]
          have : ¬ r + P ≤ N / (r + P) := fun h => ht ((le_div N (r + P) (by omega)).1 h)
          omega
        have HT := Lib.hid ht
        clear ht ec
        go_wp2
        go_roundg i
        case measure => have := HG.out; omega
        case rel =>
          refine ⟨rfl, i, r, rfl, by rw [← HP.out]; go_num, by omega, by omega, by rw [← HP.out]; omega, ⟨2 * q, ?_⟩, ?_⟩
          · rw [← HP.out, ← Nat.mul_assoc, Nat.mul_comm P 2]; exact HQ.out
          · rw [← HS.out]
            have h2 := HT.out
            rw [HP.out] at h2
            show _ = (if (r + 2 ^ i) * (r + 2 ^ i) ≤ N then isqL N i (r + 2 ^ i) else isqL N i r)
            rw [if_neg h2]

theorem num_isqrt_neg (n : Int) (w : World) (hn : n < 0) :
    Calls Try.prog 56 #[.int .i64 n] w fun e w' => e = .returned (.tuple #[.int .i64 0, .int .i64 1]) ∧ w = w' := by
  go_enter Try.func56, Try.ntmps56
  go_wp2
  go_ret2
  exact ⟨rfl, rfl⟩
set_option maxRecDepth 100000 in
set_option maxHeartbeats 4000000 in
theorem ref01_isqrt (N : Nat) (w : World) (hN : N ≤ 9223372036854775807) :
    Calls Try.prog 11 #[.int .i64 (N : Int)] w fun e w' => e = .returned (.tuple #[.int .i64 (isq N : Int), .int .i64 0]) ∧ w = w' := by
  go_enter Try.func11, Try.ntmps11
  go_wp2
  go_loopg [4, 5] 32 (fun g s4 s5 wr => w = wr ∧ IRel N g s4 s5 wr)
  case atStart => exact ⟨rfl, 32, 0, rfl, rfl, by omega, by omega, by decide, ⟨0, rfl⟩, rfl⟩
  case round =>
    obtain ⟨rfl, j, r, rfl, rfl, hj, hg, hr, ⟨q, hq⟩, hs⟩ := hrel
    have HS := Lib.hid hs
    have HG := Lib.hid hg
    clear hs hg
    cases j with
    | zero =>
      clear hr hq
      go_wp2
      go_ret2
      exact ⟨by rw [← HS.out]; rfl, rfl⟩
    | succ i =>
      have e1 : 2 ^ (i + 1) / 2 = 2 ^ i := by rw [Nat.pow_succ]; omega
      have e2 : 2 ^ (i + 1) = 2 * 2 ^ i := by rw [Nat.pow_succ]; omega
      rw [e1]
      rw [e2] at hr hq
      have hp := Nat.two_pow_pos i
      obtain ⟨P, hP⟩ : ∃ P, P = 2 ^ i := ⟨_, rfl⟩
      rw [← hP] at hr hq hp ⊢
      have hor := or_step P q i hP (by omega)
      rw [← hq] at hor
      have HP := Lib.hid hP
      have HQ := Lib.hid hq
      clear e1 e2 hP hq
      have ec : ((N / (r + P) : Nat) : Int) = (N : Int) / ((r : Int) + (P : Int)) := by simp
      have hb0 : 0 ≤ (N : Int) / ((r : Int) + (P : Int)) := by rw [← ec]; exact Int.natCast_nonneg _
      have hb1 : (N : Int) / ((r : Int) + (P : Int)) ≤ (N : Int) := by rw [← ec]; have := Nat.div_le_self N (r + P); omega
      by_cases ht : (r + P) * (r + P) ≤ N
      · have hd : (r : Int) + (P : Int) ≤ (N : Int) / ((r : Int) + (P : Int)) := by rw [← ec]; have := (le_div N (r + P) (by omega)).2 ht; omega
        have HT := Lib.hid ht
        clear ht ec
        go_wp2
        go_roundg i
        case measure => have := HG.out; omega
        case rel =>
          refine ⟨rfl, i, r + P, by go_num, by rw [← HP.out]; go_num, by omega, by omega, by rw [← HP.out]; omega, ⟨2 * q + 1, ?_⟩, ?_⟩
          · rw [← HP.out, HQ.out, Nat.mul_add, Nat.mul_one, ← Nat.mul_assoc, Nat.mul_comm P 2]
          · rw [← HS.out, HP.out]
            have h2 := HT.out
            rw [HP.out] at h2
            show _ = (if (r + 2 ^ i) * (r + 2 ^ i) ≤ N then isqL N i (r + 2 ^ i) else isqL N i r)
            rw [if_pos h2]
      · have hd : (N : Int) / ((r : Int) + (P : Int)) < (r : Int) + (P : Int) := by
          rw [← ec]
          have : ¬ r + P ≤ N / (r + P) := fun h => ht ((le_div N (r + P) (by omega)).1 h)
          omega
        have HT := Lib.hid ht
        clear ht ec
        go_wp2
        go_roundg i
        case measure => have := HG.out; omega
        case rel =>
          refine ⟨rfl, i, r, rfl, by rw [← HP.out]; go_num, by omega, by omega, by rw [← HP.out]; omega, ⟨2 * q, ?_⟩, ?_⟩
          · rw [← HP.out, ← Nat.mul_assoc, Nat.mul_comm P 2]; exact HQ.out
          · rw [← HS.out]
            have h2 := HT.out
            rw [HP.out] at h2
            show _ = (if (r + 2 ^ i) * (r + 2 ^ i) ≤ N then isqL N i (r + 2 ^ i) else isqL N i r)
            rw [if_neg h2]

theorem ref01_isqrt_neg (n : Int) (w : World) (hn : n < 0) :
    Calls Try.prog 11 #[.int .i64 n] w fun e w' => e = .returned (.tuple #[.int .i64 0, .int .i64 1]) ∧ w = w' := by
  go_enter Try.func11, Try.ntmps11
  go_wp2
  go_ret2
  exact ⟨rfl, rfl⟩
end Go.Proofs.Ytkiadcgdmeebmaa
