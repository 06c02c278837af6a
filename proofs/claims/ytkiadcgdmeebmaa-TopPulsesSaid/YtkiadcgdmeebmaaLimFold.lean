/- limits.Accel and the reference's: the fold over the four motors -/
import Derived.Deep.DeepCutAuto
import Derived.BigQuiet
import Derived.WalkKit
import Derived.WalkLawsBesides
import Derived.Handy
import Derived.Lib.Hide
import Derived.Deep.RegionWith
import Derived.Deep.RegionHeld3
import Derived.RegionTactic
import Derived.BigRegion
import Derived.Test.YtkiadcgdmeebmaaLimBound
import Derived.Test.YtkiadcgdmeebmaaLimValid
import Derived.Test.YtkiadcgdmeebmaaDdaDom
namespace Go.Proofs.Ytkiadcgdmeebmaa
open Go.RowKit
set_option linter.unusedVariables false

attribute [local go_sem] cell_past1 cell_past2 cell_past3 cell_past4 froz_past1 froz_past2 froz_past3

def lim1 (v p n c : Int) : Int := if c = 0 then v else lesser v p n (ab c)
def limC (a b c d : Int) : Nat → Int
  | 0 => a
  | 1 => b
  | 2 => c
  | _ => d
def limK (o : Nat) (f : Nat → Int) (n cap a b c d : Int) : Nat → Int
  | 0 => cap
  | k + 1 => lim1 (limK o f n cap a b c d k) (f (7 * k + o)) n (limC a b c d k)
theorem limK_in (o : Nat) (f : Nat → Int) (n cap a b c d : Int) (hf : ∀ k, k < 4 → 0 ≤ f (7 * k + o)) (hn : 0 ≤ n) (hc : 0 ≤ cap) : ∀ k, k ≤ 4 → 0 ≤ limK o f n cap a b c d k ∧ limK o f n cap a b c d k ≤ cap
  | 0, _ => ⟨hc, Int.le_refl _⟩
  | k + 1, hk => by
    have h := limK_in o f n cap a b c d hf hn hc k (by omega)
    show 0 ≤ lim1 _ _ _ _ ∧ lim1 _ _ _ _ ≤ cap
    unfold lim1
    split
    · exact h
    · rename_i h0
      have := lesser_in (limK o f n cap a b c d k) (f (7 * k + o)) n (ab (limC a b c d k)) h.1 (hf k (by omega)) hn (by unfold ab; omega)
      omega
def accV (f : Nat → Int) (t a b c d : Int) : Int := if ddaValid a b c d && kinValid f t then limK 3 f (ddaDom a b c d) 16777216 a b c d 4 else 0

def ARel (o : Nat) (f : Nat → Int) (x : Bool) (t n cap a b c d : Int) (w : World) (si sv : Value) (wr : World) : Prop :=
  ∃ k : Nat, si = .int .i64 k ∧ k ≤ 4 ∧ sv = .int .i64 (limK o f n cap a b c d k) ∧ Live wr w.heap.size (mach f x t) ∧ Live wr (w.heap.size + 1) #[.int .i64 a, .int .i64 b, .int .i64 c, .int .i64 d] ∧ Below w.heap.size w wr

theorem acc_facts (f : Nat → Int) (t : Int) (h : kinValid f t = true) : ∀ k, k < 4 → (0 ≤ f (7 * k + 2) ∧ f (7 * k + 2) ≤ 1048576) ∧ (0 ≤ f (7 * k + 3) ∧ f (7 * k + 3) ≤ 16777216) ∧ (0 ≤ f (7 * k + 4) ∧ f (7 * k + 4) ≤ 1048576) := fun k hk => by
  have := ax_ok f k (kin_axes f t h k hk)
  omega

theorem lesser_pos (m a b c : Int) (hm : 1 ≤ m) (ha : 1 ≤ a) (hc : 0 < c) (hcb : c ≤ b) : 1 ≤ lesser m a b c := by
  have h1 : 1 ≤ a * b / c := by
    refine Int.le_ediv_of_mul_le hc ?_
    have := Int.mul_le_mul_of_nonneg_right ha (show 0 ≤ b by omega)
    omega
  unfold lesser
  omega
theorem limK_pos (o : Nat) (f : Nat → Int) (n cap a b c d : Int) (hf : ∀ k, k < 4 → 1 ≤ f (7 * k + o)) (hn : ∀ k, k < 4 → ab (limC a b c d k) ≤ n) (hc : 1 ≤ cap) : ∀ k, k ≤ 4 → 1 ≤ limK o f n cap a b c d k
  | 0, _ => hc
  | k + 1, hk => by
    have h := limK_pos o f n cap a b c d hf hn hc k (by omega)
    show 1 ≤ lim1 _ _ _ _
    unfold lim1
    split
    · exact h
    · exact lesser_pos _ _ _ _ h (hf k (by omega)) (by unfold ab; omega) (hn k (by omega))
theorem dom_ge (a b c d : Int) (hv : ddaValid a b c d = true) (k : Nat) (hk : k < 4) : ab (limC a b c d k) ≤ ddaDom a b c d := by
  unfold ddaDom
  rw [if_pos hv]
  unfold dom4
  rcases (by omega : k = 0 ∨ k = 1 ∨ k = 2 ∨ k = 3) with rfl | rfl | rfl | rfl <;> simp only [limC] <;> omega
theorem acc_pos (f : Nat → Int) (t : Int) (h : kinValid f t = true) : ∀ k, k < 4 → 1 ≤ f (7 * k + 2) ∧ 1 ≤ f (7 * k + 3) ∧ 1 ≤ f (7 * k + 4) := fun k hk => by
  have := ax_ok f k (kin_axes f t h k hk)
  omega
def spdV (v n len feed : Int) : Int := if 0 < len ∧ 0 < feed then min v (max 1 (lesser v feed n len)) else v
end Go.Proofs.Ytkiadcgdmeebmaa
