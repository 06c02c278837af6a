/- Rows of ints made by the program: their cells by an index function; what greatest of ahead computes, in plain integers -/
import Derived.Laws.MakeOwn
import Derived.Test.YtkiadcgdmeebmaaAhdFeas
namespace Go.Proofs.Ytkiadcgdmeebmaa
open Go.RowKit
set_option linter.unusedVariables false

def arrF (n : Nat) (s : Nat → Int) : Array Value := ((List.range n).map fun i => Value.int .i64 (s i)).toArray
theorem arrF_size (n : Nat) (s : Nat → Int) : (arrF n s).size = n := by simp [arrF]
theorem arrF_at (n : Nat) (s : Nat → Int) (i : Nat) (h : i < n) : (arrF n s)[i]? = some (.int .i64 (s i)) := by simp [arrF, h]
def upd (s : Nat → Int) (i : Nat) (v : Int) : Nat → Int := fun j => if j = i then v else s j
theorem arrF_congr {n : Nat} {s t : Nat → Int} (h : ∀ i, i < n → s i = t i) : arrF n s = arrF n t := by
  apply Array.ext_getElem?
  intro i
  by_cases hi : i < n
  · rw [arrF_at n s i hi, arrF_at n t i hi, h i hi]
  · rw [Array.getElem?_eq_none (by rw [arrF_size]; omega), Array.getElem?_eq_none (by rw [arrF_size]; omega)]
theorem arrF_set (n : Nat) (s : Nat → Int) (i : Nat) (v : Int) : (arrF n s).setIfInBounds i (.int .i64 v) = arrF n (upd s i v) := by
  apply Array.ext_getElem?
  intro j
  by_cases hj : j < n
  · rw [arrF_at n _ j hj]
    by_cases e : i = j
    · subst e
      rw [Array.getElem?_setIfInBounds_self_of_lt (by rw [arrF_size]; exact hj)]
      simp [upd]
    · rw [Array.getElem?_setIfInBounds_ne e, arrF_at n s j hj]
      simp [upd, Ne.symm e]
  · rw [Array.getElem?_eq_none (by simp [arrF_size]; omega), Array.getElem?_eq_none (by rw [arrF_size]; omega)]
theorem live_arr_at {w : World} {b n : Nat} {s : Nat → Int} (L : Live w b (arrF n s)) (i : Nat) (h : i < n) : w.cell? ⟨b, i, none⟩ = some (.int .i64 (s i)) := by rw [L.2.1 i, arrF_at n s i h]
theorem live_arr_set {w : World} {b n : Nat} {s : Nat → Int} (L : Live w b (arrF n s)) (i : Nat) (v : Int) (h : i < n) : Live (w.setCell ⟨b, i, none⟩ (.int .i64 v)) b (arrF n (upd s i v)) :=
  live_conv (live_set_same L i (.int .i64 v) (by rw [arrF_size]; exact h)) (arrF_set n s i v)
theorem cell_set_off {w : World} {b o o' : Nat} {v x : Value} (h : w.cell? ⟨b, o, none⟩ = some x) (ne : o' ≠ o) : (w.setCell ⟨b, o', none⟩ v).cell? ⟨b, o, none⟩ = some x := by
  rw [World.cell?_setCell_other w _ _ _ (by intro h2; cases h2; exact ne rfl)]; exact h

theorem run_min4 {P : Program} (ts : Array TypeId) (t : TypeId) (x y z u : Int) (w : World) : (Builtin.min_ ts t #[.int .i64 x, .int .i64 y, .int .i64 z, .int .i64 u]).run P w = .ok (.int .i64 (min (min (min x y) z) u)) w := by
  have e : ∀ a b : Int, (if b < a then b else a) = min a b := fun a b => by rw [Int.min_def]; split <;> split <;> omega
  simp [Builtin.min_, Builtin.min2, e]
theorem run_min3' {P : Program} (ts : Array TypeId) (t : TypeId) (x y z : Int) (w : World) : (Builtin.min_ ts t #[.int .i64 x, .int .i64 y, .int .i64 z]).run P w = .ok (.int .i64 (min (min x y) z)) w := by
  have e : ∀ a b : Int, (if b < a then b else a) = min a b := fun a b => by rw [Int.min_def]; split <;> split <;> omega
  simp [Builtin.min_, Builtin.min2, e]

theorem int_info2 : (Try.prog.info? 3).map (fun i => (i.zero, i.size, i.bytes)) = some (some (.int .i64 0), 1, 8) := by kernel_rfl
theorem made_ints (N : Nat) : madeCells (Value.int .i64 0).cells N = arrF N (fun _ => 0) := by
  apply Array.ext_getElem?
  intro i
  simp only [madeCells, arrF, Value.cells]
  by_cases hi : i < N
  · simp [hi, Nat.mod_one]
  · simp [hi]
theorem run_make_ints (n : Nat) (h : n ≤ 10000000000) (w : World) : (Instr.makeSlice 54 (.int .i64 (n : Int)) (.int .i64 (n : Int))).run Try.prog w = .ok (.slice (some ⟨w.heap.size, 0, none⟩) n n) (w.alloc (.cells (arrF n (fun _ => 0)) 3)) := by
  obtain ⟨i0, hi, hz0, hz1, hz2⟩ := info_parts int_info2
  have h2 := run_make (P := Try.prog) (w := w) 54 3 i0 (.int .i64 0) Try.underlying54 hi hz0 .i64 .i64 (n : Int) (n : Int) (by omega) (by omega) (by rw [hz2]; omega) (by omega)
  rw [h2, hz1, made_ints]
  simp

/-- The greatest numbers going forward, from the first one. -/
def fwd (g : Nat → Nat → Int) (z : Nat → Int) (en : Int) (n : Nat) : Nat → Int
  | 0 => en
  | i + 1 => if i + 1 < n then min (min (min (z (i + 1)) (g i 6)) (g (i + 1) 6)) (fwd g z en n i + rch g i) else min 0 (fwd g z en n i + rch g i)
/-- .. and going back from the end, by the distance to it. -/
def bwd (g : Nat → Nat → Int) (z : Nat → Int) (en : Int) (n : Nat) : Nat → Int
  | 0 => fwd g z en n n
  | d + 1 => min (fwd g z en n (n - (d + 1))) (bwd g z en n d + rch g (n - (d + 1)))
def grt (g : Nat → Nat → Int) (z : Nat → Int) (en : Int) (n i : Nat) : Int := bwd g z en n (n - i)
theorem grt_end (g : Nat → Nat → Int) (z : Nat → Int) (en : Int) (n : Nat) : grt g z en n n = fwd g z en n n := by unfold grt; rw [Nat.sub_self]; rfl
theorem grt_step (g : Nat → Nat → Int) (z : Nat → Int) (en : Int) (n i : Nat) (h : i < n) : grt g z en n i = min (fwd g z en n i) (grt g z en n (i + 1) + rch g i) := by
  unfold grt
  rw [show n - i = (n - (i + 1)) + 1 by omega, bwd, show n - (n - (i + 1) + 1) = i by omega]
theorem fwd_in (g : Nat → Nat → Int) (z : Nat → Int) (en : Int) (n : Nat) (hz : ∀ k, I64 (z k)) (hs : ∀ k, k < n → bsnd g k = true) (he : 0 ≤ en) (he1 : en ≤ 1099511627776) : ∀ i, i ≤ n → -9223372036854775808 ≤ fwd g z en n i ∧ fwd g z en n i ≤ 1099511627776
  | 0, _ => ⟨show _ ≤ en by omega, he1⟩
  | i + 1, hi => by
    have ih := fwd_in g z en n hz hs he he1 i (by omega)
    have hr := (bsnd_in g i (hs i (by omega)))
    rw [fwd]
    split
    · rename_i h1
      have h2 := (bsnd_in g (i + 1) (hs (i + 1) h1)).2.1
      have h3 := hz (i + 1)
      unfold I64 at h3
      omega
    · omega
theorem bwd_in (g : Nat → Nat → Int) (z : Nat → Int) (en : Int) (n : Nat) (hz : ∀ k, I64 (z k)) (hs : ∀ k, k < n → bsnd g k = true) (he : 0 ≤ en) (he1 : en ≤ 1099511627776) : ∀ d, d ≤ n → -9223372036854775808 ≤ bwd g z en n d ∧ bwd g z en n d ≤ 1099511627776
  | 0, _ => fwd_in g z en n hz hs he he1 n (Nat.le_refl _)
  | d + 1, hd => by
    have ih := bwd_in g z en n hz hs he he1 d (by omega)
    have hr := (bsnd_in g (n - (d + 1)) (hs _ (by omega)))
    have hf := fwd_in g z en n hz hs he he1 (n - (d + 1)) (by omega)
    rw [bwd]
    omega
theorem grt_in (g : Nat → Nat → Int) (z : Nat → Int) (en : Int) (n : Nat) (hz : ∀ k, I64 (z k)) (hs : ∀ k, k < n → bsnd g k = true) (he : 0 ≤ en) (he1 : en ≤ 1099511627776) (i : Nat) : -9223372036854775808 ≤ grt g z en n i ∧ grt g z en n i ≤ 1099511627776 :=
  bwd_in g z en n hz hs he he1 (n - i) (by omega)
end Go.Proofs.Ytkiadcgdmeebmaa
