/- Slices of blocks and of ints that are only read: their elements by index functions; how arguments are opened to them -/
import Derived.Deep.Slices
import Derived.Laws.IdiomArrays
import Derived.Lib.SmallJoins
import Derived.Test.YtkiadcgdmeebmaaKit6
import Derived.Test.YtkiadcgdmeebmaaBlkValid
namespace Go.Proofs.Ytkiadcgdmeebmaa
open Go.RowKit Go.WideShapes Go.ChangeShapes Go.Deep
set_option linter.unusedVariables false

/-- The cells of block k. -/
def blkA (g : Nat → Nat → Int) (k : Nat) : Array Value := #[.int .i64 (g k 0), .int .i64 (g k 1), .int .i64 (g k 2), .int .i64 (g k 3), .int .i64 (g k 4), .int .i64 (g k 5), .int .i64 (g k 6), .int .i64 (g k 7)]
theorem blkA_size (g : Nat → Nat → Int) (k : Nat) : (blkA g k).size = 8 := rfl
theorem blkA_one (g : Nat → Nat → Int) (k : Nat) : (blkA g k).all (·.oneCell') = true := by simp [blkA, Value.oneCell']
theorem blkA_at (g : Nat → Nat → Int) (k o : Nat) (h : o < 8) : (blkA g k)[o]? = some (.int .i64 (g k o)) := by
  match o, h with
  | 0, _ => rfl
  | 1, _ => rfl
  | 2, _ => rfl
  | 3, _ => rfl
  | 4, _ => rfl
  | 5, _ => rfl
  | 6, _ => rfl
  | 7, _ => rfl

/-- A slice of blocks that is only read. -/
def BlkS (w : World) (a : Option Addr) (n : Nat) (g : Nat → Nat → Int) : Prop :=
  0 < n → ∃ b off, a = some ⟨b, off, none⟩ ∧ b < w.heap.size ∧ ∀ k, k < n → ∀ o, o < 8 → w.cell? ⟨b, off + k * 8 + o, none⟩ = some (.int .i64 (g k o))
/-- A slice of ints that is only read. -/
def IntS (w : World) (a : Option Addr) (n : Nat) (z : Nat → Int) : Prop :=
  0 < n → ∃ b off, a = some ⟨b, off, none⟩ ∧ b < w.heap.size ∧ ∀ k, k < n → w.cell? ⟨b, off + k, none⟩ = some (.int .i64 (z k))
def I64 (z : Int) : Prop := -9223372036854775808 ≤ z ∧ z ≤ 9223372036854775807
theorem blkS_below {w w1 : World} {B : Nat} {a : Option Addr} {n : Nat} {g : Nat → Nat → Int} (hb : Below B w w1) (hB : w.heap.size ≤ B) (h : BlkS w a n g) : BlkS w1 a n g := fun h0 => by
  obtain ⟨b, off, e, hlt, hc⟩ := h h0
  exact ⟨b, off, e, Nat.lt_of_lt_of_le hlt hb.size, fun k hk o ho => (hb.cell (p := ⟨b, _, none⟩) (Nat.lt_of_lt_of_le hlt hB)).trans (hc k hk o ho)⟩
theorem intS_below {w w1 : World} {B : Nat} {a : Option Addr} {n : Nat} {z : Nat → Int} (hb : Below B w w1) (hB : w.heap.size ≤ B) (h : IntS w a n z) : IntS w1 a n z := fun h0 => by
  obtain ⟨b, off, e, hlt, hc⟩ := h h0
  exact ⟨b, off, e, Nat.lt_of_lt_of_le hlt hb.size, fun k hk => (hb.cell (p := ⟨b, _, none⟩) (Nat.lt_of_lt_of_le hlt hB)).trans (hc k hk)⟩
theorem blk_range {w : World} {b off n : Nat} {g : Nat → Nat → Int} (hc : ∀ k, k < n → ∀ o, o < 8 → w.cell? ⟨b, off + k * 8 + o, none⟩ = some (.int .i64 (g k o))) (k : Nat) (hk : k < n) : w.rangeAt b (off + k * 8) (blkA g k).toList := fun j v hv => by
  have hj : j < 8 := by
    rcases Nat.lt_or_ge j 8 with h | h
    · exact h
    · rw [Array.getElem?_toList, Array.getElem?_eq_none (by rw [blkA_size]; exact h)] at hv; cases hv
  rw [Array.getElem?_toList, blkA_at g k j hj] at hv
  rw [hc k hk j hj, ← hv]
theorem live_blk {w : World} {b : Nat} {g : Nat → Nat → Int} {k : Nat} (L : Live w b (blkA g k)) :
    w.cell? ⟨b, 0, none⟩ = some (.int .i64 (g k 0)) ∧ w.cell? ⟨b, 1, none⟩ = some (.int .i64 (g k 1)) ∧ w.cell? ⟨b, 2, none⟩ = some (.int .i64 (g k 2)) ∧ w.cell? ⟨b, 3, none⟩ = some (.int .i64 (g k 3)) ∧ w.cell? ⟨b, 4, none⟩ = some (.int .i64 (g k 4)) ∧ w.cell? ⟨b, 5, none⟩ = some (.int .i64 (g k 5)) ∧ w.cell? ⟨b, 6, none⟩ = some (.int .i64 (g k 6)) ∧ w.cell? ⟨b, 7, none⟩ = some (.int .i64 (g k 7)) :=
  ⟨L.2.1 0, L.2.1 1, L.2.1 2, L.2.1 3, L.2.1 4, L.2.1 5, L.2.1 6, L.2.1 7⟩

/- the whole block as one folded value, also in drawn regions -/
def loadB (v : Value) : Sem Value := Instr.loadAt 36 v
theorem loadB_in (v : Value) : Instr.loadAt 36 v = loadB v := rfl
theorem blk_info : (Try.prog.info? 36).map (·.size) = some 8 := by kernel_rfl
theorem loadB_run {w : World} {b o : Nat} {g : Nat → Nat → Int} {k : Nat} (h : w.rangeAt b o (blkA g k).toList) : (loadB (.pointer (some ⟨b, o, none⟩))).run Try.prog w = .ok (.agg (blkA g k)) w :=
  run_loadVar_mid w b o 36 (blkA g k).toList _ h Try.underlying36 rfl blk_info

/- arguments -/
section
variable {H : Type} {enc : TypeId × Value → H} {w : World} {base : Nat} {spare : Nat → Bool} {held : Bool} {fuel : Nat}
theorem cell_i64' {t : TypeId} {v : Value} {x : DataW H × List MemPlace} (ht : Try.prog.underlying t = some (.int .i64)) (h : DataW.trod enc Try.prog w base spare held fuel t [v] = some x) : ∃ z : Int, v = .int .i64 z ∧ I64 z := by
  obtain ⟨z, h1, h2, h3⟩ := DataW.trod_int ht h
  simp at h1
  exact ⟨z, h1, by simpa [Lit.wf, IntKind.min, IntKind.max, IntKind.signed, IntKind.bits, I64] using h3⟩
theorem blk_cells {cs : List Value} {x : DataW H × List MemPlace} (h : DataW.trod enc Try.prog w base spare held fuel 36 cs = some x) :
    ∃ z : Nat → Int, cs.length = 8 ∧ ∀ o, o < 8 → cs[o]? = some (.int .i64 (z o)) ∧ I64 (z o) := by
  have c3 : Try.prog.cellsOf 3 = 1 := by kernel_rfl
  have c4 : Try.prog.cellsOf 32 = 4 := by kernel_rfl
  have c8 : Try.prog.cellsOf 36 = 8 := by kernel_rfl
  obtain ⟨xs, n, _, _, hl, hxl, hf⟩ := DataW.trod_struct Try.underlying36 h
  rw [c8] at hl
  match cs, hl with
  | [v0, v1, v2, v3, v4, v5, v6, v7], _ =>
    match xs, hxl with
    | [y0, y1, y2, y3, y4], _ =>
      have g0 := hf 0 _ rfl
      have g1 := hf 1 _ rfl
      have g2 := hf 2 _ rfl
      have g3 := hf 3 _ rfl
      have g4 := hf 4 _ rfl
      simp [c3, c4] at g0 g1 g2 g3 g4
      obtain ⟨x0, x1, x2, x3, m, _, k0, k1, k2, k3⟩ := trod_array4 Try.underlying32 c3 g0
      obtain ⟨z0, rfl, b0⟩ := cell_i64' Try.underlying3 k0
      obtain ⟨z1, rfl, b1⟩ := cell_i64' Try.underlying3 k1
      obtain ⟨z2, rfl, b2⟩ := cell_i64' Try.underlying3 k2
      obtain ⟨z3, rfl, b3⟩ := cell_i64' Try.underlying3 k3
      obtain ⟨z4, rfl, b4⟩ := cell_i64' Try.underlying3 g1
      obtain ⟨z5, rfl, b5⟩ := cell_i64' Try.underlying3 g2
      obtain ⟨z6, rfl, b6⟩ := cell_i64' Try.underlying3 g3
      obtain ⟨z7, rfl, b7⟩ := cell_i64' Try.underlying3 g4
      refine ⟨fun o => match o with | 0 => z0 | 1 => z1 | 2 => z2 | 3 => z3 | 4 => z4 | 5 => z5 | 6 => z6 | _ => z7, rfl, fun o ho => ?_⟩
      match o, ho with
      | 0, _ => exact ⟨rfl, b0⟩
      | 1, _ => exact ⟨rfl, b1⟩
      | 2, _ => exact ⟨rfl, b2⟩
      | 3, _ => exact ⟨rfl, b3⟩
      | 4, _ => exact ⟨rfl, b4⟩
      | 5, _ => exact ⟨rfl, b5⟩
      | 6, _ => exact ⟨rfl, b6⟩
      | 7, _ => exact ⟨rfl, b7⟩
theorem addr_at {a : Addr} {v : Value} (h : w.cell? a = some v) : a = ⟨a.block, a.off, none⟩ := by
  obtain ⟨b, off, spot⟩ := a
  have hspot : spot = none := World.cell?_spot h
  subst hspot
  rfl
theorem blks_arg {v : Value} {x : DataW H × List MemPlace} (h : DataW.trod enc Try.prog w base spare held fuel 31 [v] = some x) :
    ∃ a n cap g, v = .slice a n cap ∧ n ≤ 9223372036854775807 ∧ n ≤ cap ∧ cap ≤ 9223372036854775807 ∧ BlkS w a n g ∧ ∀ k o, I64 (g k o) := by
  have c8 : Try.prog.cellsOf 36 = 8 := by kernel_rfl
  rcases open_slice Try.underlying31 h with ⟨h1, _⟩ | ⟨a, len, cap, m, n, D, Pl, hcs, hb, hl, hm, hmm, hx, hi⟩
  · simp at h1
    exact ⟨none, 0, 0, fun _ _ => 0, h1, by omega, by omega, by omega, fun h => absurd h (by omega), fun _ _ => (show I64 0 by unfold I64; omega)⟩
  · simp at hcs
    unfold maxLen at hm
    have hml : len ≤ m := by rw [hmm]; split <;> omega
    have hall : ∀ k, k < len → ∃ z : Nat → Int, (∀ o, o < 8 → w.cell? (a.add (k * 8 + o)) = some (.int .i64 (z o))) ∧ ∀ o, o < 8 → I64 (z o) := by
      intro k hk
      obtain ⟨cs', hc, ht⟩ := hi k (by omega)
      rw [c8] at hc
      obtain ⟨_, hcl, hat⟩ := World.cells?_some hc
      obtain ⟨z, _, hz⟩ := blk_cells ht
      exact ⟨z, fun o ho => by rw [← Go.Deep.add_add, hat o ho, (hz o ho).1], fun o ho => (hz o ho).2⟩
    obtain ⟨g, hg⟩ := choose_lt hall
    refine ⟨some a, len, cap, fun k o => if k < len ∧ o < 8 then g k o else 0, hcs, by omega, hl, by omega, fun h0 => ?_, fun k o => ?_⟩
    · have ha := addr_at ((hg 0 h0).1 0 (by omega))
      have e1 : (a.add (0 * 8 + 0)).block = a.block := rfl
      obtain ⟨b, off, spot⟩ := a
      have hspot : spot = none := World.cell?_spot ((hg 0 h0).1 0 (by omega))
      subst hspot
      refine ⟨b, off, rfl, World.block_lt_of_cell? w _ ((hg 0 h0).1 0 (by omega)), fun k hk o ho => ?_⟩
      have := (hg k hk).1 o ho
      show _ = some (Value.int .i64 (if k < len ∧ o < 8 then g k o else 0))
      rw [if_pos (show k < len ∧ o < 8 from ⟨hk, ho⟩), ← this, Go.WideShapes.add_plain, Nat.add_assoc]
    · show I64 (if k < len ∧ o < 8 then g k o else 0)
      split
      · rename_i hc; exact (hg k hc.1).2 o hc.2
      · unfold I64; omega
theorem ints_arg' {v : Value} {x : DataW H × List MemPlace} (h : DataW.trod enc Try.prog w base spare held fuel 54 [v] = some x) :
    ∃ a n cap z, v = .slice a n cap ∧ n ≤ 9223372036854775807 ∧ n ≤ cap ∧ cap ≤ 9223372036854775807 ∧ IntS w a n z ∧ ∀ k, I64 (z k) := by
  have c3 : Try.prog.cellsOf 3 = 1 := by kernel_rfl
  rcases open_slice Try.underlying54 h with ⟨h1, _⟩ | ⟨a, len, cap, m, n, D, Pl, hcs, hb, hl, hm, hmm, hx, hi⟩
  · simp at h1
    exact ⟨none, 0, 0, fun _ => 0, h1, by omega, by omega, by omega, fun h => absurd h (by omega), fun _ => (show I64 0 by unfold I64; omega)⟩
  · simp at hcs
    unfold maxLen at hm
    have hml : len ≤ m := by rw [hmm]; split <;> omega
    have hall : ∀ k, k < len → ∃ z : Int, w.cell? (a.add k) = some (.int .i64 z) ∧ I64 z := by
      intro k hk
      obtain ⟨cs', hc, ht⟩ := hi k (by omega)
      rw [c3] at hc
      obtain ⟨_, hcl, hat⟩ := World.cells?_some hc
      match cs', hcl with
      | [v], _ =>
        obtain ⟨z, rfl, hz⟩ := cell_i64' Try.underlying3 ht
        have := hat 0 (by omega)
        rw [Go.Deep.add_add, Nat.mul_one, Nat.add_zero] at this
        exact ⟨z, this, hz⟩
    obtain ⟨g, hg⟩ := choose_lt hall
    refine ⟨some a, len, cap, fun k => if k < len then g k else 0, hcs, by omega, hl, by omega, fun h0 => ?_, fun k => ?_⟩
    · obtain ⟨b, off, spot⟩ := a
      have hspot : spot = none := World.cell?_spot (hg 0 h0).1
      subst hspot
      refine ⟨b, off, rfl, World.block_lt_of_cell? w _ (hg 0 h0).1, fun k hk => ?_⟩
      have := (hg k hk).1
      show _ = some (Value.int .i64 (if k < len then g k else 0))
      rw [if_pos hk, ← this, Go.WideShapes.add_plain]
    · show I64 (if k < len then g k else 0)
      split
      · rename_i hc; exact (hg k hc).2
      · unfold I64; omega
end
end Go.Proofs.Ytkiadcgdmeebmaa
