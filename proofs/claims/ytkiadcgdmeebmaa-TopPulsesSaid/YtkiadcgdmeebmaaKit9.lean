/- Rows of blocks made by the program: make, copy; what Plan of ahead returns, in plain integers -/
import Derived.Laws.IdiomCopy
import Derived.Test.YtkiadcgdmeebmaaAhdGrt
namespace Go.Proofs.Ytkiadcgdmeebmaa
open Go.RowKit
set_option linter.unusedVariables false

/-- A function of an element and a cell as one of a cell of the row. -/
def flat (g : Nat → Nat → Int) : Nat → Int := fun j => g (j / 8) (j % 8)
theorem flat_at (g : Nat → Nat → Int) (k o : Nat) (h : o < 8) : flat g (k * 8 + o) = g k o := by
  unfold flat
  rw [show (k * 8 + o) / 8 = k by omega, show (k * 8 + o) % 8 = o by omega]
theorem blk_info2 : (Try.prog.info? 36).map (fun i => (i.zero, i.size, i.bytes)) = some (some (.agg #[.int .i64 0, .int .i64 0, .int .i64 0, .int .i64 0, .int .i64 0, .int .i64 0, .int .i64 0, .int .i64 0]), 8, 64) := by kernel_rfl
theorem made_blks (N : Nat) : madeCells (Value.agg #[.int .i64 0, .int .i64 0, .int .i64 0, .int .i64 0, .int .i64 0, .int .i64 0, .int .i64 0, .int .i64 0]).cells N = arrF N (fun _ => 0) := by
  apply Array.ext_getElem?
  intro i
  by_cases hi : i < N
  · rw [arrF_at N _ i hi]
    have h8 : i % 8 < 8 := Nat.mod_lt _ (by omega)
    simp only [madeCells, Value.cells, Array.getElem?_map, Array.getElem?_range, hi, if_true, Option.map_some]
    rcases (by omega : i % 8 = 0 ∨ i % 8 = 1 ∨ i % 8 = 2 ∨ i % 8 = 3 ∨ i % 8 = 4 ∨ i % 8 = 5 ∨ i % 8 = 6 ∨ i % 8 = 7) with h | h | h | h | h | h | h | h <;> simp [h]
  · rw [Array.getElem?_eq_none (by rw [size_madeCells]; omega), Array.getElem?_eq_none (by rw [arrF_size]; omega)]
theorem run_make_blks (n : Nat) (h : n ≤ 1000000000) (w : World) : (Instr.makeSlice 31 (.int .i64 (n : Int)) (.int .i64 (n : Int))).run Try.prog w = .ok (.slice (some ⟨w.heap.size, 0, none⟩) n n) (w.alloc (.cells (arrF (n * 8) (fun _ => 0)) 36)) := by
  obtain ⟨i0, hi, hz0, hz1, hz2⟩ := info_parts blk_info2
  have h2 := run_make (P := Try.prog) (w := w) 31 36 i0 _ Try.underlying31 hi hz0 .i64 .i64 (n : Int) (n : Int) (by omega) (by omega) (by rw [hz2]; omega) (by omega)
  rw [h2, hz1, made_blks]
  simp

section
variable {P : Program}
theorem run_copy_sized (sz : Nat) (w : World) (dT sT ty elem : TypeId) (b o dLen dCap : Nat) (a : Addr) (sLen sCap : Nat) (cs : List Value)
    (hu : P.underlying dT = some (.slice elem)) (hs : (P.info? elem).map (·.size) = some sz) (hn : cs.length = Nat.min sLen dLen * sz)
    (hsrc : ∀ j v, cs[j]? = some v → w.cell? (a.add j) = some v) (hc : ∀ j, j < cs.length → (w.cell? ⟨b, o + j, none⟩).isSome = true) (hf : ∀ j, j < cs.length → w.frozen? ⟨b, o + j, none⟩ = false) (h1 : ∀ v ∈ cs, v.oneCell' = true) :
    (Builtin.copy_ #[dT, sT] ty #[.slice (some ⟨b, o, none⟩) dLen dCap, .slice (some a) sLen sCap]).run P w = .ok (goInt (Nat.min sLen dLen)) (w.setCells b o cs) := by
  have hl := run_loadCells_list (P := P) w a cs hsrc
  have hst := run_storeCells_cells (P := P) b o cs 0 w (by simpa using hc) (by simpa using hf) h1
  cases hq : P.info? elem with
  | none => simp [hq] at hs
  | some i =>
    have hi : i.size = sz := by simpa [hq] using hs
    simp [Builtin.copy_, run_underlying hu, Builtin.lenOf, Builtin.firstCells, sizeOf, typeInfo, hq, hi, ← hn, hl, hst]
theorem wpList_copy_in {ops : Array Oper} {rest : List Oper} {dst : Option Tmp} {t dT sT : TypeId} {pos : String} {after : Array Edge} {a : Act} {w : World} {Q : Exit → Act → World → Prop} {x y : Operand}
    (sz : Nat) (elem : TypeId) (b o dLen dCap : Nat) (ad : Addr) (sLen sCap : Nat) (cs : List Value) (hx : a.eval x = .slice (some ⟨b, o, none⟩) dLen dCap) (hy : a.eval y = .slice (some ad) sLen sCap)
    (hu : P.underlying dT = some (.slice elem)) (hs : (P.info? elem).map (·.size) = some sz) (hn : cs.length = Nat.min sLen dLen * sz)
    (hsrc : ∀ j v, cs[j]? = some v → w.cell? (ad.add j) = some v) (ht : w.there b o cs.length) (h1 : ∀ v ∈ cs, v.oneCell' = true)
    (h : wpList P ops Q rest (a.put dst (goInt (Nat.min sLen dLen))) (w.setCells b o cs)) :
    wpList P ops Q ({ dst := dst, op := .call { callee := .builtin .copy, args := #[x, y], argTypes := #[dT, sT] }, type := t, pos := pos, after := after, guard := none } :: rest) a w := by
  refine wpList_plain rfl fun K hK => ?_
  have hrun := run_copy_sized (P := P) sz w dT sT t elem b o dLen dCap ad sLen sCap cs hu hs hn hsrc (fun j hj => (ht j hj).1) (fun j hj => (ht j hj).2) h1
  unfold Oper.wp
  simp [execOp, resolve, invoke, builtin, hx, hy, hrun, Result.andThen]
  exact hK _ _ h
end
theorem arrF_one (N : Nat) (s : Nat → Int) : ∀ v ∈ (arrF N s).toList, v.oneCell' = true := by
  intro v hv
  simp [arrF] at hv
  obtain ⟨a, _, rfl⟩ := hv
  rfl
theorem blkS_flat {w : World} {b off n : Nat} {g : Nat → Nat → Int} (h : BlkS w (some ⟨b, off, none⟩) n g) (j : Nat) (v : Value) (hv : (arrF (n * 8) (flat g)).toList[j]? = some v) : w.cell? ((⟨b, off, none⟩ : Addr).add j) = some v := by
  rw [Array.getElem?_toList] at hv
  have hj : j < n * 8 := by
    rcases Nat.lt_or_ge j (n * 8) with h | h
    · exact h
    · rw [Array.getElem?_eq_none (by rw [arrF_size]; exact h)] at hv; cases hv
  rw [arrF_at _ _ j hj] at hv
  cases hv
  rw [Go.WideShapes.add_plain]
  have := blkS_cell h (j / 8) (j % 8) (by omega) (by omega)
  rw [show off + j / 8 * 8 + j % 8 = off + j by omega] at this
  exact this
theorem live_blkS {w : World} {b n : Nat} {g : Nat → Nat → Int} (L : Live w b (arrF (n * 8) (flat g))) : BlkS w (some ⟨b, 0, none⟩) n g := fun h0 => by
  refine ⟨b, 0, rfl, L.1, fun k hk o ho => ?_⟩
  rw [Nat.zero_add, live_arr_at L (k * 8 + o) (by omega), flat_at g k o ho]

/-- The blocks of a plan: Entry and Exit as greatest says, before element k; behind it the queue's. -/
def plnG (g : Nat → Nat → Int) (z : Nat → Int) (en : Int) (n k : Nat) : Nat → Nat → Int := fun i o => if i < k ∧ o = 5 then grt g z en n i else if i < k ∧ o = 7 then grt g z en n (i + 1) else g i o
theorem plnG_upd (g : Nat → Nat → Int) (z : Nat → Int) (en : Int) (n k N : Nat) : arrF N (upd (upd (flat (plnG g z en n k)) (k * 8 + 5) (grt g z en n k)) (k * 8 + 7) (grt g z en n (k + 1))) = arrF N (flat (plnG g z en n (k + 1))) :=
  arrF_congr (fun j _ => by
    unfold upd
    by_cases e7 : j = k * 8 + 7
    · rw [if_pos e7, e7, flat_at _ _ _ (by omega)]
      unfold plnG
      rw [if_neg (by omega), if_pos (by omega)]
    · rw [if_neg e7]
      by_cases e5 : j = k * 8 + 5
      · rw [if_pos e5, e5, flat_at _ _ _ (by omega)]
        unfold plnG
        rw [if_pos (by omega)]
      · rw [if_neg e5]
        unfold flat plnG
        have c5 : (j / 8 < k + 1 ∧ j % 8 = 5) ↔ (j / 8 < k ∧ j % 8 = 5) := by omega
        have c7 : (j / 8 < k + 1 ∧ j % 8 = 7) ↔ (j / 8 < k ∧ j % 8 = 7) := by omega
        simp only [c5, c7])
theorem plnG_zero (g : Nat → Nat → Int) (z : Nat → Int) (en : Int) (n N : Nat) : arrF N (flat (plnG g z en n 0)) = arrF N (flat g) := arrF_congr (fun j _ => by unfold flat plnG; rw [if_neg (by omega), if_neg (by omega)])

/-- The answer's number. -/
def plnE (g : Nat → Nat → Int) (z : Nat → Int) (en : Int) (n m : Nat) : Int :=
  if allTo (bsnd g) n = false then 1 else if n ≠ m then 1 else if n = 0 then 0 else if en < 0 ∨ g 0 6 < en then 1 else
  if grt g z en n 0 ≠ en ∨ grt g z en n n ≠ 0 then 8 else if allTo (fun i => decide (0 ≤ grt g z en n i)) n then 0 else 8
def PlnPost (g : Nat → Nat → Int) (z : Nat → Int) (en : Int) (n m : Nat) (w : World) (e : Ending) (w' : World) : Prop :=
  ∃ (a : Option Addr) (k cap : Nat), e = .returned (.tuple #[.slice a k cap, .int .i64 (plnE g z en n m)]) ∧ k = (if plnE g z en n m = 0 then n else 0) ∧ k ≤ cap ∧ cap ≤ 9223372036854775807 ∧ BlkS w' a k (plnG g z en n n) ∧ (∀ p, a = some p → w.heap.size ≤ p.block) ∧ Below w.heap.size w w'
theorem pln_none (g : Nat → Nat → Int) (z : Nat → Int) (en : Int) (n m : Nat) (w w' : World) (E : Int) (hE : plnE g z en n m = E) (h0 : E ≠ 0 ∨ n = 0) (hb : Below w.heap.size w w') : PlnPost g z en n m w (.returned (.tuple #[.slice none 0 0, .int .i64 E])) w' :=
  ⟨none, 0, 0, by rw [hE], by rw [hE]; split <;> omega, by omega, by omega, fun h => absurd h (by omega), fun p h => by (cases h), hb⟩
theorem pln_some (g : Nat → Nat → Int) (z : Nat → Int) (en : Int) (n m b : Nat) (w w' : World) (hE : plnE g z en n m = 0) (hB : w.heap.size ≤ b) (hn : n ≤ 1000000) (L : Live w' b (arrF (n * 8) (flat (plnG g z en n n)))) (hb : Below w.heap.size w w') : PlnPost g z en n m w (.returned (.tuple #[.slice (some ⟨b, 0, none⟩) n n, .int .i64 0])) w' :=
  ⟨some ⟨b, 0, none⟩, n, n, by rw [hE], by rw [hE, if_pos rfl], Nat.le_refl _, by omega, live_blkS L, fun p h => by cases h; exact hB, hb⟩
end Go.Proofs.Ytkiadcgdmeebmaa
