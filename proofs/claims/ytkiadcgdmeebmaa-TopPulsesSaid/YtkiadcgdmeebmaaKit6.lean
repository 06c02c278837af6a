/- More small lemmas: live blocks under stores of many cells; whole loads and stores; a result that lies in memory -/
import Derived.Deep.MidRow
import Derived.Laws.Tables
import Derived.Test.YtkiadcgdmeebmaaKit5
namespace Go.Proofs.Ytkiadcgdmeebmaa
open Go.RowKit

theorem live_rangeAll {w : World} {b : Nat} {c : Array Value} (L : Live w b c) : w.rangeAt b 0 c.toList := fun j v hv => by
  rw [L.2.1 (0 + j), Nat.zero_add, ← hv, Array.getElem?_toList]
theorem live_rangeMid {w : World} {b : Nat} {c : Array Value} (L : Live w b c) (o n : Nat) : w.rangeAt b o (c.extract o (o + n)).toList := fun j v hv => by
  rw [L.2.1 (o + j)]
  simp only [Array.getElem?_toList, Array.getElem?_extract] at hv
  split at hv
  · exact hv
  · cases hv
theorem live_there {w : World} {b : Nat} {c : Array Value} (L : Live w b c) (o n : Nat) (h : o + n ≤ c.size) : w.there b o n := fun j hj => by
  refine ⟨?_, L.2.2 _⟩
  rw [L.2.1 (o + j), Array.getElem?_eq_getElem (by omega)]
  rfl
theorem heap_size_setCells (b : Nat) : ∀ (vs : List Value) (o : Nat) (w : World), (w.setCells b o vs).heap.size = w.heap.size
  | [], _, _ => rfl
  | v :: r, o, w => by rw [World.setCells, heap_size_setCells b r]; simp [World.setCell]
theorem live_cells {w : World} {b : Nat} {c : Array Value} (L : Live w b c) (o : Nat) (vs : List Value) (h : o + vs.length ≤ c.size) :
    Live (w.setCells b o vs) b (c.toList.take o ++ vs ++ c.toList.drop (o + vs.length)).toArray := by
  refine ⟨by rw [heap_size_setCells]; exact L.1, fun i => ?_, fun i => by rw [World.frozen?_setCells]; exact L.2.2 i⟩
  have ht := live_there L o vs.length h
  simp only [List.getElem?_toArray]
  have hl : c.toList.length = c.size := by simp
  by_cases h1 : i < o
  · rw [World.cell?_setCells_out b vs o w ⟨b, i, none⟩ (fun _ _ => Or.inl h1), L.2.1 i, List.append_assoc, List.getElem?_append_left (by simp; omega), List.getElem?_take, if_pos h1, Array.getElem?_toList]
  · by_cases h2 : i < o + vs.length
    · obtain ⟨j, rfl⟩ : ∃ j, i = o + j := ⟨i - o, by omega⟩
      rw [World.cell?_setCells_in b vs o w (fun k hk => (ht k hk).1) j (by omega), List.append_assoc, List.getElem?_append_right (by simp; omega), List.getElem?_append_left (by simp; omega)]
      have e : o + j - (List.take o c.toList).length = j := by simp; omega
      rw [e, List.getElem?_eq_getElem]
    · rw [World.cell?_setCells_out b vs o w ⟨b, i, none⟩ (fun _ _ => Or.inr (show o + vs.length ≤ i by omega)), L.2.1 i, List.getElem?_append_right (by simp; omega), List.getElem?_drop, ← Array.getElem?_toList]
      congr 1
      simp
      omega
theorem live_cells_other {w : World} {b b' : Nat} {c : Array Value} (L : Live w b c) (o : Nat) (vs : List Value) (h : b' ≠ b) : Live (w.setCells b' o vs) b c :=
  ⟨by rw [heap_size_setCells]; exact L.1, fun i => by rw [World.cell?_setCells_out b' vs o w ⟨b, i, none⟩ (fun hb _ => absurd hb.symm h)]; exact L.2.1 i, fun i => by rw [World.frozen?_setCells]; exact L.2.2 i⟩
theorem live_whole {w : World} {b : Nat} {c : Array Value} (L : Live w b c) (c' : Array Value) (h : c'.size = c.size) : Live (w.setCells b 0 c'.toList) b c' := by
  refine live_conv (live_cells L 0 c'.toList (by simp; omega)) ?_
  rw [List.take_zero, List.nil_append, List.drop_of_length_le (by simp; omega), List.append_nil]
theorem below_setCells {B : Nat} {a : World} {b : Nat} (hb : B ≤ b) : ∀ (vs : List Value) (o : Nat) (w : World), Below B a w → Below B a (w.setCells b o vs)
  | [], _, _, h => h
  | v :: r, o, w, h => by
    rw [World.setCells]
    exact below_setCells hb r (o + 1) _ (h.setCell hb v)

section
variable {P : Program}
/-- A zero value of many cells is made: the whole block at once. -/
theorem wp_alloc_all {op : Oper} {a : Act} {w : World} {K : Act → World → Prop} {Q : Exit → Act → World → Prop} (ty : TypeId) (ho : op.op = .alloc ty) (z : Array Value)
    (hal : (Instr.alloc ty true (.tuple #[])).run P w = .ok (.pointer (some ⟨w.heap.size, 0, none⟩)) (w.alloc (.cells z ty)))
    (h : K (a.put op.dst (.pointer (some ⟨w.heap.size, 0, none⟩))) (w.alloc (.cells z ty))) : op.wp P a w K Q := by
  unfold Oper.wp execOp
  simp only [ho, Sem.run_bind, hal, Result.andThen_ok]
  exact h
theorem wpList_alloc_all {ops : Array Oper} {rest : List Oper} {op : Oper} {a : Act} {w : World} {Q : Exit → Act → World → Prop} (hgd : op.guard = none) (ty : TypeId) (ho : op.op = .alloc ty) (z : Array Value)
    (hal : (Instr.alloc ty true (.tuple #[])).run P w = .ok (.pointer (some ⟨w.heap.size, 0, none⟩)) (w.alloc (.cells z ty)))
    (h : wpList P ops Q rest (a.put op.dst (.pointer (some ⟨w.heap.size, 0, none⟩))) (w.alloc (.cells z ty))) : wpList P ops Q (op :: rest) a w :=
  wpList_plain hgd fun _ hK => wp_alloc_all ty ho z hal (hK _ _ h)
/-- A value of many cells is built. -/
theorem wp_build_all {op : Oper} {a : Act} {w : World} {K : Act → World → Prop} {Q : Exit → Act → World → Prop} (t : TypeId) (parts : Array (Nat × Operand)) (ho : op.op = .build t parts) (cells : Array Value)
    (hb : P.built t (parts.map fun (i, x) => (i, a.eval x)).toList = some cells) (h : K (a.put op.dst (.agg cells)) w) : op.wp P a w K Q := by
  unfold Oper.wp execOp
  simp only [ho, Sem.run_bind, run_build w t _ cells hb, Result.andThen_ok]
  exact h
theorem wpList_build_all {ops : Array Oper} {rest : List Oper} {op : Oper} {a : Act} {w : World} {Q : Exit → Act → World → Prop} (hgd : op.guard = none) (t : TypeId) (parts : Array (Nat × Operand)) (ho : op.op = .build t parts) (cells : Array Value)
    (hb : P.built t (parts.map fun (i, x) => (i, a.eval x)).toList = some cells) (h : wpList P ops Q rest (a.put op.dst (.agg cells)) w) : wpList P ops Q (op :: rest) a w :=
  wpList_plain hgd fun _ hK => wp_build_all t parts ho cells hb (hK _ _ h)
end

section
variable {P : Program} {ops : Array Oper} {rest : List Oper} {dst : Option Tmp} {ty t : TypeId} {pos : String} {after : Array Edge} {a : Act} {w : World} {Q : Exit → Act → World → Prop}
/-- The four operations on many cells, their forms written out: an arm that begins with one of them fails at once where another operation stands. -/
theorem wpList_store_in {x y : Operand} (b o : Nat) (cells : Array Value) (hx : a.eval x = .pointer (some ⟨b, o, none⟩)) (hy : a.eval y = .agg cells)
    (ht : w.there b o cells.size) (hi : (P.info? ty).map (·.size) = some cells.size) (h1 : cells.all (·.oneCell') = true)
    (h : wpList P ops Q rest (a.put dst undef) (w.setCells b o cells.toList)) : wpList P ops Q ({ dst := dst, op := .store ty x y, type := t, pos := pos, after := after, guard := none } :: rest) a w :=
  wpList_store_mid rfl ty x y rfl b o cells hx hy ht hi h1 h
theorem wpList_load_in {x : Operand} {d : TypeDesc} (b o : Nat) (cs : Array Value) (hx : a.eval x = .pointer (some ⟨b, o, none⟩)) (hc : w.rangeAt b o cs.toList)
    (hu : P.underlying ty = some d) (hd : d.isRow = true) (hi : (P.info? ty).map (·.size) = some cs.size)
    (h : wpList P ops Q rest (a.put dst (.agg cs)) w) : wpList P ops Q ({ dst := dst, op := .load ty x, type := t, pos := pos, after := after, guard := none } :: rest) a w :=
  wpList_load_mid rfl ty x rfl b o hx cs.toList d hc hu hd (by simpa using hi) h
theorem wpList_alloc_in (z : Array Value) (hal : (Instr.alloc ty true (.tuple #[])).run P w = .ok (.pointer (some ⟨w.heap.size, 0, none⟩)) (w.alloc (.cells z ty)))
    (h : wpList P ops Q rest (a.put dst (.pointer (some ⟨w.heap.size, 0, none⟩))) (w.alloc (.cells z ty))) : wpList P ops Q ({ dst := dst, op := .alloc ty, type := t, pos := pos, after := after, guard := none } :: rest) a w :=
  wpList_alloc_all rfl ty rfl z hal h
theorem wpList_build_in {parts : Array (Nat × Operand)} (cells : Array Value) (hb : P.built ty (parts.map fun (i, x) => (i, a.eval x)).toList = some cells)
    (h : wpList P ops Q rest (a.put dst (.agg cells)) w) : wpList P ops Q ({ dst := dst, op := .build ty parts, type := t, pos := pos, after := after, guard := none } :: rest) a w :=
  wpList_build_all rfl ty parts rfl cells hb h
end

theorem results_cell_mid {P : Program} {fn : Func} {p : Tmp} {ty : TypeId} (h : fn.results = #[.cell p ty]) (tmps : Array Value) (w : World) (g : Nat) (cs : Array Value) (d : TypeDesc)
    (hp : tmps.getD p undef = .pointer (some ⟨g, 0, none⟩)) (L : Live w g cs)
    (hu : P.underlying ty = some d) (hd : d.isRow = true) (hi : (P.info? ty).map (·.size) = some cs.size) :
    (results fn tmps).run P w = .ok (.agg cs) w := by
  have hp' : tmps[p]?.getD undef = .pointer (some ⟨g, 0, none⟩) := by simpa using hp
  have hl := run_loadVar_mid (P := P) w g 0 ty cs.toList d (live_rangeAll L) hu hd (by simpa using hi)
  simp [results, h, hp', asAddr, hl]
end Go.Proofs.Ytkiadcgdmeebmaa
