/- Slices of positions that are only read, how arguments are opened to them; rows of blocks and of ints that grow by append -/
import Derived.Test.YtkiadcgdmeebmaaKit9
namespace Go.Proofs.Ytkiadcgdmeebmaa
open Go.RowKit Go.WideShapes Go.ChangeShapes Go.Deep
set_option linter.unusedVariables false

/-- The cells of position k. -/
def vecA (p : Nat → Nat → Int) (k : Nat) : Array Value := #[.int .i64 (p k 0), .int .i64 (p k 1), .int .i64 (p k 2)]
theorem vecA_size (p : Nat → Nat → Int) (k : Nat) : (vecA p k).size = 3 := rfl
theorem vecA_at (p : Nat → Nat → Int) (k o : Nat) (h : o < 3) : (vecA p k)[o]? = some (.int .i64 (p k o)) := by
  match o, h with
  | 0, _ => rfl
  | 1, _ => rfl
  | 2, _ => rfl
def VecS (w : World) (a : Option Addr) (n : Nat) (p : Nat → Nat → Int) : Prop :=
  0 < n → ∃ b off, a = some ⟨b, off, none⟩ ∧ b < w.heap.size ∧ ∀ k, k < n → ∀ o, o < 3 → w.cell? ⟨b, off + k * 3 + o, none⟩ = some (.int .i64 (p k o))
theorem vecS_below {w w1 : World} {B : Nat} {a : Option Addr} {n : Nat} {p : Nat → Nat → Int} (hb : Below B w w1) (hB : w.heap.size ≤ B) (h : VecS w a n p) : VecS w1 a n p := fun h0 => by
  obtain ⟨b, off, e, hlt, hc⟩ := h h0
  exact ⟨b, off, e, Nat.lt_of_lt_of_le hlt hb.size, fun k hk o ho => (hb.cell (p := ⟨b, _, none⟩) (Nat.lt_of_lt_of_le hlt hB)).trans (hc k hk o ho)⟩
theorem vecS_rng {w : World} {b off n : Nat} {p : Nat → Nat → Int} (h : VecS w (some ⟨b, off, none⟩) n p) (k : Nat) (hk : k < n) : w.rangeAt b (off + k * 3) (vecA p k).toList := fun j v hv => by
  obtain ⟨b', off', e, _, hc⟩ := h (by omega)
  cases e
  have hj : j < 3 := by
    rcases Nat.lt_or_ge j 3 with h | h
    · exact h
    · rw [Array.getElem?_toList, Array.getElem?_eq_none (by rw [vecA_size]; exact h)] at hv; cases hv
  rw [Array.getElem?_toList, vecA_at p k j hj] at hv
  rw [hc k hk j hj, ← hv]
theorem vecS_cell {w : World} {b off n : Nat} {p : Nat → Nat → Int} (h : VecS w (some ⟨b, off, none⟩) n p) (k o : Nat) (hk : k < n) (ho : o < 3) : w.cell? ⟨b, off + k * 3 + o, none⟩ = some (.int .i64 (p k o)) := by
  obtain ⟨b', off', e, _, hc⟩ := h (by omega)
  cases e
  exact hc k hk o ho

/- the whole position as one folded value, also in drawn regions -/
def loadV (v : Value) : Sem Value := Instr.loadAt 52 v
theorem loadV_in (v : Value) : Instr.loadAt 52 v = loadV v := rfl
theorem vec_info : (Try.prog.info? 52).map (·.size) = some 3 := by kernel_rfl
theorem loadV_run {w : World} {b o : Nat} {p : Nat → Nat → Int} {k : Nat} (h : w.rangeAt b o (vecA p k).toList) : (loadV (.pointer (some ⟨b, o, none⟩))).run Try.prog w = .ok (.agg (vecA p k)) w :=
  run_loadVar_mid w b o 52 (vecA p k).toList _ h Try.underlying52 rfl vec_info

section
variable {H : Type} {enc : TypeId × Value → H} {w : World} {base : Nat} {spare : Nat → Bool} {held : Bool} {fuel : Nat}
theorem vec_cells {cs : List Value} {x : DataW H × List MemPlace} (h : DataW.trod enc Try.prog w base spare held fuel 52 cs = some x) :
    ∃ z : Nat → Int, cs.length = 3 ∧ ∀ o, o < 3 → cs[o]? = some (.int .i64 (z o)) ∧ I64 (z o) := by
  have c3 : Try.prog.cellsOf 3 = 1 := by kernel_rfl
  have c8 : Try.prog.cellsOf 52 = 3 := by kernel_rfl
  obtain ⟨xs, n, _, _, hl, hxl, hf⟩ := DataW.trod_struct Try.underlying52 h
  rw [c8] at hl
  match cs, hl with
  | [v0, v1, v2], _ =>
    match xs, hxl with
    | [y0, y1, y2], _ =>
      have g0 := hf 0 _ rfl
      have g1 := hf 1 _ rfl
      have g2 := hf 2 _ rfl
      simp [c3] at g0 g1 g2
      obtain ⟨z0, rfl, b0⟩ := cell_i64' Try.underlying3 g0
      obtain ⟨z1, rfl, b1⟩ := cell_i64' Try.underlying3 g1
      obtain ⟨z2, rfl, b2⟩ := cell_i64' Try.underlying3 g2
      refine ⟨fun o => match o with | 0 => z0 | 1 => z1 | _ => z2, rfl, fun o ho => ?_⟩
      match o, ho with
      | 0, _ => exact ⟨rfl, b0⟩
      | 1, _ => exact ⟨rfl, b1⟩
      | 2, _ => exact ⟨rfl, b2⟩
theorem vecs_arg {v : Value} {x : DataW H × List MemPlace} (h : DataW.trod enc Try.prog w base spare held fuel 27 [v] = some x) :
    ∃ a n cap p, v = .slice a n cap ∧ n ≤ 9223372036854775807 ∧ n ≤ cap ∧ cap ≤ 9223372036854775807 ∧ VecS w a n p ∧ ∀ k o, I64 (p k o) := by
  have c8 : Try.prog.cellsOf 52 = 3 := by kernel_rfl
  rcases open_slice Try.underlying27 h with ⟨h1, _⟩ | ⟨a, len, cap, m, n, D, Pl, hcs, hb, hl, hm, hmm, hx, hi⟩
  · simp at h1
    exact ⟨none, 0, 0, fun _ _ => 0, h1, by omega, by omega, by omega, fun h => absurd h (by omega), fun _ _ => (show I64 0 by unfold I64; omega)⟩
  · simp at hcs
    unfold maxLen at hm
    have hml : len ≤ m := by rw [hmm]; split <;> omega
    have hall : ∀ k, k < len → ∃ z : Nat → Int, (∀ o, o < 3 → w.cell? (a.add (k * 3 + o)) = some (.int .i64 (z o))) ∧ ∀ o, o < 3 → I64 (z o) := by
      intro k hk
      obtain ⟨cs', hc, ht⟩ := hi k (by omega)
      rw [c8] at hc
      obtain ⟨_, hcl, hat⟩ := World.cells?_some hc
      obtain ⟨z, _, hz⟩ := vec_cells ht
      exact ⟨z, fun o ho => by rw [← Go.Deep.add_add, hat o ho, (hz o ho).1], fun o ho => (hz o ho).2⟩
    obtain ⟨g, hg⟩ := choose_lt hall
    refine ⟨some a, len, cap, fun k o => if k < len ∧ o < 3 then g k o else 0, hcs, by omega, hl, by omega, fun h0 => ?_, fun k o => ?_⟩
    · obtain ⟨b, off, spot⟩ := a
      have hspot : spot = none := World.cell?_spot ((hg 0 h0).1 0 (by omega))
      subst hspot
      refine ⟨b, off, rfl, World.block_lt_of_cell? w _ ((hg 0 h0).1 0 (by omega)), fun k hk o ho => ?_⟩
      have := (hg k hk).1 o ho
      show _ = some (Value.int .i64 (if k < len ∧ o < 3 then g k o else 0))
      rw [if_pos (show k < len ∧ o < 3 from ⟨hk, ho⟩), ← this, Go.WideShapes.add_plain, Nat.add_assoc]
    · show I64 (if k < len ∧ o < 3 then g k o else 0)
      split
      · rename_i hc; exact (hg k hc.1).2 o hc.2
      · unfold I64; omega
end

/- rows that grow -/
theorem arrF_list (n : Nat) (s : Nat → Int) : (arrF n s).toList = (List.range n).map fun i => Value.int .i64 (s i) := by simp [arrF]
theorem arrF_nil (s : Nat → Int) : (arrF 0 s).toList = [] := by simp [arrF]
theorem arrF_snoc (n : Nat) (s t : Nat → Int) (v : Int) (h : ∀ i, i < n → t i = s i) (hv : t n = v) : (arrF (n + 1) t).toList = (arrF n s).toList ++ [.int .i64 v] := by
  rw [arrF_list, arrF_list, List.range_succ, List.map_append]
  congr 1
  · exact List.map_congr_left (fun i hi => by rw [h i (List.mem_range.1 hi)])
  · rw [List.map_cons, hv]; rfl
theorem arrF_snoc8 (n : Nat) (g g' : Nat → Nat → Int) (h : ∀ i, i < n → ∀ o, g' i o = g i o) : (arrF ((n + 1) * 8) (flat g')).toList = (arrF (n * 8) (flat g)).toList ++ (blkA g' n).toList := by
  have e : (n + 1) * 8 = n * 8 + 1 + 1 + 1 + 1 + 1 + 1 + 1 + 1 := by omega
  rw [e, arrF_list, arrF_list]
  simp only [List.range_succ, List.map_append, List.append_assoc]
  congr 1
  · exact List.map_congr_left (fun i hi => by
      have := List.mem_range.1 hi
      show Value.int .i64 (g' (i / 8) (i % 8)) = Value.int .i64 (g (i / 8) (i % 8))
      rw [h (i / 8) (by omega)])
  · have f0 := flat_at g' n 0 (by omega)
    have f1 := flat_at g' n 1 (by omega)
    have f2 := flat_at g' n 2 (by omega)
    have f3 := flat_at g' n 3 (by omega)
    have f4 := flat_at g' n 4 (by omega)
    have f5 := flat_at g' n 5 (by omega)
    have f6 := flat_at g' n 6 (by omega)
    have f7 := flat_at g' n 7 (by omega)
    rw [Nat.add_zero] at f0
    simp only [List.map_cons, List.map_nil, List.cons_append, List.nil_append]
    rw [f0, f1, f2, f3, f4, f5, f6, f7]
    rfl
theorem owns_cell {w : World} {base e sz n N : Nat} {v : Value} {s : Nat → Int} (h : w.ownsRow base e sz v n (arrF N s).toList) (hN : N = n * sz) :
    ∃ a cap, v = .slice a n cap ∧ n ≤ cap ∧ cap ≤ maxLen ∧ (0 < n → ∃ b, a = some ⟨b, 0, none⟩ ∧ base ≤ b ∧ b < w.heap.size ∧ ∀ i, i < N → w.cell? ⟨b, i, none⟩ = some (.int .i64 (s i))) := by
  obtain ⟨h1, h2⟩ := id h
  rcases h2 with ⟨hv, h3⟩ | ⟨b, cap, cur, hv, hg, hh, hnc, hm, hsz, htk⟩
  · subst h3
    exact ⟨none, 0, hv, Nat.le_refl _, Nat.zero_le _, fun h => absurd h (by omega)⟩
  · refine ⟨some ⟨b, 0, none⟩, cap, hv, hnc, hm, fun h0 => ⟨b, rfl, hg, (Array.getElem?_eq_some_iff.1 hh).1, fun i hi => ?_⟩⟩
    subst hv
    have hc := h.cells (g := b) rfl i (.int .i64 (s i)) (by rw [Array.getElem?_toList, arrF_at N s i hi])
    rw [Go.WideShapes.add_plain, Nat.zero_add] at hc
    exact hc
theorem owns_blk {w : World} {base e n : Nat} {v : Value} {g : Nat → Nat → Int} (h : w.ownsRow base e 8 v n (arrF (n * 8) (flat g)).toList) : ∃ a cap, v = .slice a n cap ∧ n ≤ cap ∧ cap ≤ maxLen ∧ BlkS w a n g := by
  obtain ⟨a, cap, hv, h1, h2, h3⟩ := owns_cell h rfl
  refine ⟨a, cap, hv, h1, h2, fun h0 => ?_⟩
  obtain ⟨b, ha, _, hb, hc⟩ := h3 h0
  exact ⟨b, 0, ha, hb, fun k hk o ho => by rw [Nat.zero_add, hc (k * 8 + o) (by omega), flat_at g k o ho]⟩
theorem owns_int {w : World} {base e n : Nat} {v : Value} {z : Nat → Int} (h : w.ownsRow base e 1 v n (arrF n z).toList) : ∃ a cap, v = .slice a n cap ∧ n ≤ cap ∧ cap ≤ maxLen ∧ IntS w a n z := by
  obtain ⟨a, cap, hv, h1, h2, h3⟩ := owns_cell h (by omega)
  refine ⟨a, cap, hv, h1, h2, fun h0 => ?_⟩
  obtain ⟨b, ha, _, hb, hc⟩ := h3 h0
  exact ⟨b, 0, ha, hb, fun k hk => by rw [Nat.zero_add]; exact hc k hk⟩
/-- Two rows of different types never lie in one block. -/
theorem owns_apart {w : World} {base base' e e' sz sz' n n' : Nat} {v v' : Value} {xs xs' : List Value} (h : w.ownsRow base e sz v n xs) (h' : w.ownsRow base' e' sz' v' n' xs') (hne : e ≠ e') : v.ownBlock = none ∨ v.ownBlock ≠ v'.ownBlock := by
  rcases h.2 with ⟨rfl, _⟩ | ⟨g, cap, cur, rfl, _, hh, _⟩
  · exact Or.inl rfl
  · rcases h'.2 with ⟨rfl, _⟩ | ⟨g', cap', cur', rfl, _, hh', _⟩
    · exact Or.inr (by simp [Value.ownBlock])
    · refine Or.inr (fun e1 => hne ?_)
      simp [Value.ownBlock] at e1
      subst e1
      rw [hh] at hh'
      simp at hh'
      exact hh'.2
theorem owns_below {w w' : World} {B e size n : Nat} {v : Value} {xs : List Value} (h : w.ownsRow B e size v n xs) (hb : Below w.heap.size w w') : w'.ownsRow B e size v n xs := by
  refine ⟨h.1, ?_⟩
  rcases h.2 with hn | ⟨g, cap, cur, rfl, hg, hgg, rest⟩
  · exact .inl hn
  · exact .inr ⟨g, cap, cur, rfl, hg, by rw [hb.block g (Array.getElem?_eq_some_iff.1 hgg).1]; exact hgg, rest⟩
theorem owns_set {w : World} {B e size n b : Nat} {v : Value} {xs : List Value} (h : w.ownsRow B e size v n xs) (hb : b < B) (o : Nat) (u : Value) : (w.setCell ⟨b, o, none⟩ u).ownsRow B e size v n xs := by
  refine ⟨h.1, ?_⟩
  rcases h.2 with hn | ⟨g, cap, cur, rfl, hg, hgg, rest⟩
  · exact .inl hn
  · exact .inr ⟨g, cap, cur, rfl, hg, by rw [Below.heap_setCell _ _ _ _ (by show g ≠ b; omega)]; exact hgg, rest⟩
theorem owns_cells {B e size n b : Nat} {v : Value} {xs : List Value} (hb : b < B) : ∀ (vs : List Value) (o : Nat) (w : World), w.ownsRow B e size v n xs → (w.setCells b o vs).ownsRow B e size v n xs
  | [], _, _, h => h
  | u :: vs, o, w, h => owns_cells hb vs (o + 1) (w.setCell ⟨b, o, none⟩ u) (owns_set h hb o u)
end Go.Proofs.Ytkiadcgdmeebmaa
