/- More small lemmas: a live block of ten cells, or of one, cell by cell; whole blocks stored; a world under a new name -/
import Derived.Test.YtkiadcgdmeebmaaKit4
namespace Go.Proofs.Ytkiadcgdmeebmaa
theorem live_ten {w : World} {b : Nat} {x0 x1 x2 x3 x4 x5 x6 x7 x8 x9 : Value} (h : Live w b #[x0, x1, x2, x3, x4, x5, x6, x7, x8, x9]) :
    w.cell? ⟨b, 0, none⟩ = some x0 ∧ w.cell? ⟨b, 1, none⟩ = some x1 ∧ w.cell? ⟨b, 2, none⟩ = some x2 ∧ w.cell? ⟨b, 3, none⟩ = some x3 ∧ w.cell? ⟨b, 4, none⟩ = some x4 ∧ w.cell? ⟨b, 5, none⟩ = some x5 ∧ w.cell? ⟨b, 6, none⟩ = some x6 ∧ w.cell? ⟨b, 7, none⟩ = some x7 ∧ w.cell? ⟨b, 8, none⟩ = some x8 ∧ w.cell? ⟨b, 9, none⟩ = some x9 :=
  ⟨h.2.1 0, h.2.1 1, h.2.1 2, h.2.1 3, h.2.1 4, h.2.1 5, h.2.1 6, h.2.1 7, h.2.1 8, h.2.1 9⟩
theorem live_one {w : World} {b : Nat} {x0 : Value} (h : Live w b #[x0]) : w.cell? ⟨b, 0, none⟩ = some x0 := h.2.1 0
theorem live_put4 {w : World} {b : Nat} {c : Array Value} (v0 v1 v2 v3 : Value) (h : Live w b c) (hs : c.size = 4) : Live ((((w.setCell ⟨b, 0, none⟩ v0).setCell ⟨b, 1, none⟩ v1).setCell ⟨b, 2, none⟩ v2).setCell ⟨b, 3, none⟩ v3) b #[v0, v1, v2, v3] := by
  obtain ⟨l⟩ := c
  match l, hs with
  | [x0, x1, x2, x3], _ =>
    have h0 : Live _ b #[v0, x1, x2, x3] := live_conv (live_set_same h 0 v0 (by simp)) (by simp)
    have h1 : Live _ b #[v0, v1, x2, x3] := live_conv (live_set_same h0 1 v1 (by simp)) (by simp)
    have h2 : Live _ b #[v0, v1, v2, x3] := live_conv (live_set_same h1 2 v2 (by simp)) (by simp)
    have h3 : Live _ b #[v0, v1, v2, v3] := live_conv (live_set_same h2 3 v3 (by simp)) (by simp)
    exact h3
theorem live_put4_other {w : World} {b b' : Nat} {c : Array Value} (v0 v1 v2 v3 : Value) (h : Live w b c) (hb : b' ≠ b) : Live ((((w.setCell ⟨b', 0, none⟩ v0).setCell ⟨b', 1, none⟩ v1).setCell ⟨b', 2, none⟩ v2).setCell ⟨b', 3, none⟩ v3) b c :=
  (live_set_other (live_set_other (live_set_other (live_set_other h b' 0 v0 hb) b' 1 v1 hb) b' 2 v2 hb) b' 3 v3 hb)
theorem live_put8 {w : World} {b : Nat} {c : Array Value} (v0 v1 v2 v3 v4 v5 v6 v7 : Value) (h : Live w b c) (hs : c.size = 8) : Live ((((((((w.setCell ⟨b, 0, none⟩ v0).setCell ⟨b, 1, none⟩ v1).setCell ⟨b, 2, none⟩ v2).setCell ⟨b, 3, none⟩ v3).setCell ⟨b, 4, none⟩ v4).setCell ⟨b, 5, none⟩ v5).setCell ⟨b, 6, none⟩ v6).setCell ⟨b, 7, none⟩ v7) b #[v0, v1, v2, v3, v4, v5, v6, v7] := by
  obtain ⟨l⟩ := c
  match l, hs with
  | [x0, x1, x2, x3, x4, x5, x6, x7], _ =>
    have h0 : Live _ b #[v0, x1, x2, x3, x4, x5, x6, x7] := live_conv (live_set_same h 0 v0 (by simp)) (by simp)
    have h1 : Live _ b #[v0, v1, x2, x3, x4, x5, x6, x7] := live_conv (live_set_same h0 1 v1 (by simp)) (by simp)
    have h2 : Live _ b #[v0, v1, v2, x3, x4, x5, x6, x7] := live_conv (live_set_same h1 2 v2 (by simp)) (by simp)
    have h3 : Live _ b #[v0, v1, v2, v3, x4, x5, x6, x7] := live_conv (live_set_same h2 3 v3 (by simp)) (by simp)
    have h4 : Live _ b #[v0, v1, v2, v3, v4, x5, x6, x7] := live_conv (live_set_same h3 4 v4 (by simp)) (by simp)
    have h5 : Live _ b #[v0, v1, v2, v3, v4, v5, x6, x7] := live_conv (live_set_same h4 5 v5 (by simp)) (by simp)
    have h6 : Live _ b #[v0, v1, v2, v3, v4, v5, v6, x7] := live_conv (live_set_same h5 6 v6 (by simp)) (by simp)
    have h7 : Live _ b #[v0, v1, v2, v3, v4, v5, v6, v7] := live_conv (live_set_same h6 7 v7 (by simp)) (by simp)
    exact h7
theorem live_put8_other {w : World} {b b' : Nat} {c : Array Value} (v0 v1 v2 v3 v4 v5 v6 v7 : Value) (h : Live w b c) (hb : b' ≠ b) : Live ((((((((w.setCell ⟨b', 0, none⟩ v0).setCell ⟨b', 1, none⟩ v1).setCell ⟨b', 2, none⟩ v2).setCell ⟨b', 3, none⟩ v3).setCell ⟨b', 4, none⟩ v4).setCell ⟨b', 5, none⟩ v5).setCell ⟨b', 6, none⟩ v6).setCell ⟨b', 7, none⟩ v7) b c :=
  (live_set_other (live_set_other (live_set_other (live_set_other (live_set_other (live_set_other (live_set_other (live_set_other h b' 0 v0 hb) b' 1 v1 hb) b' 2 v2 hb) b' 3 v3 hb) b' 4 v4 hb) b' 5 v5 hb) b' 6 v6 hb) b' 7 v7 hb)
theorem live_put10 {w : World} {b : Nat} {c : Array Value} (v0 v1 v2 v3 v4 v5 v6 v7 v8 v9 : Value) (h : Live w b c) (hs : c.size = 10) : Live ((((((((((w.setCell ⟨b, 0, none⟩ v0).setCell ⟨b, 1, none⟩ v1).setCell ⟨b, 2, none⟩ v2).setCell ⟨b, 3, none⟩ v3).setCell ⟨b, 4, none⟩ v4).setCell ⟨b, 5, none⟩ v5).setCell ⟨b, 6, none⟩ v6).setCell ⟨b, 7, none⟩ v7).setCell ⟨b, 8, none⟩ v8).setCell ⟨b, 9, none⟩ v9) b #[v0, v1, v2, v3, v4, v5, v6, v7, v8, v9] := by
  obtain ⟨l⟩ := c
  match l, hs with
  | [x0, x1, x2, x3, x4, x5, x6, x7, x8, x9], _ =>
    have h0 : Live _ b #[v0, x1, x2, x3, x4, x5, x6, x7, x8, x9] := live_conv (live_set_same h 0 v0 (by simp)) (by simp)
    have h1 : Live _ b #[v0, v1, x2, x3, x4, x5, x6, x7, x8, x9] := live_conv (live_set_same h0 1 v1 (by simp)) (by simp)
    have h2 : Live _ b #[v0, v1, v2, x3, x4, x5, x6, x7, x8, x9] := live_conv (live_set_same h1 2 v2 (by simp)) (by simp)
    have h3 : Live _ b #[v0, v1, v2, v3, x4, x5, x6, x7, x8, x9] := live_conv (live_set_same h2 3 v3 (by simp)) (by simp)
    have h4 : Live _ b #[v0, v1, v2, v3, v4, x5, x6, x7, x8, x9] := live_conv (live_set_same h3 4 v4 (by simp)) (by simp)
    have h5 : Live _ b #[v0, v1, v2, v3, v4, v5, x6, x7, x8, x9] := live_conv (live_set_same h4 5 v5 (by simp)) (by simp)
    have h6 : Live _ b #[v0, v1, v2, v3, v4, v5, v6, x7, x8, x9] := live_conv (live_set_same h5 6 v6 (by simp)) (by simp)
    have h7 : Live _ b #[v0, v1, v2, v3, v4, v5, v6, v7, x8, x9] := live_conv (live_set_same h6 7 v7 (by simp)) (by simp)
    have h8 : Live _ b #[v0, v1, v2, v3, v4, v5, v6, v7, v8, x9] := live_conv (live_set_same h7 8 v8 (by simp)) (by simp)
    have h9 : Live _ b #[v0, v1, v2, v3, v4, v5, v6, v7, v8, v9] := live_conv (live_set_same h8 9 v9 (by simp)) (by simp)
    exact h9
theorem live_put10_other {w : World} {b b' : Nat} {c : Array Value} (v0 v1 v2 v3 v4 v5 v6 v7 v8 v9 : Value) (h : Live w b c) (hb : b' ≠ b) : Live ((((((((((w.setCell ⟨b', 0, none⟩ v0).setCell ⟨b', 1, none⟩ v1).setCell ⟨b', 2, none⟩ v2).setCell ⟨b', 3, none⟩ v3).setCell ⟨b', 4, none⟩ v4).setCell ⟨b', 5, none⟩ v5).setCell ⟨b', 6, none⟩ v6).setCell ⟨b', 7, none⟩ v7).setCell ⟨b', 8, none⟩ v8).setCell ⟨b', 9, none⟩ v9) b c :=
  (live_set_other (live_set_other (live_set_other (live_set_other (live_set_other (live_set_other (live_set_other (live_set_other (live_set_other (live_set_other h b' 0 v0 hb) b' 1 v1 hb) b' 2 v2 hb) b' 3 v3 hb) b' 4 v4 hb) b' 5 v5 hb) b' 6 v6 hb) b' 7 v7 hb) b' 8 v8 hb) b' 9 v9 hb)
/-- The world of a goal under a new name, with what is to be known of it. -/
theorem gen_world {Q : Act → World → Prop} {a : Act} {w : World} (R : World → Prop) (h : R w) (k : ∀ wx, R wx → Q a wx) : Q a w := k w h
end Go.Proofs.Ytkiadcgdmeebmaa
