/- What At of dda returns, in the program and in the reference, for all counts and numbers -/
import Derived.Test.YtkiadcgdmeebmaaProg
import Derived.WalkKit
import Derived.WalkLawsBesides
import Derived.Handy
import Derived.Lib.Hide
import Derived.Test.YtkiadcgdmeebmaaKit
import Derived.Test.YtkiadcgdmeebmaaKit2
import Derived.Test.YtkiadcgdmeebmaaDdaDom
namespace Go.Proofs.Ytkiadcgdmeebmaa
open Go.RowKit
set_option linter.unusedVariables false

attribute [local go_sem] cell_past1 cell_past2 cell_past3 cell_past4 froz_past1 froz_past2 froz_past3

/-- The steps of a motor with x of n steps, after i. -/
def atI (n i x : Int) : Int := if x < 0 then -((2 * i * ab x + n) / (2 * n)) else (2 * i * ab x + n) / (2 * n)
def atClamp (n i : Int) : Int := max 0 (min i n)
/-- The same, with the guards of the chapter: n = 0 where the counts are not valid. -/
def atM (n i x : Int) : Int := if n = 0 then 0 else atI n (atClamp n i) x

theorem at_neg (n i x : Int) (h : x < 0) : -((2 * i * ab x + n) / (2 * n)) = atI n i x := by unfold atI; rw [if_pos h]
theorem at_pos (n i x : Int) (h : ¬ x < 0) : (2 * i * ab x + n) / (2 * n) = atI n i x := by unfold atI; rw [if_neg h]

theorem at_num (n i x : Int) (hn : 1 ≤ n) (hn2 : n ≤ 16777216) (hi0 : 0 ≤ i) (hi1 : i ≤ n) (hx0 : -16777216 ≤ x) (hx1 : x ≤ 16777216) : 0 ≤ ab x ∧ ab x ≤ 16777216 ∧ 0 ≤ 2 * i * ab x ∧ 2 * i * ab x ≤ 562949953421312 ∧ 0 ≤ (2 * i * ab x + n) / (2 * n) ∧ (2 * i * ab x + n) / (2 * n) ≤ 562949970198528 := by
  have h := ab_in (B := 16777216) hx0 hx1
  have h1 : 0 ≤ 2 * i * ab x := Int.mul_nonneg (by omega) h.1
  have h2 : 2 * i * ab x ≤ 2 * i * 16777216 := Int.mul_le_mul_of_nonneg_left h.2 (by omega)
  have h3 : 0 ≤ (2 * i * ab x + n) / (2 * n) := Int.ediv_nonneg (by omega) (by omega)
  have h4 : (2 * i * ab x + n) / (2 * n) ≤ 2 * i * ab x + n := Int.ediv_le_self _ (by omega)
  omega

set_option maxRecDepth 100000 in
set_option maxHeartbeats 4000000 in
theorem dda_at_bad (a b c d i : Int) (w : World) (hv : ddaValid a b c d = false) :
    Calls Try.prog 44 #[.agg #[.int .i64 a, .int .i64 b, .int .i64 c, .int .i64 d], .int .i64 i] w fun e w' =>
      e = .returned (.agg #[.int .i64 0, .int .i64 0, .int .i64 0, .int .i64 0]) ∧ Below w.heap.size w w' := by
  have H : Hid (ddaDom a b c d = 0) := by show _ = _; unfold ddaDom; simp [hv]
  clear hv
  go_enter Try.func44, Try.ntmps44
  go_wp2_with (go_at_call 29; refine (dda_dom _ _ _ _ _).mono ?_; rw [H.out]; rintro e w1 ⟨rfl, rfl⟩)
  refine bodyPost_ret (v := .agg #[.int .i64 0, .int .i64 0, .int .i64 0, .int .i64 0]) (by simp [results, Try.results44, go_sem]) rfl ⟨rfl, ?_⟩
  (repeat' (first | with_reducible exact Below.refl _ _ | with_reducible refine Below.drew ?_ | with_reducible refine below_drewN ?_ _ | with_reducible refine Below.alloc ?_ ?_ _ | with_reducible refine Below.setCell ?_ ?_ _ | with_reducible refine Below.trans ?_ (Below.mono (by with_reducible assumption) ?_) | (simp; done) | (simp; omega) | omega))

set_option maxRecDepth 100000 in
set_option maxHeartbeats 4000000 in
theorem dda_at_ok (a b c d i : Int) (w : World) (hv : ddaValid a b c d = true) :
    Calls Try.prog 44 #[.agg #[.int .i64 a, .int .i64 b, .int .i64 c, .int .i64 d], .int .i64 i] w fun e w' =>
      e = .returned (.agg #[.int .i64 (atM (ddaDom a b c d) i a), .int .i64 (atM (ddaDom a b c d) i b), .int .i64 (atM (ddaDom a b c d) i c), .int .i64 (atM (ddaDom a b c d) i d)]) ∧ Below w.heap.size w w' := by
  have hn1 := ddaDom_pos a b c d hv
  have hn2 := (ddaDom_in a b c d).2
  have hb : (-16777216 ≤ a ∧ a ≤ 16777216) ∧ (-16777216 ≤ b ∧ b ≤ 16777216) ∧ (-16777216 ≤ c ∧ c ≤ 16777216) ∧ (-16777216 ≤ d ∧ d ≤ 16777216) := by
    have := hv; simp [ddaValid] at this; omega
  obtain ⟨⟨a0, a1⟩, ⟨b0, b1⟩, ⟨c0, c1⟩, d0, d1⟩ := hb
  clear hv
  have hres : ∀ x, atM (ddaDom a b c d) i x = atI (ddaDom a b c d) (atClamp (ddaDom a b c d) i) x := fun x => by unfold atM; rw [if_neg (by omega)]
  rw [hres, hres, hres, hres]
  clear hres
  generalize hn : ddaDom a b c d = n at *
  have HN := Lib.hid hn
  clear hn
  obtain ⟨I, hI⟩ : ∃ I, I = atClamp n i := ⟨_, rfl⟩
  have i0 : 0 ≤ I := by rw [hI]; unfold atClamp; omega
  have i1 : I ≤ n := by rw [hI]; unfold atClamp; omega
  rw [← hI]
  have e1 : min (max i 0) n = I := by rw [hI]; unfold atClamp; omega
  have e2 : max 0 (min i n) = I := by rw [hI]; unfold atClamp; omega
  clear hI
  obtain ⟨xa0, xa1, xa2, xa3, xa4, xa5⟩ := at_num n I a hn1 hn2 i0 i1 a0 a1
  obtain ⟨xb0, xb1, xb2, xb3, xb4, xb5⟩ := at_num n I b hn1 hn2 i0 i1 b0 b1
  obtain ⟨xc0, xc1, xc2, xc3, xc4, xc5⟩ := at_num n I c hn1 hn2 i0 i1 c0 c1
  obtain ⟨xd0, xd1, xd2, xd3, xd4, xd5⟩ := at_num n I d hn1 hn2 i0 i1 d0 d1
  have hmx := @run_max2 Try.prog
  have hmn := @run_min2 Try.prog
  obtain ⟨j0, j1, j2, j3⟩ := arr_idx a b c d
  go_enter Try.func44, Try.ntmps44
  go_wp2_with (go_at_call 29; refine (dda_dom _ _ _ _ _).mono ?_; rw [HN.out]; rintro e w1 ⟨rfl, rfl⟩)
  refine wp_loop_rounds 5 ?_
  iterate 5
    all_goals rw [rounds_succ]
    all_goals go_wp2_with (go_at_call 43; refine (dda_size _ _ ?_).mono ?_; (· omega); rintro e w1 ⟨rfl, rfl⟩)
  all_goals refine bodyPost_ret (v := .agg #[.int .i64 (atI n I a), .int .i64 (atI n I b), .int .i64 (atI n I c), .int .i64 (atI n I d)]) ?_ rfl ⟨rfl, ?_⟩
  all_goals first
    | (unfold atI; repeat (first | rw [if_pos (by assumption)] | rw [if_neg (by omega)])
       simp [results, Try.results44, go_sem]; done)
    | (repeat' (first | with_reducible exact Below.refl _ _ | with_reducible refine Below.drew ?_ | with_reducible refine below_drewN ?_ _ | with_reducible refine Below.alloc ?_ ?_ _ | with_reducible refine Below.setCell ?_ ?_ _ | with_reducible refine Below.trans ?_ (Below.mono (by with_reducible assumption) ?_) | (simp; done) | (simp; omega) | omega))

def at4 (a b c d i : Int) : Value := .agg #[.int .i64 (atM (ddaDom a b c d) i a), .int .i64 (atM (ddaDom a b c d) i b), .int .i64 (atM (ddaDom a b c d) i c), .int .i64 (atM (ddaDom a b c d) i d)]

theorem dda_at (a b c d i : Int) (w : World) :
    Calls Try.prog 44 #[.agg #[.int .i64 a, .int .i64 b, .int .i64 c, .int .i64 d], .int .i64 i] w fun e w' =>
      e = .returned (.agg #[.int .i64 (atM (ddaDom a b c d) i a), .int .i64 (atM (ddaDom a b c d) i b), .int .i64 (atM (ddaDom a b c d) i c), .int .i64 (atM (ddaDom a b c d) i d)]) ∧ Below w.heap.size w w' := by
  cases hv : ddaValid a b c d
  · have h := dda_at_bad a b c d i w hv
    have h0 : ddaDom a b c d = 0 := by unfold ddaDom; simp [hv]
    rw [h0]
    exact h
  · exact dda_at_ok a b c d i w hv
end Go.Proofs.Ytkiadcgdmeebmaa
