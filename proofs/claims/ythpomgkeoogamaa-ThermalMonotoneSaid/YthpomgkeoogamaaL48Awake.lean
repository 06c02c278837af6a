/- The examples of chapter 48: true -/
import Derived.Test.YthpomgkeoogamaaProg
import Derived.WalkKit
import Derived.WalkLawsBesides
import Derived.Lib.Hide
import Derived.Test.YthpomgkeoogamaaKit3
import Derived.Test.YthpomgkeoogamaaThRun
namespace Go.Proofs.Ythpomgkeoogamaa
open Go.RowKit
set_option linter.unusedVariables false

attribute [local go_sem] cell_past1 cell_past2 cell_past3 cell_past4 froz_past1 froz_past2 froz_past3

/-- An owned row of ints as a live block: its first cells are the list. -/
theorem row_live {w : World} {base n : Nat} {e : TypeId} {v : Value} {xs : List Value} (h : w.ownsRow base e 1 v n xs) (hn : 0 < n) :
    ∃ g cap cur, v = .slice (some ⟨g, 0, none⟩) n cap ∧ base ≤ g ∧ Live w g cur ∧ ∀ (k : Nat) (x : Value), xs[k]? = some x → cur[k]? = some x := by
  obtain ⟨h1, h2⟩ := h
  rcases h2 with ⟨_, h3⟩ | ⟨g, cap, cur, hv, hg, hh, hnc, hm, hsz, htk⟩
  · omega
  · refine ⟨g, cap, cur, hv, hg, ⟨?_, fun o => ?_, fun o => ?_⟩, fun k x hx => ?_⟩
    · exact (Array.getElem?_eq_some_iff.1 hh).1
    · simp [World.cell?, hh]
    · simp [World.frozen?, hh]
    · rw [← htk] at hx
      rw [List.getElem?_take] at hx
      split at hx
      · simpa using hx
      · cases hx

theorem thermal_valid_b (p l m a : Int) (w : World) : Calls Try.prog 19 #[.agg #[.int .i64 p, .int .i64 l, .int .i64 m, .int .i64 a]] w fun e w' => e = .returned (.bool (thValid p l m a)) ∧ Below w.heap.size w w' :=
  (thermal_valid p l m a w).mono fun e w' ⟨he, hw⟩ => ⟨he, by rw [← hw]; (repeat' (first | with_reducible exact Below.refl _ _ | with_reducible refine Below.drew ?_ | with_reducible refine below_drewN ?_ _ | with_reducible refine Below.alloc ?_ ?_ _ | with_reducible refine Below.setCell ?_ ?_ _ | with_reducible refine Below.trans ?_ (Below.mono (by with_reducible assumption) ?_) | (simp; done) | (simp; omega) | omega))⟩
theorem thermal_step_b (p l m a t d : Int) (w : World) : Calls Try.prog 24 #[.agg #[.int .i64 p, .int .i64 l, .int .i64 m, .int .i64 a], .int .i64 t, .int .i64 d] w fun e w' => e = .returned (.int .i64 (thStep p l m a t d)) ∧ Below w.heap.size w w' :=
  (thermal_step p l m a t d w).mono fun e w' ⟨he, hw⟩ => ⟨he, by rw [← hw]; (repeat' (first | with_reducible exact Below.refl _ _ | with_reducible refine Below.drew ?_ | with_reducible refine below_drewN ?_ _ | with_reducible refine Below.alloc ?_ ?_ _ | with_reducible refine Below.setCell ?_ ?_ _ | with_reducible refine Below.trans ?_ (Below.mono (by with_reducible assumption) ?_) | (simp; done) | (simp; omega) | omega))⟩
theorem thermal_top_b (p l m a : Int) (w : World) : Calls Try.prog 21 #[.agg #[.int .i64 p, .int .i64 l, .int .i64 m, .int .i64 a]] w fun e w' => e = .returned (.int .i64 (thTop p l m a)) ∧ Below w.heap.size w w' :=
  (thermal_top p l m a w).mono fun e w' ⟨he, hw⟩ => ⟨he, by rw [← hw]; (repeat' (first | with_reducible exact Below.refl _ _ | with_reducible refine Below.drew ?_ | with_reducible refine below_drewN ?_ _ | with_reducible refine Below.alloc ?_ ?_ _ | with_reducible refine Below.setCell ?_ ?_ _ | with_reducible refine Below.trans ?_ (Below.mono (by with_reducible assumption) ?_) | (simp; done) | (simp; omega) | omega))⟩
theorem ref48_valid_b (p l m a : Int) (w : World) : Calls Try.prog 20 #[.agg #[.int .i64 p, .int .i64 l, .int .i64 m, .int .i64 a]] w fun e w' => e = .returned (.bool (thValid p l m a)) ∧ Below w.heap.size w w' :=
  (ref48_valid p l m a w).mono fun e w' ⟨he, hw⟩ => ⟨he, by rw [← hw]; (repeat' (first | with_reducible exact Below.refl _ _ | with_reducible refine Below.drew ?_ | with_reducible refine below_drewN ?_ _ | with_reducible refine Below.alloc ?_ ?_ _ | with_reducible refine Below.setCell ?_ ?_ _ | with_reducible refine Below.trans ?_ (Below.mono (by with_reducible assumption) ?_) | (simp; done) | (simp; omega) | omega))⟩
theorem ref48_step_b (p l m a t d : Int) (w : World) : Calls Try.prog 25 #[.agg #[.int .i64 p, .int .i64 l, .int .i64 m, .int .i64 a], .int .i64 t, .int .i64 d] w fun e w' => e = .returned (.int .i64 (thStep p l m a t d)) ∧ Below w.heap.size w w' :=
  (ref48_step p l m a t d w).mono fun e w' ⟨he, hw⟩ => ⟨he, by rw [← hw]; (repeat' (first | with_reducible exact Below.refl _ _ | with_reducible refine Below.drew ?_ | with_reducible refine below_drewN ?_ _ | with_reducible refine Below.alloc ?_ ?_ _ | with_reducible refine Below.setCell ?_ ?_ _ | with_reducible refine Below.trans ?_ (Below.mono (by with_reducible assumption) ?_) | (simp; done) | (simp; omega) | omega))⟩
theorem ref48_top_b (p l m a : Int) (w : World) : Calls Try.prog 22 #[.agg #[.int .i64 p, .int .i64 l, .int .i64 m, .int .i64 a]] w fun e w' => e = .returned (.int .i64 (thTop p l m a)) ∧ Below w.heap.size w w' :=
  (ref48_top p l m a w).mono fun e w' ⟨he, hw⟩ => ⟨he, by rw [← hw]; (repeat' (first | with_reducible exact Below.refl _ _ | with_reducible refine Below.drew ?_ | with_reducible refine below_drewN ?_ _ | with_reducible refine Below.alloc ?_ ?_ _ | with_reducible refine Below.setCell ?_ ?_ _ | with_reducible refine Below.trans ?_ (Below.mono (by with_reducible assumption) ?_) | (simp; done) | (simp; omega) | omega))⟩

theorem law48_plain (w : World) : Calls Try.prog 36 #[] w fun e w' => e = .returned (.agg #[.int .i64 100, .int .i64 2, .int .i64 10, .int .i64 20000]) ∧ Below w.heap.size w w' := by
  go_enter Try.func36, Try.ntmps36
  go_wp2
  refine bodyPost_ret (v := .agg #[.int .i64 100, .int .i64 2, .int .i64 10, .int .i64 20000]) (by simp [results, Try.results36, go_sem]) rfl ⟨rfl, ?_⟩
  (repeat' (first | with_reducible exact Below.refl _ _ | with_reducible refine Below.drew ?_ | with_reducible refine below_drewN ?_ _ | with_reducible refine Below.alloc ?_ ?_ _ | with_reducible refine Below.setCell ?_ ?_ _ | with_reducible refine Below.trans ?_ (Below.mono (by with_reducible assumption) ?_) | (simp; done) | (simp; omega) | omega))

def zEx (k : Nat) : Int := if k = 0 then 255 else 0

set_option maxRecDepth 100000 in
set_option maxHeartbeats 4000000 in
theorem law48_awake (w : World) : Calls Try.prog 23 #[] w fun e w' => e = .returned (.bool true) ∧ Below w.heap.size w w' := by
  go_enter Try.func23, Try.ntmps23
  go_wp2_with fail
  refine (law48_plain _).mono ?_
  rintro e w1 ⟨rfl, hb1⟩; have z1 := hb1.size; (try simp at z1)
  go_wp2_with fail
  have HZ : IntsZ (w1.alloc (.cells #[.int .i64 255, .int .i64 0] 3)) (some ⟨w1.heap.size, 0, none⟩) 2 zEx := fun _ => ⟨_, 0, rfl, by simp, fun k hk => by
    rw [World.cell?_alloc_at _ _ _ _ rfl]
    match k, hk with
    | 0, _ => rfl
    | 1, _ => rfl⟩
  have HZ' := Lib.hid HZ
  clear HZ
  have hV1 : thValid 100 2 10 20000 = true := by decide
  have hV2 : thValid 0 0 0 0 = false := by decide
  have hS1 : thStep 100 2 10 20000 20000 255 = 22550 := by decide
  have hS2 : thStep 100 2 10 20000 22550 0 = 22040 := by decide
  have hT1 : thTop 100 2 10 20000 = 32750 := by decide
  have hL0 : (thList 100 2 10 20000 20000 zEx 2)[0]? = some (.int .i64 22550) := by
    show some (Value.int .i64 (thStep 100 2 10 20000 20000 255)) = _
    rw [hS1]
  have hL1 : (thList 100 2 10 20000 20000 zEx 2)[1]? = some (.int .i64 22040) := by
    show some (Value.int .i64 (thStep 100 2 10 20000 (thStep 100 2 10 20000 20000 255) 0)) = _
    rw [hS1, hS2]
  have HL0 := Lib.hid hL0
  have HL1 := Lib.hid hL1
  clear hL0 hL1
  refine (thermal_run 100 2 10 20000 20000 zEx _ 2 2 _ (by omega) HZ'.out).mono ?_
  rintro e w2 ⟨v, rfl, hown, hb2⟩
  have z2 := hb2.size
  simp at z2
  obtain ⟨g, cap, cur, rfl, hg, LG, hcur⟩ := row_live hown (by omega)
  have c0 := hcur 0 _ HL0.out
  have c1 := hcur 1 _ HL1.out
  clear hown hcur
  obtain ⟨pg, eg, fg⟩ := id LG
  go_wp2_with (first | (go_at_call 36; refine (law48_plain _).mono ?_; rintro e w3 ⟨rfl, hb3⟩; have z3 := hb3.size; (try simp at z3); have L3a := live_below hb3 (b := g) (by (repeat (first | with_reducible assumption | ((with_reducible apply live_new) <;> (first | with_reducible rfl | (focus (simp; done)))) | with_reducible apply live_alloc | with_reducible apply live_drew | with_reducible apply live_drewN | ((with_reducible apply live_set_other); (case hb => first | omega | (simp; done))) | with_reducible apply live_set_same | (focus (simp; done))))); obtain ⟨p3a, e3a, f3a⟩ := id L3a) | (go_at_call 19; refine (thermal_valid_b _ _ _ _ _).mono ?_; rintro e w4 ⟨rfl, hb4⟩; have z4 := hb4.size; (try simp at z4); have L4a := live_below hb4 (b := g) (by (repeat (first | with_reducible assumption | ((with_reducible apply live_new) <;> (first | with_reducible rfl | (focus (simp; done)))) | with_reducible apply live_alloc | with_reducible apply live_drew | with_reducible apply live_drewN | ((with_reducible apply live_set_other); (case hb => first | omega | (simp; done))) | with_reducible apply live_set_same | (focus (simp; done))))); obtain ⟨p4a, e4a, f4a⟩ := id L4a) | (go_at_call 24; refine (thermal_step_b _ _ _ _ _ _ _).mono ?_; rintro e w5 ⟨rfl, hb5⟩; have z5 := hb5.size; (try simp at z5); have L5a := live_below hb5 (b := g) (by (repeat (first | with_reducible assumption | ((with_reducible apply live_new) <;> (first | with_reducible rfl | (focus (simp; done)))) | with_reducible apply live_alloc | with_reducible apply live_drew | with_reducible apply live_drewN | ((with_reducible apply live_set_other); (case hb => first | omega | (simp; done))) | with_reducible apply live_set_same | (focus (simp; done))))); obtain ⟨p5a, e5a, f5a⟩ := id L5a) | (go_at_call 21; refine (thermal_top_b _ _ _ _ _).mono ?_; rintro e w6 ⟨rfl, hb6⟩; have z6 := hb6.size; (try simp at z6); have L6a := live_below hb6 (b := g) (by (repeat (first | with_reducible assumption | ((with_reducible apply live_new) <;> (first | with_reducible rfl | (focus (simp; done)))) | with_reducible apply live_alloc | with_reducible apply live_drew | with_reducible apply live_drewN | ((with_reducible apply live_set_other); (case hb => first | omega | (simp; done))) | with_reducible apply live_set_same | (focus (simp; done))))); obtain ⟨p6a, e6a, f6a⟩ := id L6a))
  all_goals go_ret
  all_goals refine ⟨rfl, ?_⟩
  all_goals (repeat' (first | with_reducible exact Below.refl _ _ | with_reducible refine Below.drew ?_ | with_reducible refine below_drewN ?_ _ | with_reducible refine Below.alloc ?_ ?_ _ | with_reducible refine Below.setCell ?_ ?_ _ | with_reducible refine Below.trans ?_ (Below.mono (by with_reducible assumption) ?_) | (simp; done) | (simp; omega) | omega))
end Go.Proofs.Ythpomgkeoogamaa
