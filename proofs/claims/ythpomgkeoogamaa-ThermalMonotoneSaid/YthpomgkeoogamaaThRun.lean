/- What Run of thermal returns, in the program and in the reference, for all heaters and numbers, and at most a million duties -/
import Derived.Test.YthpomgkeoogamaaProg
import Derived.WalkKit
import Derived.WalkLawsBesides
import Derived.Lib.Hide
import Derived.Test.YthpomgkeoogamaaKit3
import Derived.Test.YthpomgkeoogamaaThStep
namespace Go.Proofs.Ythpomgkeoogamaa
open Go.RowKit
set_option linter.unusedVariables false

attribute [local go_sem] cell_past1 cell_past2 cell_past3 cell_past4 froz_past1 froz_past2 froz_past3

/-- The temperatures after k duties. -/
def thRun (p l m a t : Int) (z : Nat → Int) : Nat → Int
  | 0 => t
  | k + 1 => thStep p l m a (thRun p l m a t z k) (z k)
def thList (p l m a t : Int) (z : Nat → Int) (k : Nat) : List Value := (List.range k).map fun j => Value.int .i64 (thRun p l m a t z (j + 1))
theorem thList_succ (p l m a t : Int) (z : Nat → Int) (k : Nat) : thList p l m a t z (k + 1) = thList p l m a t z k ++ [.int .i64 (thStep p l m a (thRun p l m a t z k) (z k))] := by
  unfold thList; rw [List.range_succ, List.map_append]; rfl

/-- A slice of ints that is only read, its elements named. -/
def IntsZ (w : World) (a : Option Addr) (len : Nat) (z : Nat → Int) : Prop :=
  0 < len → ∃ b off, a = some ⟨b, off, none⟩ ∧ b < w.heap.size ∧ ∀ k, k < len → w.cell? ⟨b, off + k, none⟩ = some (.int .i64 (z k))

theorem int_info : (Try.prog.info? 3).map (fun i => (i.zero, i.size, i.bytes)) = some (some (.int .i64 0), 1, 8) := by kernel_rfl

def RunRel (p l m a t : Int) (z : Nat → Int) (len : Nat) (w : World) (B : Nat) (s1 s7 s12 : Value) (wr : World) : Prop :=
  ∃ k : Nat, s12 = .int .i64 k ∧ k ≤ len ∧ s1 = .int .i64 (thRun p l m a t z k) ∧ wr.ownsRow (B + 1) 3 1 s7 k (thList p l m a t z k) ∧ Live wr B #[.int .i64 p, .int .i64 l, .int .i64 m, .int .i64 a] ∧ Below B w wr

set_option maxRecDepth 100000 in
set_option maxHeartbeats 4000000 in
theorem ref48_run (p l m a t : Int) (z : Nat → Int) (s : Option Addr) (len cap : Nat) (w : World) (hl : len ≤ 1000000) (hs : IntsZ w s len z) :
    Calls Try.prog 28 #[.agg #[.int .i64 p, .int .i64 l, .int .i64 m, .int .i64 a], .int .i64 t, .slice s len cap] w fun e w' =>
      ∃ v, e = .returned v ∧ w'.ownsRow (w.heap.size + 1) 3 1 v len (thList p l m a t z len) ∧ Below w.heap.size w w' := by
  obtain ⟨i0, hi, hz0, hz1, hz2⟩ := info_parts int_info
  go_enter Try.func28, Try.ntmps28
  go_wp2
  go_loopw [1, 7, 12] (RunRel p l m a t z len w w.heap.size) (fun _ _ i _ => len - (intOf i).toNat)
  case atStart => exact ⟨0, rfl, Nat.zero_le _, rfl, World.ownsRow_nil _ _ _ _, by (repeat (first | with_reducible assumption | ((with_reducible apply live_new) <;> (first | with_reducible rfl | (focus (simp; done)))) | with_reducible apply live_alloc | with_reducible apply live_drew | with_reducible apply live_drewN | ((with_reducible apply live_set_other); (case hb => first | omega | (simp; done))) | with_reducible apply live_set_same | (focus (simp; done)))), by (repeat' (first | with_reducible exact Below.refl _ _ | with_reducible refine Below.drew ?_ | with_reducible refine below_drewN ?_ _ | with_reducible refine Below.alloc ?_ ?_ _ | with_reducible refine Below.setCell ?_ ?_ _ | with_reducible refine Below.trans ?_ (Below.mono (by with_reducible assumption) ?_) | (simp; done) | (simp; omega) | omega))⟩
  case round =>
    obtain ⟨k, rfl, hk, rfl, hown, L0, hb0⟩ := hrel
    obtain ⟨p0, e0, f0⟩ := id L0
    by_cases hlt : k < len
    · obtain ⟨b, off, rfl, hbl, hcl⟩ := hs (by omega)
      have hcz : wr.cell? ⟨b, off + k, none⟩ = some (.int .i64 (z k)) := (hb0.cell (p := ⟨b, off + k, none⟩) hbl).trans (hcl k hlt)
      generalize hT : thRun p l m a t z k = T at *
      generalize hZ : z k = Z at *
      have HT := Lib.hid hT
      have HZ := Lib.hid hZ
      clear hT hZ hcl
      go_wp2_with (first | (at_builtin; refine wpList_append_own _ rfl _ _ 28 rfl (w.heap.size + 1) 3 i0 (.int .i64 0) 1 8 Try.underlying28 hi hz0 hz1 hz2 rfl (by decide) _ _ _ rfl (((hown.alloc _).alloc _).alloc _) ⟨wr.heap.size + 1 + 1, 0, none⟩ 1 1 [.int .i64 (thStep p l m a T Z)] rfl rfl ?c1 ?c2 ?c3 ?c4 ?c5 ?_) | (go_at_call 25; refine (ref48_step _ _ _ _ _ _ _).mono ?_; rintro e w' ⟨rfl, rfl⟩))
      case c1 =>
        intro j u hj
        match j, hj with
        | 0, hj =>
          simp at hj; subst hj
          show World.cell? _ ⟨_, 0 + 0, none⟩ = _
          rw [World.cell?_alloc_at _ _ _ _ (by simp)]; rfl
      case c2 => intro u hu; simp at hu; subst hu; rfl
      case c3 => unfold maxLen; omega
      case c4 => omega
      case c5 => have := hb0.size; simp; omega
      intro v' w1 hown' hgrow _
      have hne : ∀ j, j < w.heap.size + 1 → some j ≠ u7.ownBlock := fun j hj h => by have := (hown.lt j h.symm).1; omega
      have L1 := live_grown (b := w.heap.size) (by (repeat (first | with_reducible assumption | ((with_reducible apply live_new) <;> (first | with_reducible rfl | (focus (simp; done)))) | with_reducible apply live_alloc | with_reducible apply live_drew | with_reducible apply live_drewN | ((with_reducible apply live_set_other); (case hb => first | omega | (simp; done))) | with_reducible apply live_set_same | (focus (simp; done))))) hgrow (hne _ (by omega))
      have hb1 : Below w.heap.size w w1 := Below.grown (by have zz := hb0.size; refine Below.trans hb0 ?_; (repeat' (first | with_reducible exact Below.refl _ _ | with_reducible refine Below.drew ?_ | with_reducible refine below_drewN ?_ _ | with_reducible refine Below.alloc ?_ ?_ _ | with_reducible refine Below.setCell ?_ ?_ _ | with_reducible refine Below.trans ?_ (Below.mono (by with_reducible assumption) ?_) | (simp; done) | (simp; omega) | omega))) hgrow (by have := hb0.size; simp; omega) (fun j hj => by have := (hown.lt j hj).1; omega)
      rw [← HT.out, ← HZ.out, ← thList_succ] at hown'
      have HN : Hid (thStep p l m a T Z = thRun p l m a t z (k + 1)) := by show _ = _; rw [← HT.out, ← HZ.out]; rfl
      clear hgrow hown
      go_wp2
      go_roundw
      case rel => exact ⟨k + 1, by go_num, by omega, by rw [HN.out], hown', L1, hb1⟩
      case measure => simp [intOf]; omega
    · have hkl : k = len := by omega
      subst hkl
      go_wp2
      go_ret
      exact ⟨_, rfl, hown, hb0⟩

set_option maxRecDepth 100000 in
set_option maxHeartbeats 4000000 in
theorem thermal_run1 (p l m a t d : Int) (B : Nat) (w : World) (L : Live w B #[.int .i64 p, .int .i64 l, .int .i64 m, .int .i64 a]) :
    Calls Try.prog 38 #[.int .i64 t, .int .i64 d, .pointer (some ⟨B, 0, none⟩)] w fun e w' => e = .returned (.int .i64 (thStep p l m a t d)) ∧
      (w.alloc (.cells #[.int .i64 p, .int .i64 l, .int .i64 m, .int .i64 a] 33)).alloc (.cells #[.int .i64 p, .int .i64 l, .int .i64 m, .int .i64 a] 33) = w' := by
  obtain ⟨p0, e0, f0⟩ := L
  go_enter Try.func38, Try.ntmps38
  go_wp2_with ((go_at_call 24; refine (thermal_step _ _ _ _ _ _ _).mono ?_; rintro e w' ⟨rfl, rfl⟩))
  go_ret
  exact ⟨rfl, rfl⟩

def StRel (p l m a t : Int) (z : Nat → Int) (len : Nat) (w : World) (B : Nat) (s0 s7 s12 : Value) (wr : World) : Prop :=
  ∃ k : Nat, s12 = .int .i64 k ∧ k ≤ len ∧ s0 = .int .i64 (thRun p l m a t z k) ∧ wr.ownsRow w.heap.size 3 1 s7 k (thList p l m a t z k) ∧ Live wr B #[.int .i64 p, .int .i64 l, .int .i64 m, .int .i64 a] ∧ Below w.heap.size w wr

set_option maxRecDepth 100000 in
set_option maxHeartbeats 4000000 in
theorem thermal_states (p l m a t : Int) (z : Nat → Int) (B : Nat) (s : Option Addr) (len cap : Nat) (w : World) (hl : len ≤ 1000000) (hs : IntsZ w s len z) (LB : Live w B #[.int .i64 p, .int .i64 l, .int .i64 m, .int .i64 a]) :
    Calls Try.prog 37 #[.int .i64 t, .slice s len cap, .func (.func 38) #[] #[.pointer (some ⟨B, 0, none⟩)]] w fun e w' =>
      ∃ v, e = .returned v ∧ w'.ownsRow w.heap.size 3 1 v len (thList p l m a t z len) ∧ Below w.heap.size w w' := by
  obtain ⟨i0, hi, hz0, hz1, hz2⟩ := info_parts int_info
  go_enter Try.func37, Try.ntmps37
  go_wp2
  go_loopw [0, 7, 12] (StRel p l m a t z len w B) (fun _ _ i _ => len - (intOf i).toNat)
  case atStart => exact ⟨0, rfl, Nat.zero_le _, rfl, World.ownsRow_nil _ _ _ _, LB, by (repeat' (first | with_reducible exact Below.refl _ _ | with_reducible refine Below.drew ?_ | with_reducible refine below_drewN ?_ _ | with_reducible refine Below.alloc ?_ ?_ _ | with_reducible refine Below.setCell ?_ ?_ _ | with_reducible refine Below.trans ?_ (Below.mono (by with_reducible assumption) ?_) | (simp; done) | (simp; omega) | omega))⟩
  case round =>
    obtain ⟨k, rfl, hk, rfl, hown, L0, hb0⟩ := hrel
    obtain ⟨p0, e0, f0⟩ := id L0
    by_cases hlt : k < len
    · obtain ⟨b, off, rfl, hbl, hcl⟩ := hs (by omega)
      have hcz : wr.cell? ⟨b, off + k, none⟩ = some (.int .i64 (z k)) := (hb0.cell (p := ⟨b, off + k, none⟩) hbl).trans (hcl k hlt)
      generalize hT : thRun p l m a t z k = T at *
      generalize hZ : z k = Z at *
      have HT := Lib.hid hT
      have HZ := Lib.hid hZ
      clear hT hZ hcl
      go_wp2_with (first | (at_builtin; refine wpList_append_own _ rfl _ _ 28 rfl w.heap.size 3 i0 (.int .i64 0) 1 8 Try.underlying28 hi hz0 hz1 hz2 rfl (by decide) _ _ _ rfl (((hown.alloc _).alloc _).alloc _) ⟨wr.heap.size + 1 + 1, 0, none⟩ 1 1 [.int .i64 (thStep p l m a T Z)] rfl rfl ?c1 ?c2 ?c3 ?c4 ?c5 ?_) | (go_at_call 38; refine (thermal_run1 _ _ _ _ _ _ _ _ L0).mono ?_; rintro e w' ⟨rfl, rfl⟩))
      case c1 =>
        intro j u hj
        match j, hj with
        | 0, hj =>
          simp at hj; subst hj
          show World.cell? _ ⟨_, 0 + 0, none⟩ = _
          rw [World.cell?_alloc_at _ _ _ _ (by simp)]; rfl
      case c2 => intro u hu; simp at hu; subst hu; rfl
      case c3 => unfold maxLen; omega
      case c4 => omega
      case c5 => have := hb0.size; simp; omega
      intro v' w1 hown' hgrow _
      have hne : ∀ j, j < w.heap.size → some j ≠ u7.ownBlock := fun j hj h => by have := (hown.lt j h.symm).1; omega
      have L1 := live_grown (b := B) (by (repeat (first | with_reducible assumption | ((with_reducible apply live_new) <;> (first | with_reducible rfl | (focus (simp; done)))) | with_reducible apply live_alloc | with_reducible apply live_drew | with_reducible apply live_drewN | ((with_reducible apply live_set_other); (case hb => first | omega | (simp; done))) | with_reducible apply live_set_same | (focus (simp; done))))) hgrow (hne _ LB.1)
      have hb1 : Below w.heap.size w w1 := Below.grown (by have zz := hb0.size; refine Below.trans hb0 ?_; (repeat' (first | with_reducible exact Below.refl _ _ | with_reducible refine Below.drew ?_ | with_reducible refine below_drewN ?_ _ | with_reducible refine Below.alloc ?_ ?_ _ | with_reducible refine Below.setCell ?_ ?_ _ | with_reducible refine Below.trans ?_ (Below.mono (by with_reducible assumption) ?_) | (simp; done) | (simp; omega) | omega))) hgrow (by have := hb0.size; simp; omega) (fun j hj => by have := (hown.lt j hj).1; omega)
      rw [← HT.out, ← HZ.out, ← thList_succ] at hown'
      have HN : Hid (thStep p l m a T Z = thRun p l m a t z (k + 1)) := by show _ = _; rw [← HT.out, ← HZ.out]; rfl
      clear hgrow hown
      go_wp2
      go_roundw
      case rel => exact ⟨k + 1, by go_num, by omega, by rw [HN.out], hown', L1, hb1⟩
      case measure => simp [intOf]; omega
    · have hkl : k = len := by omega
      subst hkl
      go_wp2
      go_ret
      exact ⟨_, rfl, hown, hb0⟩

set_option maxRecDepth 100000 in
set_option maxHeartbeats 4000000 in
theorem thermal_run (p l m a t : Int) (z : Nat → Int) (s : Option Addr) (len cap : Nat) (w : World) (hl : len ≤ 1000000) (hs : IntsZ w s len z) :
    Calls Try.prog 27 #[.agg #[.int .i64 p, .int .i64 l, .int .i64 m, .int .i64 a], .int .i64 t, .slice s len cap] w fun e w' =>
      ∃ v, e = .returned v ∧ w'.ownsRow (w.heap.size + 1) 3 1 v len (thList p l m a t z len) ∧ Below w.heap.size w w' := by
  have hmf : ∀ (fn : Fn) (first cap : Array Value) (w : World), (Instr.makeFunc fn first cap).run Try.prog w = .ok (.func fn first cap) w := fun _ _ _ _ => rfl
  have hs' : IntsZ (w.alloc (.cells #[.int .i64 p, .int .i64 l, .int .i64 m, .int .i64 a] 33)) s len z := fun h0 => by
    obtain ⟨b, off, e, hb, hc⟩ := hs h0
    exact ⟨b, off, e, by simp; omega, fun k hk => by rw [cell_past1 _ _ _ _ hb]; exact hc k hk⟩
  have HS := Lib.hid hs'
  clear hs hs'
  go_enter Try.func27, Try.ntmps27
  go_wp2_with fail
  refine (thermal_states p l m a t z w.heap.size s len cap _ hl HS.out (by (repeat (first | with_reducible assumption | ((with_reducible apply live_new) <;> (first | with_reducible rfl | (focus (simp; done)))) | with_reducible apply live_alloc | with_reducible apply live_drew | with_reducible apply live_drewN | ((with_reducible apply live_set_other); (case hb => first | omega | (simp; done))) | with_reducible apply live_set_same | (focus (simp; done)))))).mono ?_
  rintro e w1 ⟨v, rfl, hown, hb1⟩
  go_wp2
  go_ret
  exact ⟨_, rfl, by simpa using hown, by (repeat' (first | with_reducible exact Below.refl _ _ | with_reducible refine Below.drew ?_ | with_reducible refine below_drewN ?_ _ | with_reducible refine Below.alloc ?_ ?_ _ | with_reducible refine Below.setCell ?_ ?_ _ | with_reducible refine Below.trans ?_ (Below.mono (by with_reducible assumption) ?_) | (simp; done) | (simp; omega) | omega))⟩
end Go.Proofs.Ythpomgkeoogamaa
