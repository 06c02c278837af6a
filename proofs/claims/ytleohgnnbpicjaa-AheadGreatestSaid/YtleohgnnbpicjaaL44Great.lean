/- AheadGreatest: a plan is feasible, changes nothing but Entry and Exit, and is at least as fast as the queue, if that is feasible; and then there is one -/
import Derived.Deep.DeepCutAuto
import Derived.BigQuiet
import Derived.Deep.QuietTactic
import Derived.IntWalk
import Derived.Deep.RegionHeld3
import Derived.Deep.RegionWith
import Derived.RegionTactic
import Derived.BigRegion
import Derived.Test.YtleohgnnbpicjaaL44Law
import Derived.Test.YtleohgnnbpicjaaL44Awake
import Derived.Test.YtleohgnnbpicjaaAhdLow
import Derived.Test.YtleohgnnbpicjaaBlkEq
namespace Go.Proofs.Ytleohgnnbpicjaa.aheadGreatest
open Go.ChangeShapes Go.WideShapes Go.ChangeAt Go.RowKit
set_option linter.unusedVariables false

attribute [local go_sem] cell_past1 cell_past2 cell_past3 cell_past4 froz_past1 froz_past2 froz_past3
attribute [local go_sem ↓] loadB_in

theorem pln_all {g : Nat → Nat → Int} {z : Nat → Int} {en : Int} {n m : Nat} {w w' : World} {e : Ending} (h : PlnPost g z en n m w e w') (hE : plnE g z en n m = 0) :
    ∃ a cap, e = .returned (.tuple #[.slice a n cap, .int .i64 0]) ∧ BlkS w' a n (plnG g z en n n) ∧ Below w.heap.size w w' := by
  obtain ⟨a, k, cap, he, hk, hkc, hcap, hB, hf, hb⟩ := h
  rw [hE] at he hk
  rw [if_pos rfl] at hk
  subst hk
  exact ⟨a, cap, he, hB, hb⟩
theorem plnG_i64 (g : Nat → Nat → Int) (z : Nat → Int) (en : Int) (n m : Nat) (hg : ∀ k o, I64 (g k o)) (hz : ∀ k, I64 (z k)) (h : plnE g z en n m = 0) (k o : Nat) : I64 (plnG g z en n n k o) := by
  obtain ⟨e, hs, hp⟩ := pln_zero g z en n m h
  by_cases h0 : n = 0
  · subst h0
    unfold plnG
    rw [if_neg (by omega), if_neg (by omega)]
    exact hg k o
  · obtain ⟨a, b, _⟩ := hp h0
    have := (bsnd_in g 0 (hs 0 (by omega))).2.1
    exact plnG_in g z en n n hg hz hs a (by omega) k o
theorem blk_neq_g (g : Nat → Nat → Int) (k : Nat) (w : World) : (binOp .neq 24 (.agg (blkA g k)) (.agg (blkA g k))).run Try.prog w = .ok (.bool false) w := blk_neq _ _ _ _ _ _ _ _ w
theorem keep17 {W0 wx : World} {b off n X Q : Nat} {g : Nat → Nat → Int} {k : Nat} {x y z : Value} (hl : BlkS W0 (some ⟨b, off, none⟩) n g) (hk : k < n) (hb : Below W0.heap.size W0 wx) (LX : Live wx X (blkA g k)) (L : Live wx Q #[x, y, z]) :
    wx.rangeAt X 0 (blkA g k).toList ∧ wx.rangeAt b (off + k * 8) (blkA g k).toList ∧ wx.cell? ⟨Q, 0, none⟩ = some x := ⟨live_rangeAll LX, blkS_rng (blkS_below hb (Nat.le_refl _) hl) k hk, L.2.1 0⟩
theorem plnG_back (g : Nat → Nat → Int) (z : Nat → Int) (en : Int) (n k : Nat) : ((blkA (plnG g z en n n) k).setIfInBounds 5 (.int .i64 (g k 5))).setIfInBounds 7 (.int .i64 (g k 7)) = blkA g k := by
  have e : ∀ o, o ≠ 5 → o ≠ 7 → plnG g z en n n k o = g k o := fun o h5 h7 => by unfold plnG; rw [if_neg (fun h => h5 h.2), if_neg (fun h => h7 h.2)]
  simp [blkA, e]

set_option maxRecDepth 100000 in
set_option maxHeartbeats 8000000 in
theorem walk_long (sl sc : Option Addr) (n m cl cc : Nat) (en : Int) (w : World) (hn : n ≤ 9223372036854775807) (hm : m ≤ 9223372036854775807) (hsh : shB n m = false) :
    Calls Try.prog 6 #[.agg #[.slice sl n cl, .slice sc m cc, .int .i64 en]] w fun e w' => e = .returned (.bool true) ∧ Below w.heap.size w w' := by
  have KS := Lib.hid (fun w => law44_short sl sc n m cl cc en w hn hm)
  rw [hsh] at KS
  clear hsh
  go_enter Try.func6, Try.ntmps6
  go_upto_region 1 with (fail)
  refine gen_world (fun wx => Live wx w.heap.size #[.slice sl n cl, .slice sc m cc, .int .i64 en] ∧ Below w.heap.size w wx) ?_ ?_
  · exact ⟨live_new _ _ rfl, by (repeat' (first | with_reducible exact Below.refl _ _ | with_reducible refine Below.drew ?_ | with_reducible refine below_drewN ?_ _ | with_reducible refine Below.alloc ?_ ?_ _ | with_reducible refine Below.setCell ?_ ?_ _ | with_reducible refine Below.trans ?_ (Below.mono (by with_reducible assumption) ?_) | (simp; done) | (simp; omega) | omega))⟩
  rintro wx ⟨L, hb⟩
  have p0 := L.1
  obtain ⟨q0, q1, q2⟩ := live_q L
  go_wp2_with (first | (go_at_call 18; (with_reducible refine (KS.out _).mono ?_); rintro e w1 ⟨rfl, hb1⟩; have z1 := hb1.size; (try simp at z1); have L1a := live_below hb1 (b := w.heap.size) (by (repeat (first | with_reducible assumption | ((with_reducible apply live_new) <;> (first | with_reducible rfl | (focus (simp; done)))) | with_reducible apply live_alloc | with_reducible apply live_drew | with_reducible apply live_drewN | ((with_reducible apply live_set_other); (case hb => first | omega | (simp; done))) | with_reducible apply live_set_same | (focus (simp; done))))); obtain ⟨p1a, e1a, f1a⟩ := id L1a; clear e1a; obtain ⟨r0, r1, r2⟩ := live_q L1a) | (go_at_call 17; refine (law44_awake _).mono ?_; rintro e w9 ⟨rfl, hb9⟩; have z9 := hb9.size; (try simp at z9)))
  go_ret
  refine ⟨rfl, ?_⟩
  (repeat' (first | with_reducible exact Below.refl _ _ | with_reducible refine Below.drew ?_ | with_reducible refine below_drewN ?_ _ | with_reducible refine Below.alloc ?_ ?_ _ | with_reducible refine Below.setCell ?_ ?_ _ | with_reducible refine Below.trans ?_ (Below.mono (by with_reducible assumption) ?_) | (simp; done) | (simp; omega) | omega))

def GRel (W0 : World) (Q : Nat) (c : Array Value) (n : Nat) (s58 : Value) (wx : World) : Prop := ∃ k : Nat, s58 = .int .i64 k ∧ k ≤ n ∧ Live wx Q c ∧ Below W0.heap.size W0 wx

set_option maxRecDepth 100000 in
set_option maxHeartbeats 8000000 in
theorem walk_short (g : Nat → Nat → Int) (z : Nat → Int) (en : Int) (sl sc : Option Addr) (n m cl cc : Nat) (w : World) (hg : ∀ k o, I64 (g k o)) (hz : ∀ k, I64 (z k)) (he : I64 en) (hn : n ≤ 9223372036854775807) (hm : m ≤ 9223372036854775807) (hl : BlkS w sl n g) (hc : IntS w sc m z) (hsh : shB n m = true) :
    Calls Try.prog 6 #[.agg #[.slice sl n cl, .slice sc m cc, .int .i64 en]] w fun e w' => e = .returned (.bool true) ∧ Below w.heap.size w w' := by
  have HL := Lib.hid hl
  have HC := Lib.hid hc
  have KS := Lib.hid (fun w => law44_short sl sc n m cl cc en w hn hm)
  have hn40 : n ≤ 40 := by
    unfold shB at hsh
    rw [Bool.and_eq_true] at hsh
    exact of_decide_eq_true hsh.1
  rw [hsh] at KS
  clear hsh hl hc he
  have KP := Lib.hid (fun w hl hc => ahead_plan g z en sl sc n m cl cc w hg hz (by omega) hm hl hc)
  have KF := Lib.hid (fun w hl hc => ahead_feasible g z en sl sc n m cl cc w hg (by omega) hm hl hc)
  by_cases hE : plnE g z en n m = 0
  case neg =>
    have hfe : feasB g z en n m = false := by
      rw [← Bool.not_eq_true]
      intro h
      exact hE (feas_plan g z en n m h).1
    rw [hfe] at KF
    have HE := Lib.hid (rfl : plnE g z en n m = plnE g z en n m)
    have b1 : (plnE g z en n m != 0) = true := bne_iff_ne.2 hE
    have KP' := Lib.hid (fun w hl hc => ((KP.out w hl hc).mono (fun e w' h => pln_open0 h _ rfl (Or.inl hE)) : Calls Try.prog 21 #[.slice sl n cl, .slice sc m cc, .int .i64 en] w fun e w' => ∃ a cap, e = .returned (.tuple #[.slice a 0 cap, .int .i64 (plnE g z en n m)]) ∧ Below w.heap.size w w'))
    generalize plnE g z en n m = E at *
    clear KP hfe HE hE hg hz
    go_enter Try.func6, Try.ntmps6
    go_upto_region 1 with (fail)
    refine gen_world (fun wx => Live wx w.heap.size #[.slice sl n cl, .slice sc m cc, .int .i64 en] ∧ Below w.heap.size w wx) ?_ ?_
    · exact ⟨live_new _ _ rfl, by (repeat' (first | with_reducible exact Below.refl _ _ | with_reducible refine Below.drew ?_ | with_reducible refine below_drewN ?_ _ | with_reducible refine Below.alloc ?_ ?_ _ | with_reducible refine Below.setCell ?_ ?_ _ | with_reducible refine Below.trans ?_ (Below.mono (by with_reducible assumption) ?_) | (simp; done) | (simp; omega) | omega))⟩
    rintro wx ⟨L, hb⟩
    have p0 := L.1
    obtain ⟨q0, q1, q2⟩ := live_q L
    go_wp2_with (first | (go_at_call 18; (with_reducible refine (KS.out _).mono ?_); rintro e w1 ⟨rfl, hb1⟩; have z1 := hb1.size; (try simp at z1); have L1a := live_below hb1 (b := w.heap.size) (by (repeat (first | with_reducible assumption | ((with_reducible apply live_new) <;> (first | with_reducible rfl | (focus (simp; done)))) | with_reducible apply live_alloc | with_reducible apply live_drew | with_reducible apply live_drewN | ((with_reducible apply live_set_other); (case hb => first | omega | (simp; done))) | with_reducible apply live_set_same | (focus (simp; done))))); obtain ⟨p1a, e1a, f1a⟩ := id L1a; clear e1a; obtain ⟨r0, r1, r2⟩ := live_q L1a) | (go_at_call 21; (with_reducible refine (KP'.out _ ?_ ?_).mono ?_); (· exact blkS_below (B := w.heap.size) (by (repeat' (first | with_reducible exact Below.refl _ _ | with_reducible refine Below.drew ?_ | with_reducible refine below_drewN ?_ _ | with_reducible refine Below.alloc ?_ ?_ _ | with_reducible refine Below.setCell ?_ ?_ _ | with_reducible refine Below.trans ?_ (Below.mono (by with_reducible assumption) ?_) | (simp; done) | (simp; omega) | omega))) (Nat.le_refl _) HL.out); (· exact intS_below (B := w.heap.size) (by (repeat' (first | with_reducible exact Below.refl _ _ | with_reducible refine Below.drew ?_ | with_reducible refine below_drewN ?_ _ | with_reducible refine Below.alloc ?_ ?_ _ | with_reducible refine Below.setCell ?_ ?_ _ | with_reducible refine Below.trans ?_ (Below.mono (by with_reducible assumption) ?_) | (simp; done) | (simp; omega) | omega))) (Nat.le_refl _) HC.out); rintro e w3 ⟨a3, cap3, rfl, hb3⟩; have z3 := hb3.size; (try simp at z3); have L3a := live_below hb3 (b := w.heap.size) (by (repeat (first | with_reducible assumption | ((with_reducible apply live_new) <;> (first | with_reducible rfl | (focus (simp; done)))) | with_reducible apply live_alloc | with_reducible apply live_drew | with_reducible apply live_drewN | ((with_reducible apply live_set_other); (case hb => first | omega | (simp; done))) | with_reducible apply live_set_same | (focus (simp; done))))); obtain ⟨p3a, e3a, f3a⟩ := id L3a; clear e3a; obtain ⟨u0, u1, u2⟩ := live_q L3a) | (go_at_call 19; (with_reducible refine (KF.out _ ?_ ?_).mono ?_); (· exact blkS_below (B := w.heap.size) (by (repeat' (first | with_reducible exact Below.refl _ _ | with_reducible refine Below.drew ?_ | with_reducible refine below_drewN ?_ _ | with_reducible refine Below.alloc ?_ ?_ _ | with_reducible refine Below.setCell ?_ ?_ _ | with_reducible refine Below.trans ?_ (Below.mono (by with_reducible assumption) ?_) | (simp; done) | (simp; omega) | omega))) (Nat.le_refl _) HL.out); (· exact intS_below (B := w.heap.size) (by (repeat' (first | with_reducible exact Below.refl _ _ | with_reducible refine Below.drew ?_ | with_reducible refine below_drewN ?_ _ | with_reducible refine Below.alloc ?_ ?_ _ | with_reducible refine Below.setCell ?_ ?_ _ | with_reducible refine Below.trans ?_ (Below.mono (by with_reducible assumption) ?_) | (simp; done) | (simp; omega) | omega))) (Nat.le_refl _) HC.out); rintro e w4 ⟨rfl, hb4⟩; have z4 := hb4.size; (try simp at z4); have L4a := live_below hb4 (b := w.heap.size) (by (repeat (first | with_reducible assumption | ((with_reducible apply live_new) <;> (first | with_reducible rfl | (focus (simp; done)))) | with_reducible apply live_alloc | with_reducible apply live_drew | with_reducible apply live_drewN | ((with_reducible apply live_set_other); (case hb => first | omega | (simp; done))) | with_reducible apply live_set_same | (focus (simp; done))))); obtain ⟨p4a, e4a, f4a⟩ := id L4a; clear e4a; obtain ⟨v0, v1, v2⟩ := live_q L4a) | (go_at_call 17; refine (law44_awake _).mono ?_; rintro e w9 ⟨rfl, hb9⟩; have z9 := hb9.size; (try simp at z9)))
    go_ret
    refine ⟨rfl, ?_⟩
    (repeat' (first | with_reducible exact Below.refl _ _ | with_reducible refine Below.drew ?_ | with_reducible refine below_drewN ?_ _ | with_reducible refine Below.alloc ?_ ?_ _ | with_reducible refine Below.setCell ?_ ?_ _ | with_reducible refine Below.trans ?_ (Below.mono (by with_reducible assumption) ?_) | (simp; done) | (simp; omega) | omega))
  obtain ⟨hnm, hsnd, hpz⟩ := pln_zero g z en n m hE
  subst hnm
  have KP' := Lib.hid (fun w hl hc => ((KP.out w hl hc).mono (fun e w' h => pln_all h hE) : Calls Try.prog 21 #[.slice sl n cl, .slice sc n cc, .int .i64 en] w fun e w' => ∃ a cap, e = .returned (.tuple #[.slice a n cap, .int .i64 0]) ∧ BlkS w' a n (plnG g z en n n) ∧ Below w.heap.size w w'))
  have hgp := plnG_i64 g z en n n hg hz hE
  have KG := Lib.hid (fun (a : Option Addr) (cap : Nat) w hl hc => ahead_feasible (plnG g z en n n) z en a sc n n cap cc w hgp (by omega) hm hl hc)
  rw [plan_feas g z en n n hE] at KG
  have hR : feasB g z en n n = true → ∀ k, k < n → g k 5 ≤ plnG g z en n n k 5 ∧ g k 7 ≤ plnG g z en n n k 7 := fun h k hk => by
    obtain ⟨p5, p7⟩ := plnG_57 g z en n n k hk
    rw [p5, p7]
    exact (feas_plan g z en n n h).2 k hk
  have HBACK := Lib.hid (plnG_back g z en n)
  generalize feasB g z en n n = R at *
  have HR := Lib.hid hR
  have hnn : ((n : Int) != (n : Int)) = false := by simp
  clear KP hgp hE hsnd hpz hR hg hz
  generalize plnG g z en n n = gp at *
  go_enter Try.func6, Try.ntmps6
  go_upto_region 1 with (fail)
  refine gen_world (fun wx => Live wx w.heap.size #[.slice sl n cl, .slice sc n cc, .int .i64 en] ∧ Below w.heap.size w wx) ?_ ?_
  · exact ⟨live_new _ _ rfl, by (repeat' (first | with_reducible exact Below.refl _ _ | with_reducible refine Below.drew ?_ | with_reducible refine below_drewN ?_ _ | with_reducible refine Below.alloc ?_ ?_ _ | with_reducible refine Below.setCell ?_ ?_ _ | with_reducible refine Below.trans ?_ (Below.mono (by with_reducible assumption) ?_) | (simp; done) | (simp; omega) | omega))⟩
  rintro wx ⟨L, hb⟩
  have p0 := L.1
  obtain ⟨q0, q1, q2⟩ := live_q L
  go_upto_region 5 with (first | (go_at_call 18; (with_reducible refine (KS.out _).mono ?_); rintro e w1 ⟨rfl, hb1⟩; have z1 := hb1.size; (try simp at z1); have L1a := live_below hb1 (b := w.heap.size) (by (repeat (first | with_reducible assumption | ((with_reducible apply live_new) <;> (first | with_reducible rfl | (focus (simp; done)))) | with_reducible apply live_alloc | with_reducible apply live_drew | with_reducible apply live_drewN | ((with_reducible apply live_set_other); (case hb => first | omega | (simp; done))) | with_reducible apply live_set_same | (focus (simp; done))))); obtain ⟨p1a, e1a, f1a⟩ := id L1a; clear e1a; obtain ⟨r0, r1, r2⟩ := live_q L1a) | (go_at_call 21; (with_reducible refine (KP'.out _ ?_ ?_).mono ?_); (· exact blkS_below (B := w.heap.size) (by (repeat' (first | with_reducible exact Below.refl _ _ | with_reducible refine Below.drew ?_ | with_reducible refine below_drewN ?_ _ | with_reducible refine Below.alloc ?_ ?_ _ | with_reducible refine Below.setCell ?_ ?_ _ | with_reducible refine Below.trans ?_ (Below.mono (by with_reducible assumption) ?_) | (simp; done) | (simp; omega) | omega))) (Nat.le_refl _) HL.out); (· exact intS_below (B := w.heap.size) (by (repeat' (first | with_reducible exact Below.refl _ _ | with_reducible refine Below.drew ?_ | with_reducible refine below_drewN ?_ _ | with_reducible refine Below.alloc ?_ ?_ _ | with_reducible refine Below.setCell ?_ ?_ _ | with_reducible refine Below.trans ?_ (Below.mono (by with_reducible assumption) ?_) | (simp; done) | (simp; omega) | omega))) (Nat.le_refl _) HC.out); rintro e w3 ⟨a3, cap3, rfl, hp3, hb3⟩; have z3 := hb3.size; (try simp at z3); have L3a := live_below hb3 (b := w.heap.size) (by (repeat (first | with_reducible assumption | ((with_reducible apply live_new) <;> (first | with_reducible rfl | (focus (simp; done)))) | with_reducible apply live_alloc | with_reducible apply live_drew | with_reducible apply live_drewN | ((with_reducible apply live_set_other); (case hb => first | omega | (simp; done))) | with_reducible apply live_set_same | (focus (simp; done))))); obtain ⟨p3a, e3a, f3a⟩ := id L3a; have HP3 := Lib.hid hp3; clear e3a hp3; obtain ⟨u0, u1, u2⟩ := live_q L3a) | (go_at_call 19; (with_reducible refine (KF.out _ ?_ ?_).mono ?_); (· exact blkS_below (B := w.heap.size) (by (repeat' (first | with_reducible exact Below.refl _ _ | with_reducible refine Below.drew ?_ | with_reducible refine below_drewN ?_ _ | with_reducible refine Below.alloc ?_ ?_ _ | with_reducible refine Below.setCell ?_ ?_ _ | with_reducible refine Below.trans ?_ (Below.mono (by with_reducible assumption) ?_) | (simp; done) | (simp; omega) | omega))) (Nat.le_refl _) HL.out); (· exact intS_below (B := w.heap.size) (by (repeat' (first | with_reducible exact Below.refl _ _ | with_reducible refine Below.drew ?_ | with_reducible refine below_drewN ?_ _ | with_reducible refine Below.alloc ?_ ?_ _ | with_reducible refine Below.setCell ?_ ?_ _ | with_reducible refine Below.trans ?_ (Below.mono (by with_reducible assumption) ?_) | (simp; done) | (simp; omega) | omega))) (Nat.le_refl _) HC.out); rintro e w4 ⟨rfl, hb4⟩; have z4 := hb4.size; (try simp at z4); have L4a := live_below hb4 (b := w.heap.size) (by (repeat (first | with_reducible assumption | ((with_reducible apply live_new) <;> (first | with_reducible rfl | (focus (simp; done)))) | with_reducible apply live_alloc | with_reducible apply live_drew | with_reducible apply live_drewN | ((with_reducible apply live_set_other); (case hb => first | omega | (simp; done))) | with_reducible apply live_set_same | (focus (simp; done))))); obtain ⟨p4a, e4a, f4a⟩ := id L4a; clear e4a; obtain ⟨v0, v1, v2⟩ := live_q L4a))
  refine gen_world (fun wx => Live wx w.heap.size #[.slice sl n cl, .slice sc n cc, .int .i64 en] ∧ BlkS wx a3 n gp ∧ Below w.heap.size w wx) ?_ ?_
  · exact ⟨by (repeat (first | with_reducible assumption | ((with_reducible apply live_new) <;> (first | with_reducible rfl | (focus (simp; done)))) | with_reducible apply live_alloc | with_reducible apply live_drew | with_reducible apply live_drewN | ((with_reducible apply live_set_other); (case hb => first | omega | (simp; done))) | with_reducible apply live_set_same | (focus (simp; done)))), blkS_below (w := w3) (B := w3.heap.size) (by (repeat' (first | with_reducible exact Below.refl _ _ | with_reducible refine Below.drew ?_ | with_reducible refine below_drewN ?_ _ | with_reducible refine Below.alloc ?_ ?_ _ | with_reducible refine Below.setCell ?_ ?_ _ | with_reducible refine Below.trans ?_ (Below.mono (by with_reducible assumption) ?_) | (simp; done) | (simp; omega) | omega))) (Nat.le_refl _) HP3.out, by (repeat' (first | with_reducible exact Below.refl _ _ | with_reducible refine Below.drew ?_ | with_reducible refine below_drewN ?_ _ | with_reducible refine Below.alloc ?_ ?_ _ | with_reducible refine Below.setCell ?_ ?_ _ | with_reducible refine Below.trans ?_ (Below.mono (by with_reducible assumption) ?_) | (simp; done) | (simp; omega) | omega))⟩
  clear L p0 q0 q1 q2 hb hb1 z1 L1a p1a f1a r0 r1 r2 hb3 z3 L3a p3a f3a u0 u1 u2 HP3 hb4 z4 L4a p4a f4a v0 v1 v2
  rintro W0 ⟨L, hP, hb0⟩
  have z0 := hb0.size
  have HP := Lib.hid hP
  have HL0 := Lib.hid (blkS_below hb0 (Nat.le_refl _) HL.out)
  have HC0 := Lib.hid (intS_below hb0 (Nat.le_refl _) HC.out)
  clear hP
  have p0 := L.1
  obtain ⟨q0, q1, q2⟩ := live_q L
  go_upto_region 9 with (go_at_call 19; (with_reducible refine (KG.out _ _ _ ?_ ?_).mono ?_); (· exact HP.out); (· exact HC0.out); rintro e w5 ⟨rfl, hb5⟩; have z5 := hb5.size; (try simp at z5); have L5a := live_below hb5 (b := w.heap.size) (by (repeat (first | with_reducible assumption | ((with_reducible apply live_new) <;> (first | with_reducible rfl | (focus (simp; done)))) | with_reducible apply live_alloc | with_reducible apply live_drew | with_reducible apply live_drewN | ((with_reducible apply live_set_other); (case hb => first | omega | (simp; done))) | with_reducible apply live_set_same | (focus (simp; done))))); obtain ⟨p5a, e5a, f5a⟩ := id L5a; clear e5a)
  refine gen_world (fun wx => Live wx w.heap.size #[.slice sl n cl, .slice sc n cc, .int .i64 en] ∧ Below W0.heap.size W0 wx) ?_ ?_
  · exact ⟨by (repeat (first | with_reducible assumption | ((with_reducible apply live_new) <;> (first | with_reducible rfl | (focus (simp; done)))) | with_reducible apply live_alloc | with_reducible apply live_drew | with_reducible apply live_drewN | ((with_reducible apply live_set_other); (case hb => first | omega | (simp; done))) | with_reducible apply live_set_same | (focus (simp; done)))), by (repeat' (first | with_reducible exact Below.refl _ _ | with_reducible refine Below.drew ?_ | with_reducible refine below_drewN ?_ _ | with_reducible refine Below.alloc ?_ ?_ _ | with_reducible refine Below.setCell ?_ ?_ _ | with_reducible refine Below.trans ?_ (Below.mono (by with_reducible assumption) ?_) | (simp; done) | (simp; omega) | omega))⟩
  clear L p0 q0 q1 q2 hb5 z5 L5a p5a f5a
  rintro wx ⟨L, hbW⟩
  go_wp2_with fail
  go_loopw [58] (GRel W0 w.heap.size #[.slice sl n cl, .slice sc n cc, .int .i64 en] n) (fun i _ => n - (intOf i).toNat)
  case atStart => exact ⟨0, rfl, Nat.zero_le _, L, hbW⟩
  case round =>
    obtain ⟨k, rfl, hk, L, hbW⟩ := hrel
    have zW := hbW.size
    have p0 := L.1
    obtain ⟨q0, q1, q2⟩ := live_q L
    by_cases hlt : k < n
    · obtain ⟨ba, oa, rfl, hlta, _⟩ := HP.out (by omega)
      obtain ⟨b, off, rfl, hltb, _⟩ := HL0.out (by omega)
      have j1 : (k : Int) < (n : Int) := by omega
      go_upto_region 13 with (first | ((with_reducible refine wpList_load_in (ty := 24) ba (oa + k * 8) (blkA gp k) ?_ (blkS_rng (blkS_below hbW (Nat.le_refl _) HP.out) k hlt) Try.underlying24 ?_ ?_ ?_); (· rfl); (· rfl); (· kernel_rfl)) | ((with_reducible refine wpList_store_in (ty := 24) wr.heap.size 0 (blkA gp k) ?_ ?_ ?_ ?_ (blkA_one _ _) ?_); (· rfl); (· rfl); (· exact live_there (live_new _ _ rfl) 0 8 (by decide)); (· kernel_rfl)))
      refine gen_world (fun wx => ∃ X, X = wr.heap.size ∧ Live wx X (blkA gp k) ∧ Live wx w.heap.size #[.slice (some ⟨b, off, none⟩) n cl, .slice sc n cc, .int .i64 en] ∧ Below W0.heap.size W0 wx ∧ wr.heap.size ≤ X ∧ w.heap.size < X) ?_ ?_
      · have hbb : Below wr.heap.size wr ((wr.alloc (.cells #[.int .i64 0, .int .i64 0, .int .i64 0, .int .i64 0, .int .i64 0, .int .i64 0, .int .i64 0, .int .i64 0] 24)).setCells wr.heap.size 0 (blkA gp k).toList) := below_setCells (Nat.le_refl _) _ _ _ (by (repeat' (first | with_reducible exact Below.refl _ _ | with_reducible refine Below.drew ?_ | with_reducible refine below_drewN ?_ _ | with_reducible refine Below.alloc ?_ ?_ _ | with_reducible refine Below.setCell ?_ ?_ _ | with_reducible refine Below.trans ?_ (Below.mono (by with_reducible assumption) ?_) | (simp; done) | (simp; omega) | omega)))
        exact ⟨_, rfl, live_whole (live_new _ _ rfl) _ rfl, live_below hbb L, hbW.trans (hbb.mono zW), Nat.le_refl _, L.1⟩
      clear L p0 q0 q1 q2 hbW
      rintro wx ⟨X, hX, LX, L, hbW, hXr, hXQ⟩
      rw [← hX]
      simp only [Act.put]
      clear hX
      have zX := hbW.size
      have hx1 : ba < wx.heap.size := by omega
      have hx2 : b < wx.heap.size := by omega
      have p0 := L.1
      have p1 := LX.1
      obtain ⟨q0, q1, q2⟩ := live_q L
      have x5 := LX.2.1 5
      have x7 := LX.2.1 7
      rw [blkA_at gp k 5 (by omega)] at x5
      rw [blkA_at gp k 7 (by omega)] at x7
      have g5 := blkS_cell (blkS_below hbW (Nat.le_refl _) HL0.out) k 5 hlt (by omega)
      have g7 := blkS_cell (blkS_below hbW (Nat.le_refl _) HL0.out) k 7 hlt (by omega)
      have f0 := LX.2.2
      have HF0 := Lib.hid f0
      clear f0
      have go : ∀ R' : Bool, R = R' → (R' = true → decide (gp k 5 < g k 5) = false ∧ decide (gp k 7 < g k 7) = false) := fun R' e h => by
        have := HR.out (by rw [e, h]) k hlt
        exact ⟨decide_eq_false (by omega), decide_eq_false (by omega)⟩
      have HGO := Lib.hid go
      clear go
      have hneX : w.heap.size ≠ X := by omega
      cases R
      case' true => obtain ⟨b5, b7⟩ := HGO.out true rfl rfl
      all_goals clear HGO
      all_goals go_quiet (fail)
      all_goals go_upto_region 15 with (fail)
      all_goals have f5 := HF0.out 5
      all_goals have f7 := HF0.out 7
      all_goals go_upto_region 17 with (fail)
      all_goals refine gen_world (fun wx => Live wx X (blkA g k) ∧ Live wx w.heap.size #[.slice (some ⟨b, off, none⟩) n cl, .slice sc n cc, .int .i64 en] ∧ Below W0.heap.size W0 wx) ⟨live_conv (live_set_same (live_set_same LX 5 _ (by rw [blkA_size]; omega)) 7 _ (by rw [Array.size_setIfInBounds, blkA_size]; omega)) (HBACK.out k), live_set_other (live_set_other L _ _ _ (Ne.symm hneX)) _ _ _ (Ne.symm hneX), by (repeat' (first | with_reducible exact Below.refl _ _ | with_reducible refine Below.drew ?_ | with_reducible refine below_drewN ?_ _ | with_reducible refine Below.alloc ?_ ?_ _ | with_reducible refine Below.setCell ?_ ?_ _ | with_reducible refine Below.trans ?_ (Below.mono (by with_reducible assumption) ?_) | (simp; done) | (simp; omega) | omega))⟩ ?_
      all_goals clear LX L hbW p0 p1 q0 q1 q2 x5 x7 g5 g7 HF0 f5 f7 zX hx1 hx2
      all_goals rintro wy ⟨LX, L, hbW⟩
      all_goals have zX := hbW.size
      all_goals have hx2 : b < wy.heap.size := by omega
      all_goals have p0 := L.1
      all_goals have p1 := LX.1
      all_goals obtain ⟨q0, q1, q2⟩ := live_q L
      all_goals have lb1 : ∀ w' : World, w'.rangeAt X 0 (blkA g k).toList → (loadB (.pointer (some ⟨X, 0, none⟩))).run Try.prog w' = .ok (.agg (blkA g k)) w' := fun w' h => loadB_run h
      all_goals have lb2 : ∀ w' : World, w'.rangeAt b (off + k * 8) (blkA g k).toList → (loadB (.pointer (some ⟨b, off + k * 8, none⟩))).run Try.prog w' = .ok (.agg (blkA g k)) w' := fun w' h => loadB_run h
      all_goals have hq := blk_neq_g g k
      all_goals go_region_held3 (fun w' => w'.rangeAt X 0 (blkA g k).toList ∧ w'.rangeAt b (off + k * 8) (blkA g k).toList ∧ w'.cell? ⟨w.heap.size, 0, none⟩ = some (.slice (some ⟨b, off, none⟩) n cl)) (first | (focus (((with_reducible apply keep17 HL0.out hlt) <;> (first | (focus ((repeat (first | with_reducible assumption | ((with_reducible apply live_new) <;> (first | with_reducible rfl | (focus (simp; done)))) | with_reducible apply live_alloc | with_reducible apply live_drew | with_reducible apply live_drewN | ((with_reducible apply live_set_other); (case hb => first | omega | (simp; done))) | with_reducible apply live_set_same | (focus (simp; done)))); done)) | (repeat' (first | with_reducible exact Below.refl _ _ | with_reducible refine Below.drew ?_ | with_reducible refine below_drewN ?_ _ | with_reducible refine Below.alloc ?_ ?_ _ | with_reducible refine Below.setCell ?_ ?_ _ | with_reducible refine Below.trans ?_ (Below.mono (by with_reducible assumption) ?_) | (simp; done) | (simp; omega) | omega)))); done)) | go_keep) (fail)
      all_goals go_wp2_with fail
      all_goals go_roundw
      case rel => exact ⟨k + 1, by go_num, by omega, L, by (repeat' (first | with_reducible exact Below.refl _ _ | with_reducible refine Below.drew ?_ | with_reducible refine below_drewN ?_ _ | with_reducible refine Below.alloc ?_ ?_ _ | with_reducible refine Below.setCell ?_ ?_ _ | with_reducible refine Below.trans ?_ (Below.mono (by with_reducible assumption) ?_) | (simp; done) | (simp; omega) | omega))⟩
      case measure => first | (simp [intOf]; done) | (simp [intOf]; omega)
      case rel => exact ⟨k + 1, by go_num, by omega, L, by (repeat' (first | with_reducible exact Below.refl _ _ | with_reducible refine Below.drew ?_ | with_reducible refine below_drewN ?_ _ | with_reducible refine Below.alloc ?_ ?_ _ | with_reducible refine Below.setCell ?_ ?_ _ | with_reducible refine Below.trans ?_ (Below.mono (by with_reducible assumption) ?_) | (simp; done) | (simp; omega) | omega))⟩
      case measure => first | (simp [intOf]; done) | (simp [intOf]; omega)
    · obtain rfl : n = k := by omega
      go_wp2_with (go_at_call 17; refine (law44_awake _).mono ?_; rintro e w9 ⟨rfl, hb9⟩; have z9 := hb9.size; (try simp at z9))
      go_ret
      refine ⟨rfl, ?_⟩
      (repeat' (first | with_reducible exact Below.refl _ _ | with_reducible refine Below.drew ?_ | with_reducible refine below_drewN ?_ _ | with_reducible refine Below.alloc ?_ ?_ _ | with_reducible refine Below.setCell ?_ ?_ _ | with_reducible refine Below.trans ?_ (Below.mono (by with_reducible assumption) ?_) | (simp; done) | (simp; omega) | omega))

theorem walk (g : Nat → Nat → Int) (z : Nat → Int) (en : Int) (sl sc : Option Addr) (n m cl cc : Nat) (w : World) (hg : ∀ k o, I64 (g k o)) (hz : ∀ k, I64 (z k)) (he : I64 en) (hn : n ≤ 9223372036854775807) (hm : m ≤ 9223372036854775807) (hl : BlkS w sl n g) (hc : IntS w sc m z) : Calls Try.prog 6 #[.agg #[.slice sl n cl, .slice sc m cc, .int .i64 en]] w fun e w' => e = .returned (.bool true) ∧ Below w.heap.size w w' := by
  cases h : shB n m
  · exact walk_long sl sc n m cl cc en w hn hm h
  · exact walk_short g z en sl sc n m cl cc w hg hz he hn hm hl hc h

set_option maxRecDepth 100000 in
theorem lifted (os : Os) (started : os.Started) (H : Type) (enc : TypeId × Value → H) :
    ReturnsInHanded {} Try.checked os 6 .any (Rows.aheadGreatestSpec.pre6 enc Try.prog Try.f6 Rows.aheadGreatestRow.domain false) (Rows.aheadGreatestSpec.post enc Try.prog Try.f6 false true false false) := by
  refine returnsInHanded_of_change (C := Try.checked) own started (by kernel_rfl) Try.func6
    (ChangeSpec.witness6 (enc := enc) (C := Try.checked) false ⟨#[], #[.agg #[.slice none 0 0, .slice none 0 0, .int .i64 0]], []⟩ 8 (by kernel_rfl) (by kernel_rfl) (by kernel_rfl) (by kernel_rfl)) ?_
  intro W base args ds gs before hval0 hW _ _
  have hval : ∀ (j : Nat) t v, Try.f6.params[j]? = some t → args[j]? = some v → Value.okWide Try.prog W .any base t v := hval0
  have hW' := hW
  obtain ⟨p, q, hA0, hV, rfl, _, _⟩ := hW
  have hA : DataW.TrodAll enc Try.prog W 0 (fun _ => true) true Try.f6.params.toList args.toList ds p := hA0
  rw [Try.params6] at hA hval
  obtain ⟨v0, d0, rfl, rfl, h0⟩ := trodAll_one hA
  clear hA hA0 hval0
  obtain ⟨sl0, n0, cl0, sc0, m0, cc0, e0, g0, z0, rfl, hn0, hm0, hl0, hc0, hg0, hz0, he0⟩ := queue_open (hval 0 30 v0 rfl rfl) h0
  exact (walk g0 z0 e0 sl0 sc0 n0 m0 cl0 cc0 W hg0 hz0 he0 hn0 hm0 hl0 hc0).mono fun e W' ⟨he, hb⟩ => ⟨_, he, law_post laidOut (by kernel_rfl) rfl (fun _ => rfl) rfl Try.underlying4 hW' hb⟩

theorem holds : Rows.AheadGreatestSaid :=
  OpenClaim.holds_of_wide 6 Try.f6 rfl rfl rfl rfl rfl rfl rfl ⟨rfl, rfl, rfl, rfl, rfl⟩ rfl rfl rfl rfl rfl (by kernel_rfl) Try.func6 (by kernel_rfl)
    (of_decide_eq_true (by kernel_rfl)) (by unfold Func.isWrapper; rw [if_neg (of_decide_eq_false (by kernel_rfl))]; exact ⟨rfl, rfl⟩)
    (fun os started H enc _ => lifted os started H enc)

#print axioms holds
end Go.Proofs.Ytleohgnnbpicjaa.aheadGreatest
