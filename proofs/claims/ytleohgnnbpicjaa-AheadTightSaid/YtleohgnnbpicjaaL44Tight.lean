/- AheadTight: no junction of a plan can be faster -/
import Derived.Deep.DeepCutAuto
import Derived.BigQuiet
import Derived.Deep.QuietTactic
import Derived.IntWalk
import Derived.Deep.RegionHeld3
import Derived.Deep.RegionWith
import Derived.RegionTactic
import Derived.BigRegion
import Derived.Test.YtleohgnnbpicjaaL44Law
import Derived.Test.YtleohgnnbpicjaaL44Awake
import Derived.Test.YtleohgnnbpicjaaAhdLow
namespace Go.Proofs.Ytleohgnnbpicjaa.aheadTight
open Go.ChangeShapes Go.WideShapes Go.ChangeAt Go.RowKit
set_option linter.unusedVariables false

attribute [local go_sem] cell_past1 cell_past2 cell_past3 cell_past4 froz_past1 froz_past2 froz_past3
attribute [local go_sem ↓] loadB_in

def zeroB8 : Array Value := #[.int .i64 0, .int .i64 0, .int .i64 0, .int .i64 0, .int .i64 0, .int .i64 0, .int .i64 0, .int .i64 0]
theorem pln_all {g : Nat → Nat → Int} {z : Nat → Int} {en : Int} {n m : Nat} {w w' : World} {e : Ending} (h : PlnPost g z en n m w e w') (hE : plnE g z en n m = 0) :
    ∃ a cap, e = .returned (.tuple #[.slice a n cap, .int .i64 0]) ∧ BlkS w' a n (plnG g z en n n) ∧ Below w.heap.size w w' := by
  obtain ⟨a, k, cap, he, hk, hkc, hcap, hB, hf, hb⟩ := h
  rw [hE] at he hk
  rw [if_pos rfl] at hk
  subst hk
  exact ⟨a, cap, he, hB, hb⟩
theorem keepT7 {W0 wx : World} {ba oa n : Nat} {g : Nat → Nat → Int} {k : Nat} (hl : BlkS W0 (some ⟨ba, oa, none⟩) n g) (hk1 : 1 ≤ k) (hk : k < n) (hb : Below W0.heap.size W0 wx) :
    wx.rangeAt ba (oa + (k - 1) * 8) (blkA g (k - 1)).toList ∧ wx.rangeAt ba (oa + k * 8) (blkA g k).toList :=
  have hl' := blkS_below hb (Nat.le_refl _) hl
  ⟨blkS_rng hl' _ (by omega), blkS_rng hl' k hk⟩
theorem keep9 {W0 wx : World} {X Y Q b' off' n : Nat} {g : Nat → Nat → Int} {z : Nat → Int} {j k : Nat} {x u : Value} {y : Value} (hz : IntS W0 (some ⟨b', off', none⟩) n z) (hk : k < n) (hb : Below W0.heap.size W0 wx) (LX : Live wx X (blkA g j)) (LY : Live wx Y (blkA g k)) (L : Live wx Q #[x, y, u]) :
    wx.rangeAt X 0 (blkA g j).toList ∧ wx.rangeAt Y 0 (blkA g k).toList ∧ wx.cell? ⟨Q, 1, none⟩ = some y ∧ wx.cell? ⟨b', off' + k, none⟩ = some (.int .i64 (z k)) ∧ wx.cell? ⟨X, 6, none⟩ = some (.int .i64 (g j 6)) ∧ wx.cell? ⟨Y, 6, none⟩ = some (.int .i64 (g k 6)) ∧ wx.cell? ⟨X, 5, none⟩ = some (.int .i64 (g j 5)) ∧ wx.cell? ⟨Y, 7, none⟩ = some (.int .i64 (g k 7)) :=
  ⟨live_rangeAll LX, live_rangeAll LY, L.2.1 1, intS_cell (intS_below hb (Nat.le_refl _) hz) k hk, LX.2.1 6, LY.2.1 6, LX.2.1 5, LY.2.1 7⟩

set_option maxRecDepth 100000 in
set_option maxHeartbeats 8000000 in
theorem walk_long (sl sc : Option Addr) (n m cl cc : Nat) (en : Int) (w : World) (hn : n ≤ 9223372036854775807) (hm : m ≤ 9223372036854775807) (hsh : shB n m = false) :
    Calls Try.prog 7 #[.agg #[.slice sl n cl, .slice sc m cc, .int .i64 en]] w fun e w' => e = .returned (.bool true) ∧ Below w.heap.size w w' := by
  have KS := Lib.hid (fun w => law44_short sl sc n m cl cc en w hn hm)
  rw [hsh] at KS
  clear hsh
  go_enter Try.func7, Try.ntmps7
  go_upto_region 1 with (fail)
  refine gen_world (fun wx => Live wx w.heap.size #[.slice sl n cl, .slice sc m cc, .int .i64 en] ∧ Below w.heap.size w wx) ?_ ?_
  · exact ⟨live_new _ _ rfl, by (repeat' (first | with_reducible exact Below.refl _ _ | with_reducible refine Below.drew ?_ | with_reducible refine below_drewN ?_ _ | with_reducible refine Below.alloc ?_ ?_ _ | with_reducible refine Below.setCell ?_ ?_ _ | with_reducible refine Below.trans ?_ (Below.mono (by with_reducible assumption) ?_) | (simp; done) | (simp; omega) | omega))⟩
  rintro wx ⟨L, hb⟩
  have p0 := L.1
  obtain ⟨q0, q1, q2⟩ := live_q L
  go_wp2_with (first | (go_at_call 18; (with_reducible refine (KS.out _).mono ?_); rintro e w1 ⟨rfl, hb1⟩; have z1 := hb1.size; (try simp at z1); have L1a := live_below hb1 (b := w.heap.size) (by (repeat (first | with_reducible assumption | ((with_reducible apply live_new) <;> (first | with_reducible rfl | (focus (simp; done)))) | with_reducible apply live_alloc | with_reducible apply live_drew | with_reducible apply live_drewN | ((with_reducible apply live_set_other); (case hb => first | omega | (simp; done))) | with_reducible apply live_set_same | (focus (simp; done))))); obtain ⟨p1a, e1a, f1a⟩ := id L1a; clear e1a; obtain ⟨r0, r1, r2⟩ := live_q L1a) | (go_at_call 17; refine (law44_awake _).mono ?_; rintro e w9 ⟨rfl, hb9⟩; have z9 := hb9.size; (try simp at z9)))
  go_ret
  refine ⟨rfl, ?_⟩
  (repeat' (first | with_reducible exact Below.refl _ _ | with_reducible refine Below.drew ?_ | with_reducible refine below_drewN ?_ _ | with_reducible refine Below.alloc ?_ ?_ _ | with_reducible refine Below.setCell ?_ ?_ _ | with_reducible refine Below.trans ?_ (Below.mono (by with_reducible assumption) ?_) | (simp; done) | (simp; omega) | omega))

def TRel (W0 : World) (Q : Nat) (c : Array Value) (n : Nat) (s5 : Value) (wx : World) : Prop := ∃ k : Nat, s5 = .int .i64 k ∧ 1 ≤ k ∧ (0 < n → k ≤ n) ∧ Live wx Q c ∧ Below W0.heap.size W0 wx

set_option maxRecDepth 100000 in
set_option maxHeartbeats 8000000 in
theorem walk_short (g : Nat → Nat → Int) (z : Nat → Int) (en : Int) (sl sc : Option Addr) (n m cl cc : Nat) (w : World) (hg : ∀ k o, I64 (g k o)) (hz : ∀ k, I64 (z k)) (he : I64 en) (hn : n ≤ 9223372036854775807) (hm : m ≤ 9223372036854775807) (hl : BlkS w sl n g) (hc : IntS w sc m z) (hsh : shB n m = true) :
    Calls Try.prog 7 #[.agg #[.slice sl n cl, .slice sc m cc, .int .i64 en]] w fun e w' => e = .returned (.bool true) ∧ Below w.heap.size w w' := by
  have HL := Lib.hid hl
  have HC := Lib.hid hc
  have KS := Lib.hid (fun w => law44_short sl sc n m cl cc en w hn hm)
  have hn40 : n ≤ 40 := by
    unfold shB at hsh
    rw [Bool.and_eq_true] at hsh
    exact of_decide_eq_true hsh.1
  rw [hsh] at KS
  clear hsh hl hc he
  have KP := Lib.hid (fun w hl hc => ahead_plan g z en sl sc n m cl cc w hg hz (by omega) hm hl hc)
  by_cases hE : plnE g z en n m = 0
  case neg =>
    have b1 : (plnE g z en n m == 0) = false := beq_eq_false_iff_ne.2 hE
    have KP' := Lib.hid (fun w hl hc => ((KP.out w hl hc).mono (fun e w' h => pln_open0 h _ rfl (Or.inl hE)) : Calls Try.prog 21 #[.slice sl n cl, .slice sc m cc, .int .i64 en] w fun e w' => ∃ a cap, e = .returned (.tuple #[.slice a 0 cap, .int .i64 (plnE g z en n m)]) ∧ Below w.heap.size w w'))
    generalize plnE g z en n m = E at *
    clear KP hE hg hz
    go_enter Try.func7, Try.ntmps7
    go_upto_region 1 with (fail)
    refine gen_world (fun wx => Live wx w.heap.size #[.slice sl n cl, .slice sc m cc, .int .i64 en] ∧ Below w.heap.size w wx) ?_ ?_
    · exact ⟨live_new _ _ rfl, by (repeat' (first | with_reducible exact Below.refl _ _ | with_reducible refine Below.drew ?_ | with_reducible refine below_drewN ?_ _ | with_reducible refine Below.alloc ?_ ?_ _ | with_reducible refine Below.setCell ?_ ?_ _ | with_reducible refine Below.trans ?_ (Below.mono (by with_reducible assumption) ?_) | (simp; done) | (simp; omega) | omega))⟩
    rintro wx ⟨L, hb⟩
    have p0 := L.1
    obtain ⟨q0, q1, q2⟩ := live_q L
    go_wp2_with (first | (go_at_call 18; (with_reducible refine (KS.out _).mono ?_); rintro e w1 ⟨rfl, hb1⟩; have z1 := hb1.size; (try simp at z1); have L1a := live_below hb1 (b := w.heap.size) (by (repeat (first | with_reducible assumption | ((with_reducible apply live_new) <;> (first | with_reducible rfl | (focus (simp; done)))) | with_reducible apply live_alloc | with_reducible apply live_drew | with_reducible apply live_drewN | ((with_reducible apply live_set_other); (case hb => first | omega | (simp; done))) | with_reducible apply live_set_same | (focus (simp; done))))); obtain ⟨p1a, e1a, f1a⟩ := id L1a; clear e1a; obtain ⟨r0, r1, r2⟩ := live_q L1a) | (go_at_call 21; (with_reducible refine (KP'.out _ ?_ ?_).mono ?_); (· exact blkS_below (B := w.heap.size) (by (repeat' (first | with_reducible exact Below.refl _ _ | with_reducible refine Below.drew ?_ | with_reducible refine below_drewN ?_ _ | with_reducible refine Below.alloc ?_ ?_ _ | with_reducible refine Below.setCell ?_ ?_ _ | with_reducible refine Below.trans ?_ (Below.mono (by with_reducible assumption) ?_) | (simp; done) | (simp; omega) | omega))) (Nat.le_refl _) HL.out); (· exact intS_below (B := w.heap.size) (by (repeat' (first | with_reducible exact Below.refl _ _ | with_reducible refine Below.drew ?_ | with_reducible refine below_drewN ?_ _ | with_reducible refine Below.alloc ?_ ?_ _ | with_reducible refine Below.setCell ?_ ?_ _ | with_reducible refine Below.trans ?_ (Below.mono (by with_reducible assumption) ?_) | (simp; done) | (simp; omega) | omega))) (Nat.le_refl _) HC.out); rintro e w3 ⟨a3, cap3, rfl, hb3⟩; have z3 := hb3.size; (try simp at z3); have L3a := live_below hb3 (b := w.heap.size) (by (repeat (first | with_reducible assumption | ((with_reducible apply live_new) <;> (first | with_reducible rfl | (focus (simp; done)))) | with_reducible apply live_alloc | with_reducible apply live_drew | with_reducible apply live_drewN | ((with_reducible apply live_set_other); (case hb => first | omega | (simp; done))) | with_reducible apply live_set_same | (focus (simp; done))))); obtain ⟨p3a, e3a, f3a⟩ := id L3a; clear e3a; obtain ⟨u0, u1, u2⟩ := live_q L3a) | (go_at_call 17; refine (law44_awake _).mono ?_; rintro e w9 ⟨rfl, hb9⟩; have z9 := hb9.size; (try simp at z9)))
    refine wp_loop_rounds 1 ?_
    rw [rounds_succ]
    go_wp2_with (go_at_call 17; refine (law44_awake _).mono ?_; rintro e w9 ⟨rfl, hb9⟩; have z9 := hb9.size; (try simp at z9))
    go_ret
    refine ⟨rfl, ?_⟩
    (repeat' (first | with_reducible exact Below.refl _ _ | with_reducible refine Below.drew ?_ | with_reducible refine below_drewN ?_ _ | with_reducible refine Below.alloc ?_ ?_ _ | with_reducible refine Below.setCell ?_ ?_ _ | with_reducible refine Below.trans ?_ (Below.mono (by with_reducible assumption) ?_) | (simp; done) | (simp; omega) | omega))
  obtain ⟨hnm, hsnd, hpz⟩ := pln_zero g z en n m hE
  subst hnm
  have KP' := Lib.hid (fun w hl hc => ((KP.out w hl hc).mono (fun e w' h => pln_all h hE) : Calls Try.prog 21 #[.slice sl n cl, .slice sc n cc, .int .i64 en] w fun e w' => ∃ a cap, e = .returned (.tuple #[.slice a n cap, .int .i64 0]) ∧ BlkS w' a n (plnG g z en n n) ∧ Below w.heap.size w w'))
  have hT : ∀ k, 1 ≤ k → k < n → (plnG g z en n n k 5 = z k ∨ plnG g z en n n k 5 = plnG g z en n n (k - 1) 6 ∨ plnG g z en n n k 5 = plnG g z en n n k 6 ∨ plnG g z en n n k 5 = plnG g z en n n (k - 1) 5 + rch (plnG g z en n n) (k - 1) ∨ plnG g z en n n k 5 = plnG g z en n n k 7 + rch (plnG g z en n n) k) := fun k h1 hk => by
    obtain ⟨p5, p7⟩ := plnG_57 g z en n n k hk
    obtain ⟨r5, r7⟩ := plnG_57 g z en n n (k - 1) (by omega)
    obtain ⟨_, s2, s3⟩ := plnG_snd g z en n n k
    obtain ⟨_, t2, t3⟩ := plnG_snd g z en n n (k - 1)
    rw [p5, p7, r5, s2, s3, t2, t3]
    exact grt_tight g z en n k h1 hk hsnd
  have hB : ∀ k, k < n → bsnd (plnG g z en n n) k = true ∧ 0 ≤ plnG g z en n n k 5 ∧ plnG g z en n n k 5 ≤ 1099511627776 ∧ 0 ≤ plnG g z en n n k 7 ∧ plnG g z en n n k 7 ≤ 1099511627776 := fun k hk => by
    have hf := plan_feas g z en n n hE
    have h1 := bval_in _ k (fst1_open _ z en k ((feas_open _ z en n n hf).2.1 k hk)).1
    have h2 := (bsnd_in _ k h1.1).2.1
    refine ⟨h1.1, by omega, by omega, by omega, by omega⟩
  have HT := Lib.hid hT
  have HB := Lib.hid hB
  have hnn : ((n : Int) == (n : Int)) = true := by simp
  clear KP hE hsnd hpz hT hB hg hz
  generalize plnG g z en n n = gp at *
  go_enter Try.func7, Try.ntmps7
  go_upto_region 1 with (fail)
  refine gen_world (fun wx => Live wx w.heap.size #[.slice sl n cl, .slice sc n cc, .int .i64 en] ∧ Below w.heap.size w wx) ?_ ?_
  · exact ⟨live_new _ _ rfl, by (repeat' (first | with_reducible exact Below.refl _ _ | with_reducible refine Below.drew ?_ | with_reducible refine below_drewN ?_ _ | with_reducible refine Below.alloc ?_ ?_ _ | with_reducible refine Below.setCell ?_ ?_ _ | with_reducible refine Below.trans ?_ (Below.mono (by with_reducible assumption) ?_) | (simp; done) | (simp; omega) | omega))⟩
  rintro wx ⟨L, hb⟩
  have p0 := L.1
  obtain ⟨q0, q1, q2⟩ := live_q L
  go_upto_region 4 with (first | (go_at_call 18; (with_reducible refine (KS.out _).mono ?_); rintro e w1 ⟨rfl, hb1⟩; have z1 := hb1.size; (try simp at z1); have L1a := live_below hb1 (b := w.heap.size) (by (repeat (first | with_reducible assumption | ((with_reducible apply live_new) <;> (first | with_reducible rfl | (focus (simp; done)))) | with_reducible apply live_alloc | with_reducible apply live_drew | with_reducible apply live_drewN | ((with_reducible apply live_set_other); (case hb => first | omega | (simp; done))) | with_reducible apply live_set_same | (focus (simp; done))))); obtain ⟨p1a, e1a, f1a⟩ := id L1a; clear e1a; obtain ⟨r0, r1, r2⟩ := live_q L1a) | (go_at_call 21; (with_reducible refine (KP'.out _ ?_ ?_).mono ?_); (· exact blkS_below (B := w.heap.size) (by (repeat' (first | with_reducible exact Below.refl _ _ | with_reducible refine Below.drew ?_ | with_reducible refine below_drewN ?_ _ | with_reducible refine Below.alloc ?_ ?_ _ | with_reducible refine Below.setCell ?_ ?_ _ | with_reducible refine Below.trans ?_ (Below.mono (by with_reducible assumption) ?_) | (simp; done) | (simp; omega) | omega))) (Nat.le_refl _) HL.out); (· exact intS_below (B := w.heap.size) (by (repeat' (first | with_reducible exact Below.refl _ _ | with_reducible refine Below.drew ?_ | with_reducible refine below_drewN ?_ _ | with_reducible refine Below.alloc ?_ ?_ _ | with_reducible refine Below.setCell ?_ ?_ _ | with_reducible refine Below.trans ?_ (Below.mono (by with_reducible assumption) ?_) | (simp; done) | (simp; omega) | omega))) (Nat.le_refl _) HC.out); rintro e w3 ⟨a3, cap3, rfl, hp3, hb3⟩; have z3 := hb3.size; (try simp at z3); have L3a := live_below hb3 (b := w.heap.size) (by (repeat (first | with_reducible assumption | ((with_reducible apply live_new) <;> (first | with_reducible rfl | (focus (simp; done)))) | with_reducible apply live_alloc | with_reducible apply live_drew | with_reducible apply live_drewN | ((with_reducible apply live_set_other); (case hb => first | omega | (simp; done))) | with_reducible apply live_set_same | (focus (simp; done))))); obtain ⟨p3a, e3a, f3a⟩ := id L3a; have HP3 := Lib.hid hp3; clear e3a hp3; obtain ⟨u0, u1, u2⟩ := live_q L3a))
  refine gen_world (fun wx => Live wx w.heap.size #[.slice sl n cl, .slice sc n cc, .int .i64 en] ∧ BlkS wx a3 n gp ∧ Below w.heap.size w wx) ?_ ?_
  · exact ⟨by (repeat (first | with_reducible assumption | ((with_reducible apply live_new) <;> (first | with_reducible rfl | (focus (simp; done)))) | with_reducible apply live_alloc | with_reducible apply live_drew | with_reducible apply live_drewN | ((with_reducible apply live_set_other); (case hb => first | omega | (simp; done))) | with_reducible apply live_set_same | (focus (simp; done)))), blkS_below (w := w3) (B := w3.heap.size) (by (repeat' (first | with_reducible exact Below.refl _ _ | with_reducible refine Below.drew ?_ | with_reducible refine below_drewN ?_ _ | with_reducible refine Below.alloc ?_ ?_ _ | with_reducible refine Below.setCell ?_ ?_ _ | with_reducible refine Below.trans ?_ (Below.mono (by with_reducible assumption) ?_) | (simp; done) | (simp; omega) | omega))) (Nat.le_refl _) HP3.out, by (repeat' (first | with_reducible exact Below.refl _ _ | with_reducible refine Below.drew ?_ | with_reducible refine below_drewN ?_ _ | with_reducible refine Below.alloc ?_ ?_ _ | with_reducible refine Below.setCell ?_ ?_ _ | with_reducible refine Below.trans ?_ (Below.mono (by with_reducible assumption) ?_) | (simp; done) | (simp; omega) | omega))⟩
  clear L p0 q0 q1 q2 hb hb1 z1 L1a p1a f1a r0 r1 r2 hb3 z3 L3a p3a f3a u0 u1 u2 HP3
  rintro W0 ⟨L, hP, hb0⟩
  have z0 := hb0.size
  have HP := Lib.hid hP
  have HC0 := Lib.hid (intS_below hb0 (Nat.le_refl _) HC.out)
  clear hP
  go_wp2_with fail
  go_loopw [5] (TRel W0 w.heap.size #[.slice sl n cl, .slice sc n cc, .int .i64 en] n) (fun i _ => n - (intOf i).toNat)
  case atStart => exact ⟨1, rfl, by omega, fun h => by omega, L, Below.refl _ _⟩
  case round =>
    obtain ⟨k, rfl, hk1, hk, L, hbW⟩ := hrel
    have zW := hbW.size
    have p0 := L.1
    obtain ⟨q0, q1, q2⟩ := live_q L
    by_cases hlt : k < n
    · obtain ⟨ba, oa, rfl, hlta, _⟩ := HP.out (by omega)
      obtain ⟨b', off', rfl, hltb, _⟩ := HC0.out (by omega)
      have j0 : decide ((k : Int) < (n : Int)) = true := by simp; omega
      have j1 : (k : Int) < (n : Int) := by omega
      have i3 : IntKind.i64.wrap ((k : Int) - 1) = (k : Int) - 1 := IntWalk.i64_in _ (by omega)
      have i4 : ((k : Int) - 1).toNat = k - 1 := by omega
      have i5 : 0 ≤ (k : Int) - 1 := by omega
      have i5' : (1 : Int) ≤ (k : Int) := by omega
      have i6 : (k : Int) - 1 < (n : Int) := by omega
      have i6' : (k : Int) ≤ (n : Int) := by omega
      have hx1 : ba < wr.heap.size := by omega
      have lb1 : ∀ w' : World, w'.rangeAt ba (oa + (k - 1) * 8) (blkA gp (k - 1)).toList → (loadB (.pointer (some ⟨ba, oa + (k - 1) * 8, none⟩))).run Try.prog w' = .ok (.agg (blkA gp (k - 1))) w' := fun w' h => loadB_run h
      have lb2 : ∀ w' : World, w'.rangeAt ba (oa + k * 8) (blkA gp k).toList → (loadB (.pointer (some ⟨ba, oa + k * 8, none⟩))).run Try.prog w' = .ok (.agg (blkA gp k)) w' := fun w' h => loadB_run h
      go_upto_region 7 with (fail)
      go_cut [6, 7] (fun s6 s7 wx => ∃ X Y : Nat, s6 = .pointer (some ⟨X, 0, none⟩) ∧ s7 = .pointer (some ⟨Y, 0, none⟩) ∧ X ≠ Y ∧ Live wx X (blkA gp (k - 1)) ∧ Live wx Y (blkA gp k) ∧ Live wx w.heap.size #[.slice sl n cl, .slice (some ⟨b', off', none⟩) n cc, .int .i64 en] ∧ Below W0.heap.size W0 wx ∧ W0.heap.size ≤ X ∧ W0.heap.size ≤ Y ∧ w.heap.size < X ∧ w.heap.size < Y)
      case first =>
        refine wp_region_noPanic ?_
        refine wp_region_held_drew (S := (fun w' => w'.rangeAt ba (oa + (k - 1) * 8) (blkA gp (k - 1)).toList ∧ w'.rangeAt ba (oa + k * 8) (blkA gp k).toList)) (by kernel_rfl) ?_ (fun hHeld => ?_)
        · (try dsimp only); (focus (((with_reducible apply keepT7 HP.out hk1 hlt) <;> (repeat' (first | with_reducible refine below_setCells (by omega) _ _ _ ?_ | with_reducible exact Below.refl _ _ | with_reducible refine Below.drew ?_ | with_reducible refine below_drewN ?_ _ | with_reducible refine Below.alloc ?_ ?_ _ | with_reducible refine Below.setCell ?_ ?_ _ | with_reducible refine Below.trans ?_ (Below.mono (by with_reducible assumption) ?_) | (simp; done) | (simp; omega) | omega))); done))
        refine wpAnyH_take (i := 0) (oi := ?z1oi) (v := ?z1v) ?z1hi (by kernel_rfl) (by kernel_rfl) (by kernel_rfl) (fun _ _ _ h => h) (Or.inl ⟨?z1hw, ?z1hy⟩) hHeld ?z1rest
        case z1hi => (simp only [List.getElem?_toArray, List.getElem?_cons_zero]; exact rfl)
        case z1hw => rfl
        case z1hy => (intro w hSw; (try dsimp only at hSw); go_simp; (try with_reducible rfl))
        (try simp only [Act.put, List.setIfInBounds_toArray, List.set_cons_zero, List.set_cons_succ])
        refine wpAnyH_take (i := 1) (oi := ?z2oi) (v := ?z2v) ?z2hi (by kernel_rfl) (by kernel_rfl) (by kernel_rfl) (fun _ _ _ h => h) (Or.inl ⟨?z2hw, ?z2hy⟩) hHeld ?z2rest
        case z2hi => (simp only [List.getElem?_toArray, List.getElem?_cons_succ, List.getElem?_cons_zero]; exact rfl)
        case z2hw => rfl
        case z2hy => (intro w hSw; (try dsimp only at hSw); go_simp; (try with_reducible rfl))
        (try simp only [Act.put, List.setIfInBounds_toArray, List.set_cons_zero, List.set_cons_succ])
        refine wpAnyH_take (i := 2) (oi := ?z3oi) (v := ?z3v) ?z3hi (by kernel_rfl) (by kernel_rfl) (by kernel_rfl) (fun _ _ _ h => h) (Or.inl ⟨?z3hw, ?z3hy⟩) hHeld ?z3rest
        case z3hi => (simp only [List.getElem?_toArray, List.getElem?_cons_succ, List.getElem?_cons_zero]; exact rfl)
        case z3hw => rfl
        case z3hy => (intro w hSw; (try dsimp only at hSw); go_simp; (try with_reducible rfl))
        (try simp only [Act.put, List.setIfInBounds_toArray, List.set_cons_zero, List.set_cons_succ])
        refine wpAnyH_take (i := 3) (oi := ?z4oi) (v := ?z4v) ?z4hi (by kernel_rfl) (by kernel_rfl) (by kernel_rfl) (fun _ _ _ h => h) (Or.inl ⟨?z4hw, ?z4hy⟩) hHeld ?z4rest
        case z4hi => (simp only [List.getElem?_toArray, List.getElem?_cons_succ, List.getElem?_cons_zero]; exact rfl)
        case z4hw => rfl
        case z4hy => (intro w hSw; (try dsimp only at hSw); go_simp; (try with_reducible rfl))
        (try simp only [Act.put, List.setIfInBounds_toArray, List.set_cons_zero, List.set_cons_succ])
        refine wpAnyH_take (i := 4) (oi := ?z5oi) (v := ?z5v) ?z5hi (by kernel_rfl) (by kernel_rfl) (by kernel_rfl) (fun _ _ _ h => h) (Or.inl ⟨?z5hw, ?z5hy⟩) hHeld ?z5rest
        case z5hi => (simp only [List.getElem?_toArray, List.getElem?_cons_succ, List.getElem?_cons_zero]; exact rfl)
        case z5hw => rfl
        case z5hy => (intro w hSw; (try dsimp only at hSw); go_simp; (try with_reducible rfl))
        (try simp only [Act.put, List.setIfInBounds_toArray, List.set_cons_zero, List.set_cons_succ])
        refine wpAnyH_take (i := 5) (oi := ?z6oi) (v := ?z6v) ?z6hi (by kernel_rfl) (by kernel_rfl) (by kernel_rfl) (fun _ _ _ h => h) (Or.inl ⟨?z6hw, ?z6hy⟩) hHeld ?z6rest
        case z6hi => (simp only [List.getElem?_toArray, List.getElem?_cons_succ, List.getElem?_cons_zero]; exact rfl)
        case z6hw => rfl
        case z6hy => (intro w hSw; (try dsimp only at hSw); go_simp; (try with_reducible rfl))
        (try simp only [Act.put, List.setIfInBounds_toArray, List.set_cons_zero, List.set_cons_succ])
        refine wpAnyH_take (i := 6) (oi := ?z7oi) (v := ?z7v) ?z7hi (by kernel_rfl) (by kernel_rfl) (by kernel_rfl) (fun _ _ _ h => h) (Or.inl ⟨?z7hw, ?z7hy⟩) hHeld ?z7rest
        case z7hi => (simp only [List.getElem?_toArray, List.getElem?_cons_succ, List.getElem?_cons_zero]; exact rfl)
        case z7hw => rfl
        case z7hy => (intro w hSw; (try dsimp only at hSw); go_simp; (try with_reducible rfl))
        (try simp only [Act.put, List.setIfInBounds_toArray, List.set_cons_zero, List.set_cons_succ])
        refine wpAnyH_take (i := 7) (oi := ?z8oi) (v := ?z8v) ?z8hi (by kernel_rfl) (by kernel_rfl) (by kernel_rfl) (fun _ _ _ h => h) (Or.inl ⟨?z8hw, ?z8hy⟩) hHeld ?z8rest
        case z8hi => (simp only [List.getElem?_toArray, List.getElem?_cons_succ, List.getElem?_cons_zero]; exact rfl)
        case z8hw => rfl
        case z8hy => (intro w hSw; (try dsimp only at hSw); go_simp; (try with_reducible rfl))
        (try simp only [Act.put, List.setIfInBounds_toArray, List.set_cons_zero, List.set_cons_succ])
        refine wpAnyH_take (i := 8) (oi := ?z9oi) (v := ?z9v) ?z9hi (by kernel_rfl) (by kernel_rfl) (by kernel_rfl) (fun _ _ _ h => h) (Or.inl ⟨?z9hw, ?z9hy⟩) hHeld ?z9rest
        case z9hi => (simp only [List.getElem?_toArray, List.getElem?_cons_succ, List.getElem?_cons_zero]; exact rfl)
        case z9hw => rfl
        case z9hy => (intro w hSw; (try dsimp only at hSw); go_simp; (try with_reducible rfl))
        (try simp only [Act.put, List.setIfInBounds_toArray, List.set_cons_zero, List.set_cons_succ])
        refine wpAnyH_ready (rs := [9, 10]) (by kernel_rfl) (by simp) ?_
        refine AllReadyH.cons (o := ?z10oi) ?z10hi (fun K hK => ?_) ?_
        case z10hi => (simp only [List.getElem?_toArray, List.getElem?_cons_succ, List.getElem?_cons_zero]; exact rfl)
        · go_simp
          skip
          refine hK.out _ _ ?_ (fun hHeld => ?_)
          · (try dsimp only); (focus (((with_reducible apply keepT7 HP.out hk1 hlt) <;> (repeat' (first | with_reducible refine below_setCells (by omega) _ _ _ ?_ | with_reducible exact Below.refl _ _ | with_reducible refine Below.drew ?_ | with_reducible refine below_drewN ?_ _ | with_reducible refine Below.alloc ?_ ?_ _ | with_reducible refine Below.setCell ?_ ?_ _ | with_reducible refine Below.trans ?_ (Below.mono (by with_reducible assumption) ?_) | (simp; done) | (simp; omega) | omega))); done))
          clear hK K
          (try simp only [Act.put, List.setIfInBounds_toArray, List.set_cons_zero, List.set_cons_succ])
          refine gen_world (fun wx => (wx.rangeAt ba (oa + (k - 1) * 8) (blkA gp (k - 1)).toList ∧ wx.rangeAt ba (oa + k * 8) (blkA gp k).toList) ∧ Live wx wr.heap.size zeroB8 ∧ Live wx w.heap.size #[.slice sl n cl, .slice (some ⟨b', off', none⟩) n cc, .int .i64 en] ∧ wx.heap.size = wr.heap.size + 1 ∧ Below W0.heap.size W0 wx) ⟨hHeld, live_new _ _ rfl, live_alloc L _, by simp, by (repeat' (first | with_reducible refine below_setCells (by omega) _ _ _ ?_ | with_reducible exact Below.refl _ _ | with_reducible refine Below.drew ?_ | with_reducible refine below_drewN ?_ _ | with_reducible refine Below.alloc ?_ ?_ _ | with_reducible refine Below.setCell ?_ ?_ _ | with_reducible refine Below.trans ?_ (Below.mono (by with_reducible assumption) ?_) | (simp; done) | (simp; omega) | omega))⟩ ?_
          clear hHeld
          rintro wa ⟨hHeld, Lx1, Lq1, zx1, hbwa⟩
          refine wpAnyH_ready (rs := [10]) (by kernel_rfl) (by simp) ?_
          refine AllReadyH.cons (o := ?z11oi) ?z11hi (fun K hK => ?_) AllReadyH.nil
          case z11hi => (simp only [List.getElem?_toArray, List.getElem?_cons_succ, List.getElem?_cons_zero]; exact rfl)
          go_simp
          skip
          refine hK.out _ _ ?_ (fun hHeld => ?_)
          · (try dsimp only); (focus (((with_reducible apply keepT7 HP.out hk1 hlt) <;> (repeat' (first | with_reducible refine below_setCells (by omega) _ _ _ ?_ | with_reducible exact Below.refl _ _ | with_reducible refine Below.drew ?_ | with_reducible refine below_drewN ?_ _ | with_reducible refine Below.alloc ?_ ?_ _ | with_reducible refine Below.setCell ?_ ?_ _ | with_reducible refine Below.trans ?_ (Below.mono (by with_reducible assumption) ?_) | (simp; done) | (simp; omega) | omega))); done))
          clear hK K
          (try simp only [Act.put, List.setIfInBounds_toArray, List.set_cons_zero, List.set_cons_succ])
          refine gen_world (fun wx => (wx.rangeAt ba (oa + (k - 1) * 8) (blkA gp (k - 1)).toList ∧ wx.rangeAt ba (oa + k * 8) (blkA gp k).toList) ∧ Live wx wr.heap.size zeroB8 ∧ Live wx (wr.heap.size + 1) zeroB8 ∧ Live wx w.heap.size #[.slice sl n cl, .slice (some ⟨b', off', none⟩) n cc, .int .i64 en] ∧ Below W0.heap.size W0 wx) ⟨hHeld, live_alloc Lx1 _, live_new _ _ zx1, live_alloc Lq1 _, by (repeat' (first | with_reducible refine below_setCells (by omega) _ _ _ ?_ | with_reducible exact Below.refl _ _ | with_reducible refine Below.drew ?_ | with_reducible refine below_drewN ?_ _ | with_reducible refine Below.alloc ?_ ?_ _ | with_reducible refine Below.setCell ?_ ?_ _ | with_reducible refine Below.trans ?_ (Below.mono (by with_reducible assumption) ?_) | (simp; done) | (simp; omega) | omega))⟩ ?_
          clear hHeld
          rintro wb ⟨hHeld, Lx2, Ly2, Lq2, hbwb⟩
          refine wpAnyH_ready (rs := [11]) (by kernel_rfl) (by simp) ?_
          refine AllReadyH.cons (o := ?z12oi) ?z12hi (fun K hK => ?_) AllReadyH.nil
          case z12hi => (simp only [List.getElem?_toArray, List.getElem?_cons_succ, List.getElem?_cons_zero]; exact rfl)
          (rw [if_pos (by rfl)]; refine wp_store_mid _ _ _ rfl (wr.heap.size) 0 (blkA gp (k - 1)) rfl rfl ?_ ?_ (blkA_one _ _) ?_; (· exact live_there (Lx2) 0 8 (by decide)); (· kernel_rfl))
          refine hK.out _ _ ?_ (fun hHeld => ?_)
          · (try dsimp only); (focus (((with_reducible apply keepT7 HP.out hk1 hlt) <;> (repeat' (first | with_reducible refine below_setCells (by omega) _ _ _ ?_ | with_reducible exact Below.refl _ _ | with_reducible refine Below.drew ?_ | with_reducible refine below_drewN ?_ _ | with_reducible refine Below.alloc ?_ ?_ _ | with_reducible refine Below.setCell ?_ ?_ _ | with_reducible refine Below.trans ?_ (Below.mono (by with_reducible assumption) ?_) | (simp; done) | (simp; omega) | omega))); done))
          clear hK K
          refine gen_world (fun wx => (wx.rangeAt ba (oa + (k - 1) * 8) (blkA gp (k - 1)).toList ∧ wx.rangeAt ba (oa + k * 8) (blkA gp k).toList) ∧ Live wx wr.heap.size (blkA gp (k - 1)) ∧ Live wx (wr.heap.size + 1) zeroB8 ∧ Live wx w.heap.size #[.slice sl n cl, .slice (some ⟨b', off', none⟩) n cc, .int .i64 en] ∧ Below W0.heap.size W0 wx) ⟨hHeld, live_whole Lx2 _ rfl, live_cells_other Ly2 _ _ (by omega), live_cells_other Lq2 _ _ (by omega), by (repeat' (first | with_reducible refine below_setCells (by omega) _ _ _ ?_ | with_reducible exact Below.refl _ _ | with_reducible refine Below.drew ?_ | with_reducible refine below_drewN ?_ _ | with_reducible refine Below.alloc ?_ ?_ _ | with_reducible refine Below.setCell ?_ ?_ _ | with_reducible refine Below.trans ?_ (Below.mono (by with_reducible assumption) ?_) | (simp; done) | (simp; omega) | omega))⟩ ?_
          clear hHeld
          rintro wc ⟨hHeld, Lx3, Ly3, Lq3, hbwc⟩
          refine wpAnyH_ready (rs := [12]) (by kernel_rfl) (by simp) ?_
          refine AllReadyH.cons (o := ?z13oi) ?z13hi (fun K hK => ?_) AllReadyH.nil
          case z13hi => (simp only [List.getElem?_toArray, List.getElem?_cons_succ, List.getElem?_cons_zero]; exact rfl)
          (rw [if_pos (by rfl)]; refine wp_store_mid _ _ _ rfl (wr.heap.size + 1) 0 (blkA gp k) rfl rfl ?_ ?_ (blkA_one _ _) ?_; (· exact live_there (Ly3) 0 8 (by decide)); (· kernel_rfl))
          refine hK.out _ _ ?_ (fun hHeld => ?_)
          · (try dsimp only); (focus (((with_reducible apply keepT7 HP.out hk1 hlt) <;> (repeat' (first | with_reducible refine below_setCells (by omega) _ _ _ ?_ | with_reducible exact Below.refl _ _ | with_reducible refine Below.drew ?_ | with_reducible refine below_drewN ?_ _ | with_reducible refine Below.alloc ?_ ?_ _ | with_reducible refine Below.setCell ?_ ?_ _ | with_reducible refine Below.trans ?_ (Below.mono (by with_reducible assumption) ?_) | (simp; done) | (simp; omega) | omega))); done))
          clear hK K
          refine gen_world (fun wx => (wx.rangeAt ba (oa + (k - 1) * 8) (blkA gp (k - 1)).toList ∧ wx.rangeAt ba (oa + k * 8) (blkA gp k).toList) ∧ Live wx wr.heap.size (blkA gp (k - 1)) ∧ Live wx (wr.heap.size + 1) (blkA gp k) ∧ Live wx w.heap.size #[.slice sl n cl, .slice (some ⟨b', off', none⟩) n cc, .int .i64 en] ∧ Below W0.heap.size W0 wx) ⟨hHeld, live_cells_other Lx3 _ _ (by omega), live_whole Ly3 _ rfl, live_cells_other Lq3 _ _ (by omega), by (repeat' (first | with_reducible refine below_setCells (by omega) _ _ _ ?_ | with_reducible exact Below.refl _ _ | with_reducible refine Below.drew ?_ | with_reducible refine below_drewN ?_ _ | with_reducible refine Below.alloc ?_ ?_ _ | with_reducible refine Below.setCell ?_ ?_ _ | with_reducible refine Below.trans ?_ (Below.mono (by with_reducible assumption) ?_) | (simp; done) | (simp; omega) | omega))⟩ ?_
          clear hHeld
          rintro wd ⟨hHeld, Lx4, Ly4, Lq4, hbwd⟩
          refine wpAnyH_done (by kernel_rfl) ?_ _
          refine NoPanic.normal ?_
          (try go_wp2_with fail)
          go_meet
          exact ⟨wr.heap.size, wr.heap.size + 1, rfl, rfl, by omega, Lx4, Ly4, Lq4, hbwd, by omega, by omega, by omega, by omega⟩
        refine AllReadyH.cons (o := ?z14oi) ?z14hi (fun K hK => ?_) AllReadyH.nil
        case z14hi => (simp only [List.getElem?_toArray, List.getElem?_cons_succ, List.getElem?_cons_zero]; exact rfl)
        go_simp
        skip
        refine hK.out _ _ ?_ (fun hHeld => ?_)
        · (try dsimp only); (focus (((with_reducible apply keepT7 HP.out hk1 hlt) <;> (repeat' (first | with_reducible refine below_setCells (by omega) _ _ _ ?_ | with_reducible exact Below.refl _ _ | with_reducible refine Below.drew ?_ | with_reducible refine below_drewN ?_ _ | with_reducible refine Below.alloc ?_ ?_ _ | with_reducible refine Below.setCell ?_ ?_ _ | with_reducible refine Below.trans ?_ (Below.mono (by with_reducible assumption) ?_) | (simp; done) | (simp; omega) | omega))); done))
        clear hK K
        (try simp only [Act.put, List.setIfInBounds_toArray, List.set_cons_zero, List.set_cons_succ])
        refine gen_world (fun wx => (wx.rangeAt ba (oa + (k - 1) * 8) (blkA gp (k - 1)).toList ∧ wx.rangeAt ba (oa + k * 8) (blkA gp k).toList) ∧ Live wx wr.heap.size zeroB8 ∧ Live wx w.heap.size #[.slice sl n cl, .slice (some ⟨b', off', none⟩) n cc, .int .i64 en] ∧ wx.heap.size = wr.heap.size + 1 ∧ Below W0.heap.size W0 wx) ⟨hHeld, live_new _ _ rfl, live_alloc L _, by simp, by (repeat' (first | with_reducible refine below_setCells (by omega) _ _ _ ?_ | with_reducible exact Below.refl _ _ | with_reducible refine Below.drew ?_ | with_reducible refine below_drewN ?_ _ | with_reducible refine Below.alloc ?_ ?_ _ | with_reducible refine Below.setCell ?_ ?_ _ | with_reducible refine Below.trans ?_ (Below.mono (by with_reducible assumption) ?_) | (simp; done) | (simp; omega) | omega))⟩ ?_
        clear hHeld
        rintro wa ⟨hHeld, Lx1, Lq1, zx1, hbwa⟩
        refine wpAnyH_ready (rs := [9]) (by kernel_rfl) (by simp) ?_
        refine AllReadyH.cons (o := ?z15oi) ?z15hi (fun K hK => ?_) AllReadyH.nil
        case z15hi => (simp only [List.getElem?_toArray, List.getElem?_cons_succ, List.getElem?_cons_zero]; exact rfl)
        go_simp
        skip
        refine hK.out _ _ ?_ (fun hHeld => ?_)
        · (try dsimp only); (focus (((with_reducible apply keepT7 HP.out hk1 hlt) <;> (repeat' (first | with_reducible refine below_setCells (by omega) _ _ _ ?_ | with_reducible exact Below.refl _ _ | with_reducible refine Below.drew ?_ | with_reducible refine below_drewN ?_ _ | with_reducible refine Below.alloc ?_ ?_ _ | with_reducible refine Below.setCell ?_ ?_ _ | with_reducible refine Below.trans ?_ (Below.mono (by with_reducible assumption) ?_) | (simp; done) | (simp; omega) | omega))); done))
        clear hK K
        (try simp only [Act.put, List.setIfInBounds_toArray, List.set_cons_zero, List.set_cons_succ])
        refine gen_world (fun wx => (wx.rangeAt ba (oa + (k - 1) * 8) (blkA gp (k - 1)).toList ∧ wx.rangeAt ba (oa + k * 8) (blkA gp k).toList) ∧ Live wx wr.heap.size zeroB8 ∧ Live wx (wr.heap.size + 1) zeroB8 ∧ Live wx w.heap.size #[.slice sl n cl, .slice (some ⟨b', off', none⟩) n cc, .int .i64 en] ∧ Below W0.heap.size W0 wx) ⟨hHeld, live_alloc Lx1 _, live_new _ _ zx1, live_alloc Lq1 _, by (repeat' (first | with_reducible refine below_setCells (by omega) _ _ _ ?_ | with_reducible exact Below.refl _ _ | with_reducible refine Below.drew ?_ | with_reducible refine below_drewN ?_ _ | with_reducible refine Below.alloc ?_ ?_ _ | with_reducible refine Below.setCell ?_ ?_ _ | with_reducible refine Below.trans ?_ (Below.mono (by with_reducible assumption) ?_) | (simp; done) | (simp; omega) | omega))⟩ ?_
        clear hHeld
        rintro wb ⟨hHeld, Lx2, Ly2, Lq2, hbwb⟩
        refine wpAnyH_ready (rs := [11]) (by kernel_rfl) (by simp) ?_
        refine AllReadyH.cons (o := ?z16oi) ?z16hi (fun K hK => ?_) AllReadyH.nil
        case z16hi => (simp only [List.getElem?_toArray, List.getElem?_cons_succ, List.getElem?_cons_zero]; exact rfl)
        (rw [if_pos (by rfl)]; refine wp_store_mid _ _ _ rfl (wr.heap.size + 1) 0 (blkA gp (k - 1)) rfl rfl ?_ ?_ (blkA_one _ _) ?_; (· exact live_there (Ly2) 0 8 (by decide)); (· kernel_rfl))
        refine hK.out _ _ ?_ (fun hHeld => ?_)
        · (try dsimp only); (focus (((with_reducible apply keepT7 HP.out hk1 hlt) <;> (repeat' (first | with_reducible refine below_setCells (by omega) _ _ _ ?_ | with_reducible exact Below.refl _ _ | with_reducible refine Below.drew ?_ | with_reducible refine below_drewN ?_ _ | with_reducible refine Below.alloc ?_ ?_ _ | with_reducible refine Below.setCell ?_ ?_ _ | with_reducible refine Below.trans ?_ (Below.mono (by with_reducible assumption) ?_) | (simp; done) | (simp; omega) | omega))); done))
        clear hK K
        refine gen_world (fun wx => (wx.rangeAt ba (oa + (k - 1) * 8) (blkA gp (k - 1)).toList ∧ wx.rangeAt ba (oa + k * 8) (blkA gp k).toList) ∧ Live wx wr.heap.size zeroB8 ∧ Live wx (wr.heap.size + 1) (blkA gp (k - 1)) ∧ Live wx w.heap.size #[.slice sl n cl, .slice (some ⟨b', off', none⟩) n cc, .int .i64 en] ∧ Below W0.heap.size W0 wx) ⟨hHeld, live_cells_other Lx2 _ _ (by omega), live_whole Ly2 _ rfl, live_cells_other Lq2 _ _ (by omega), by (repeat' (first | with_reducible refine below_setCells (by omega) _ _ _ ?_ | with_reducible exact Below.refl _ _ | with_reducible refine Below.drew ?_ | with_reducible refine below_drewN ?_ _ | with_reducible refine Below.alloc ?_ ?_ _ | with_reducible refine Below.setCell ?_ ?_ _ | with_reducible refine Below.trans ?_ (Below.mono (by with_reducible assumption) ?_) | (simp; done) | (simp; omega) | omega))⟩ ?_
        clear hHeld
        rintro wc ⟨hHeld, Lx3, Ly3, Lq3, hbwc⟩
        refine wpAnyH_ready (rs := [12]) (by kernel_rfl) (by simp) ?_
        refine AllReadyH.cons (o := ?z17oi) ?z17hi (fun K hK => ?_) AllReadyH.nil
        case z17hi => (simp only [List.getElem?_toArray, List.getElem?_cons_succ, List.getElem?_cons_zero]; exact rfl)
        (rw [if_pos (by rfl)]; refine wp_store_mid _ _ _ rfl (wr.heap.size) 0 (blkA gp k) rfl rfl ?_ ?_ (blkA_one _ _) ?_; (· exact live_there (Lx3) 0 8 (by decide)); (· kernel_rfl))
        refine hK.out _ _ ?_ (fun hHeld => ?_)
        · (try dsimp only); (focus (((with_reducible apply keepT7 HP.out hk1 hlt) <;> (repeat' (first | with_reducible refine below_setCells (by omega) _ _ _ ?_ | with_reducible exact Below.refl _ _ | with_reducible refine Below.drew ?_ | with_reducible refine below_drewN ?_ _ | with_reducible refine Below.alloc ?_ ?_ _ | with_reducible refine Below.setCell ?_ ?_ _ | with_reducible refine Below.trans ?_ (Below.mono (by with_reducible assumption) ?_) | (simp; done) | (simp; omega) | omega))); done))
        clear hK K
        refine gen_world (fun wx => (wx.rangeAt ba (oa + (k - 1) * 8) (blkA gp (k - 1)).toList ∧ wx.rangeAt ba (oa + k * 8) (blkA gp k).toList) ∧ Live wx wr.heap.size (blkA gp k) ∧ Live wx (wr.heap.size + 1) (blkA gp (k - 1)) ∧ Live wx w.heap.size #[.slice sl n cl, .slice (some ⟨b', off', none⟩) n cc, .int .i64 en] ∧ Below W0.heap.size W0 wx) ⟨hHeld, live_whole Lx3 _ rfl, live_cells_other Ly3 _ _ (by omega), live_cells_other Lq3 _ _ (by omega), by (repeat' (first | with_reducible refine below_setCells (by omega) _ _ _ ?_ | with_reducible exact Below.refl _ _ | with_reducible refine Below.drew ?_ | with_reducible refine below_drewN ?_ _ | with_reducible refine Below.alloc ?_ ?_ _ | with_reducible refine Below.setCell ?_ ?_ _ | with_reducible refine Below.trans ?_ (Below.mono (by with_reducible assumption) ?_) | (simp; done) | (simp; omega) | omega))⟩ ?_
        clear hHeld
        rintro wd ⟨hHeld, Lx4, Ly4, Lq4, hbwd⟩
        refine wpAnyH_done (by kernel_rfl) ?_ _
        refine NoPanic.normal ?_
        (try go_wp2_with fail)
        go_meet
        exact ⟨wr.heap.size + 1, wr.heap.size, rfl, rfl, by omega, Ly4, Lx4, Lq4, hbwd, by omega, by omega, by omega, by omega⟩
      case rest =>
      clear L p0 q0 q1 q2 hbW lb1 lb2 hx1
      obtain ⟨X, Y, rfl, rfl, hXY, LX, LY, L, hbW, hXr, hYr, hXQ, hYQ⟩ := hcut
      have zX := hbW.size
      have p0 := L.1
      have p1 := LX.1
      have p2 := LY.1
      have y5 := LY.2.1 5
      rw [blkA_at gp k 5 (by omega)] at y5
      have lbX : ∀ w' : World, w'.rangeAt X 0 (blkA gp (k - 1)).toList → (loadB (.pointer (some ⟨X, 0, none⟩))).run Try.prog w' = .ok (.agg (blkA gp (k - 1))) w' := fun w' h => loadB_run h
      have lbY : ∀ w' : World, w'.rangeAt Y 0 (blkA gp k).toList → (loadB (.pointer (some ⟨Y, 0, none⟩))).run Try.prog w' = .ok (.agg (blkA gp k)) w' := fun w' h => loadB_run h
      obtain ⟨s1, a1, a2, a3', a4⟩ := HB.out (k - 1) (by omega)
      obtain ⟨s2, c1, c2, c3, c4⟩ := HB.out k hlt
      have r1 := (bsnd_in gp (k - 1) s1).2.2.2
      have r2 := (bsnd_in gp k s2).2.2.2
      have KR1 := Lib.hid (fun w => ref44_reach gp (k - 1) w s1)
      have KR2 := Lib.hid (fun w => ref44_reach gp k w s2)
      have x1 : RowKit.wrap64 (gp (k - 1) 5 + rch gp (k - 1)) = gp (k - 1) 5 + rch gp (k - 1) := by unfold RowKit.wrap64; omega
      have v1 : IntKind.i64.wrap (gp (k - 1) 5 + rch gp (k - 1)) = gp (k - 1) 5 + rch gp (k - 1) := IntWalk.i64_in _ (by omega)
      have x2 : RowKit.wrap64 (gp k 7 + rch gp k) = gp k 7 + rch gp k := by unfold RowKit.wrap64; omega
      have v2 : IntKind.i64.wrap (gp k 7 + rch gp k) = gp k 7 + rch gp k := IntWalk.i64_in _ (by omega)
      have hT := HT.out k hk1 hlt
      clear s1 a1 a2 a3' a4 s2 c1 c2 c3 c4 r1 r2
      go_upto_region 9 with (fail)
      by_cases t1 : gp k 5 = z k
      · have e1 : (gp k 5 != z k) = false := by simpa using t1
        clear t1 hT
        refine wp_region_noPanic ?_
        refine wp_region_held_drew (S := (fun w' => w'.rangeAt X 0 (blkA gp (k - 1)).toList ∧ w'.rangeAt Y 0 (blkA gp k).toList ∧ w'.cell? ⟨w.heap.size, 1, none⟩ = some (.slice (some ⟨b', off', none⟩) n cc) ∧ w'.cell? ⟨b', off' + k, none⟩ = some (.int .i64 (z k)) ∧ w'.cell? ⟨X, 6, none⟩ = some (.int .i64 (gp (k - 1) 6)) ∧ w'.cell? ⟨Y, 6, none⟩ = some (.int .i64 (gp k 6)) ∧ w'.cell? ⟨X, 5, none⟩ = some (.int .i64 (gp (k - 1) 5)) ∧ w'.cell? ⟨Y, 7, none⟩ = some (.int .i64 (gp k 7)))) (by kernel_rfl) ?_ (fun hHeld => ?_)
        · (try dsimp only); (first | (focus (((with_reducible apply keep9 HC0.out hlt) <;> (first | (focus ((repeat (first | with_reducible assumption | ((with_reducible apply live_new) <;> (first | with_reducible rfl | (focus (simp; done)))) | with_reducible apply live_alloc | with_reducible apply live_drew | with_reducible apply live_drewN | ((with_reducible apply live_set_other); (case hb => first | omega | (simp; done))) | with_reducible apply live_set_same | (focus (simp; done)))); done)) | (repeat' (first | with_reducible exact Below.refl _ _ | with_reducible refine Below.drew ?_ | with_reducible refine below_drewN ?_ _ | with_reducible refine Below.alloc ?_ ?_ _ | with_reducible refine Below.setCell ?_ ?_ _ | with_reducible refine Below.trans ?_ (Below.mono (by with_reducible assumption) ?_) | (simp; done) | (simp; omega) | omega)))); done)) | go_keep)
        refine wpAnyH_take (i := 0) (oi := ?z18oi) (v := ?z18v) ?z18hi (by kernel_rfl) (by kernel_rfl) (by kernel_rfl) (fun _ _ _ h => h) (Or.inl ⟨?z18hw, ?z18hy⟩) hHeld ?z18rest
        case z18hi => (simp only [List.getElem?_toArray, List.getElem?_cons_zero]; exact rfl)
        case z18hw => rfl
        case z18hy => (intro w hSw; (try dsimp only at hSw); go_simp; (try with_reducible rfl))
        (try simp only [Act.put, List.setIfInBounds_toArray, List.set_cons_zero, List.set_cons_succ])
        refine wpAnyH_take (i := 1) (oi := ?z19oi) (v := ?z19v) ?z19hi (by kernel_rfl) (by kernel_rfl) (by kernel_rfl) (fun _ _ _ h => h) (Or.inl ⟨?z19hw, ?z19hy⟩) hHeld ?z19rest
        case z19hi => (simp only [List.getElem?_toArray, List.getElem?_cons_succ, List.getElem?_cons_zero]; exact rfl)
        case z19hw => rfl
        case z19hy => (intro w hSw; (try dsimp only at hSw); go_simp; (try with_reducible rfl))
        (try simp only [Act.put, List.setIfInBounds_toArray, List.set_cons_zero, List.set_cons_succ])
        refine wpAnyH_take (i := 2) (oi := ?z20oi) (v := ?z20v) ?z20hi (by kernel_rfl) (by kernel_rfl) (by kernel_rfl) (fun _ _ _ h => h) (Or.inl ⟨?z20hw, ?z20hy⟩) hHeld ?z20rest
        case z20hi => (simp only [List.getElem?_toArray, List.getElem?_cons_succ, List.getElem?_cons_zero]; exact rfl)
        case z20hw => rfl
        case z20hy => (intro w hSw; (try dsimp only at hSw); go_simp; (try with_reducible rfl))
        (try simp only [Act.put, List.setIfInBounds_toArray, List.set_cons_zero, List.set_cons_succ])
        refine wpAnyH_take (i := 3) (oi := ?z21oi) (v := ?z21v) ?z21hi (by kernel_rfl) (by kernel_rfl) (by kernel_rfl) (fun _ _ _ h => h) (Or.inl ⟨?z21hw, ?z21hy⟩) hHeld ?z21rest
        case z21hi => (simp only [List.getElem?_toArray, List.getElem?_cons_succ, List.getElem?_cons_zero]; exact rfl)
        case z21hw => rfl
        case z21hy => (intro w hSw; (try dsimp only at hSw); go_simp; (try with_reducible rfl))
        (try simp only [Act.put, List.setIfInBounds_toArray, List.set_cons_zero, List.set_cons_succ])
        refine wpAnyH_take (i := 4) (oi := ?z22oi) (v := ?z22v) ?z22hi (by kernel_rfl) (by kernel_rfl) (by kernel_rfl) (fun _ _ _ h => h) (Or.inl ⟨?z22hw, ?z22hy⟩) hHeld ?z22rest
        case z22hi => (simp only [List.getElem?_toArray, List.getElem?_cons_succ, List.getElem?_cons_zero]; exact rfl)
        case z22hw => rfl
        case z22hy => (intro w hSw; (try dsimp only at hSw); go_simp; (try with_reducible rfl))
        (try simp only [Act.put, List.setIfInBounds_toArray, List.set_cons_zero, List.set_cons_succ])
        refine wpAnyH_take (i := 5) (oi := ?z23oi) (v := ?z23v) ?z23hi (by kernel_rfl) (by kernel_rfl) (by kernel_rfl) (fun _ _ _ h => h) (Or.inl ⟨?z23hw, ?z23hy⟩) hHeld ?z23rest
        case z23hi => (simp only [List.getElem?_toArray, List.getElem?_cons_succ, List.getElem?_cons_zero]; exact rfl)
        case z23hw => rfl
        case z23hy => (intro w hSw; (try dsimp only at hSw); go_simp; (try with_reducible rfl))
        (try simp only [Act.put, List.setIfInBounds_toArray, List.set_cons_zero, List.set_cons_succ])
        refine wpAnyH_take (i := 6) (oi := ?z24oi) (v := ?z24v) ?z24hi (by kernel_rfl) (by kernel_rfl) (by kernel_rfl) (fun _ _ _ h => h) (Or.inl ⟨?z24hw, ?z24hy⟩) hHeld ?z24rest
        case z24hi => (simp only [List.getElem?_toArray, List.getElem?_cons_succ, List.getElem?_cons_zero]; exact rfl)
        case z24hw => rfl
        case z24hy => (intro w hSw; (try dsimp only at hSw); go_simp; (try with_reducible rfl))
        (try simp only [Act.put, List.setIfInBounds_toArray, List.set_cons_zero, List.set_cons_succ])
        refine wpAnyH_take (i := 7) (oi := ?z25oi) (v := ?z25v) ?z25hi (by kernel_rfl) (by kernel_rfl) (by kernel_rfl) (fun _ _ _ h => h) (Or.inl ⟨?z25hw, ?z25hy⟩) hHeld ?z25rest
        case z25hi => (simp only [List.getElem?_toArray, List.getElem?_cons_succ, List.getElem?_cons_zero]; exact rfl)
        case z25hw => rfl
        case z25hy => (intro w hSw; (try dsimp only at hSw); go_simp; (try with_reducible rfl))
        (try simp only [Act.put, List.setIfInBounds_toArray, List.set_cons_zero, List.set_cons_succ])
        refine wpAnyH_take (i := 8) (oi := ?z26oi) (v := undef) ?z26hi (by kernel_rfl) (by kernel_rfl) (by kernel_rfl) (fun _ _ _ h => h) (Or.inr ⟨?z26hw, rfl⟩) hHeld ?z26rest
        case z26hi => (simp only [List.getElem?_toArray, List.getElem?_cons_succ, List.getElem?_cons_zero]; exact rfl)
        case z26hw => rfl
        (try simp only [Act.put, List.setIfInBounds_toArray, List.set_cons_zero, List.set_cons_succ])
        refine wpAnyH_take (i := 9) (oi := ?z27oi) (v := undef) ?z27hi (by kernel_rfl) (by kernel_rfl) (by kernel_rfl) (fun _ _ _ h => h) (Or.inr ⟨?z27hw, rfl⟩) hHeld ?z27rest
        case z27hi => (simp only [List.getElem?_toArray, List.getElem?_cons_succ, List.getElem?_cons_zero]; exact rfl)
        case z27hw => rfl
        (try simp only [Act.put, List.setIfInBounds_toArray, List.set_cons_zero, List.set_cons_succ])
        refine wpAnyH_take (i := 10) (oi := ?z28oi) (v := undef) ?z28hi (by kernel_rfl) (by kernel_rfl) (by kernel_rfl) (fun _ _ _ h => h) (Or.inr ⟨?z28hw, rfl⟩) hHeld ?z28rest
        case z28hi => (simp only [List.getElem?_toArray, List.getElem?_cons_succ, List.getElem?_cons_zero]; exact rfl)
        case z28hw => rfl
        (try simp only [Act.put, List.setIfInBounds_toArray, List.set_cons_zero, List.set_cons_succ])
        refine wpAnyH_take (i := 11) (oi := ?z29oi) (v := undef) ?z29hi (by kernel_rfl) (by kernel_rfl) (by kernel_rfl) (fun _ _ _ h => h) (Or.inr ⟨?z29hw, rfl⟩) hHeld ?z29rest
        case z29hi => (simp only [List.getElem?_toArray, List.getElem?_cons_succ, List.getElem?_cons_zero]; exact rfl)
        case z29hw => rfl
        (try simp only [Act.put, List.setIfInBounds_toArray, List.set_cons_zero, List.set_cons_succ])
        refine wpAnyH_take (i := 12) (oi := ?z30oi) (v := ?z30v) ?z30hi (by kernel_rfl) (by kernel_rfl) (by kernel_rfl) (fun _ _ _ h => h) (Or.inl ⟨?z30hw, ?z30hy⟩) hHeld ?z30rest
        case z30hi => (simp only [List.getElem?_toArray, List.getElem?_cons_succ, List.getElem?_cons_zero]; exact rfl)
        case z30hw => rfl
        case z30hy => (intro w hSw; (try dsimp only at hSw); go_simp; (try with_reducible rfl))
        (try simp only [Act.put, List.setIfInBounds_toArray, List.set_cons_zero, List.set_cons_succ])
        refine wpAnyH_take (i := 13) (oi := ?z31oi) (v := ?z31v) ?z31hi (by kernel_rfl) (by kernel_rfl) (by kernel_rfl) (fun _ _ _ h => h) (Or.inl ⟨?z31hw, ?z31hy⟩) hHeld ?z31rest
        case z31hi => (simp only [List.getElem?_toArray, List.getElem?_cons_succ, List.getElem?_cons_zero]; exact rfl)
        case z31hw => rfl
        case z31hy => (intro w hSw; (try dsimp only at hSw); go_simp; (try with_reducible rfl))
        (try simp only [Act.put, List.setIfInBounds_toArray, List.set_cons_zero, List.set_cons_succ])
        refine wpAnyH_take (i := 14) (oi := ?z32oi) (v := undef) ?z32hi (by kernel_rfl) (by kernel_rfl) (by kernel_rfl) (fun _ _ _ h => h) (Or.inr ⟨?z32hw, rfl⟩) hHeld ?z32rest
        case z32hi => (simp only [List.getElem?_toArray, List.getElem?_cons_succ, List.getElem?_cons_zero]; exact rfl)
        case z32hw => rfl
        (try simp only [Act.put, List.setIfInBounds_toArray, List.set_cons_zero, List.set_cons_succ])
        refine wpAnyH_take (i := 15) (oi := ?z33oi) (v := undef) ?z33hi (by kernel_rfl) (by kernel_rfl) (by kernel_rfl) (fun _ _ _ h => h) (Or.inr ⟨?z33hw, rfl⟩) hHeld ?z33rest
        case z33hi => (simp only [List.getElem?_toArray, List.getElem?_cons_succ, List.getElem?_cons_zero]; exact rfl)
        case z33hw => rfl
        (try simp only [Act.put, List.setIfInBounds_toArray, List.set_cons_zero, List.set_cons_succ])
        refine wpAnyH_take (i := 16) (oi := ?z34oi) (v := undef) ?z34hi (by kernel_rfl) (by kernel_rfl) (by kernel_rfl) (fun _ _ _ h => h) (Or.inr ⟨?z34hw, rfl⟩) hHeld ?z34rest
        case z34hi => (simp only [List.getElem?_toArray, List.getElem?_cons_succ, List.getElem?_cons_zero]; exact rfl)
        case z34hw => rfl
        (try simp only [Act.put, List.setIfInBounds_toArray, List.set_cons_zero, List.set_cons_succ])
        refine wpAnyH_take (i := 17) (oi := ?z35oi) (v := undef) ?z35hi (by kernel_rfl) (by kernel_rfl) (by kernel_rfl) (fun _ _ _ h => h) (Or.inr ⟨?z35hw, rfl⟩) hHeld ?z35rest
        case z35hi => (simp only [List.getElem?_toArray, List.getElem?_cons_succ, List.getElem?_cons_zero]; exact rfl)
        case z35hw => rfl
        (try simp only [Act.put, List.setIfInBounds_toArray, List.set_cons_zero, List.set_cons_succ])
        refine wpAnyH_take (i := 18) (oi := ?z36oi) (v := ?z36v) ?z36hi (by kernel_rfl) (by kernel_rfl) (by kernel_rfl) (fun _ _ _ h => h) (Or.inl ⟨?z36hw, ?z36hy⟩) hHeld ?z36rest
        case z36hi => (simp only [List.getElem?_toArray, List.getElem?_cons_succ, List.getElem?_cons_zero]; exact rfl)
        case z36hw => rfl
        case z36hy => (intro w hSw; (try dsimp only at hSw); go_simp; (try with_reducible rfl))
        (try simp only [Act.put, List.setIfInBounds_toArray, List.set_cons_zero, List.set_cons_succ])
        refine wpAnyH_take (i := 19) (oi := ?z37oi) (v := ?z37v) ?z37hi (by kernel_rfl) (by kernel_rfl) (by kernel_rfl) (fun _ _ _ h => h) (Or.inl ⟨?z37hw, ?z37hy⟩) hHeld ?z37rest
        case z37hi => (simp only [List.getElem?_toArray, List.getElem?_cons_succ, List.getElem?_cons_zero]; exact rfl)
        case z37hw => rfl
        case z37hy => (intro w hSw; (try dsimp only at hSw); go_simp; (try with_reducible rfl))
        (try simp only [Act.put, List.setIfInBounds_toArray, List.set_cons_zero, List.set_cons_succ])
        refine wpAnyH_take (i := 20) (oi := ?z38oi) (v := undef) ?z38hi (by kernel_rfl) (by kernel_rfl) (by kernel_rfl) (fun _ _ _ h => h) (Or.inr ⟨?z38hw, rfl⟩) hHeld ?z38rest
        case z38hi => (simp only [List.getElem?_toArray, List.getElem?_cons_succ, List.getElem?_cons_zero]; exact rfl)
        case z38hw => rfl
        (try simp only [Act.put, List.setIfInBounds_toArray, List.set_cons_zero, List.set_cons_succ])
        refine wpAnyH_take (i := 21) (oi := ?z39oi) (v := undef) ?z39hi (by kernel_rfl) (by kernel_rfl) (by kernel_rfl) (fun _ _ _ h => h) (Or.inr ⟨?z39hw, rfl⟩) hHeld ?z39rest
        case z39hi => (simp only [List.getElem?_toArray, List.getElem?_cons_succ, List.getElem?_cons_zero]; exact rfl)
        case z39hw => rfl
        (try simp only [Act.put, List.setIfInBounds_toArray, List.set_cons_zero, List.set_cons_succ])
        refine wpAnyH_take (i := 22) (oi := ?z40oi) (v := undef) ?z40hi (by kernel_rfl) (by kernel_rfl) (by kernel_rfl) (fun _ _ _ h => h) (Or.inr ⟨?z40hw, rfl⟩) hHeld ?z40rest
        case z40hi => (simp only [List.getElem?_toArray, List.getElem?_cons_succ, List.getElem?_cons_zero]; exact rfl)
        case z40hw => rfl
        (try simp only [Act.put, List.setIfInBounds_toArray, List.set_cons_zero, List.set_cons_succ])
        refine wpAnyH_take (i := 23) (oi := ?z41oi) (v := undef) ?z41hi (by kernel_rfl) (by kernel_rfl) (by kernel_rfl) (fun _ _ _ h => h) (Or.inr ⟨?z41hw, rfl⟩) hHeld ?z41rest
        case z41hi => (simp only [List.getElem?_toArray, List.getElem?_cons_succ, List.getElem?_cons_zero]; exact rfl)
        case z41hw => rfl
        (try simp only [Act.put, List.setIfInBounds_toArray, List.set_cons_zero, List.set_cons_succ])
        refine wpAnyH_take (i := 24) (oi := ?z42oi) (v := undef) ?z42hi (by kernel_rfl) (by kernel_rfl) (by kernel_rfl) (fun _ _ _ h => h) (Or.inr ⟨?z42hw, rfl⟩) hHeld ?z42rest
        case z42hi => (simp only [List.getElem?_toArray, List.getElem?_cons_succ, List.getElem?_cons_zero]; exact rfl)
        case z42hw => rfl
        (try simp only [Act.put, List.setIfInBounds_toArray, List.set_cons_zero, List.set_cons_succ])
        refine wpAnyH_take (i := 25) (oi := ?z43oi) (v := undef) ?z43hi (by kernel_rfl) (by kernel_rfl) (by kernel_rfl) (fun _ _ _ h => h) (Or.inr ⟨?z43hw, rfl⟩) hHeld ?z43rest
        case z43hi => (simp only [List.getElem?_toArray, List.getElem?_cons_succ, List.getElem?_cons_zero]; exact rfl)
        case z43hw => rfl
        (try simp only [Act.put, List.setIfInBounds_toArray, List.set_cons_zero, List.set_cons_succ])
        refine wpAnyH_take (i := 26) (oi := ?z44oi) (v := undef) ?z44hi (by kernel_rfl) (by kernel_rfl) (by kernel_rfl) (fun _ _ _ h => h) (Or.inr ⟨?z44hw, rfl⟩) hHeld ?z44rest
        case z44hi => (simp only [List.getElem?_toArray, List.getElem?_cons_succ, List.getElem?_cons_zero]; exact rfl)
        case z44hw => rfl
        (try simp only [Act.put, List.setIfInBounds_toArray, List.set_cons_zero, List.set_cons_succ])
        refine wpAnyH_take (i := 27) (oi := ?z45oi) (v := ?z45v) ?z45hi (by kernel_rfl) (by kernel_rfl) (by kernel_rfl) (fun _ _ _ h => h) (Or.inl ⟨?z45hw, ?z45hy⟩) hHeld ?z45rest
        case z45hi => (simp only [List.getElem?_toArray, List.getElem?_cons_succ, List.getElem?_cons_zero]; exact rfl)
        case z45hw => rfl
        case z45hy => (intro w hSw; (try dsimp only at hSw); go_simp; (try with_reducible rfl))
        (try simp only [Act.put, List.setIfInBounds_toArray, List.set_cons_zero, List.set_cons_succ])
        refine wpAnyH_take (i := 28) (oi := ?z46oi) (v := ?z46v) ?z46hi (by kernel_rfl) (by kernel_rfl) (by kernel_rfl) (fun _ _ _ h => h) (Or.inl ⟨?z46hw, ?z46hy⟩) hHeld ?z46rest
        case z46hi => (simp only [List.getElem?_toArray, List.getElem?_cons_succ, List.getElem?_cons_zero]; exact rfl)
        case z46hw => rfl
        case z46hy => (intro w hSw; (try dsimp only at hSw); go_simp; (try with_reducible rfl))
        (try simp only [Act.put, List.setIfInBounds_toArray, List.set_cons_zero, List.set_cons_succ])
        refine wpAnyH_take (i := 29) (oi := ?z47oi) (v := undef) ?z47hi (by kernel_rfl) (by kernel_rfl) (by kernel_rfl) (fun _ _ _ h => h) (Or.inr ⟨?z47hw, rfl⟩) hHeld ?z47rest
        case z47hi => (simp only [List.getElem?_toArray, List.getElem?_cons_succ, List.getElem?_cons_zero]; exact rfl)
        case z47hw => rfl
        (try simp only [Act.put, List.setIfInBounds_toArray, List.set_cons_zero, List.set_cons_succ])
        refine wpAnyH_take (i := 30) (oi := ?z48oi) (v := undef) ?z48hi (by kernel_rfl) (by kernel_rfl) (by kernel_rfl) (fun _ _ _ h => h) (Or.inr ⟨?z48hw, rfl⟩) hHeld ?z48rest
        case z48hi => (simp only [List.getElem?_toArray, List.getElem?_cons_succ, List.getElem?_cons_zero]; exact rfl)
        case z48hw => rfl
        (try simp only [Act.put, List.setIfInBounds_toArray, List.set_cons_zero, List.set_cons_succ])
        refine wpAnyH_take (i := 31) (oi := ?z49oi) (v := undef) ?z49hi (by kernel_rfl) (by kernel_rfl) (by kernel_rfl) (fun _ _ _ h => h) (Or.inr ⟨?z49hw, rfl⟩) hHeld ?z49rest
        case z49hi => (simp only [List.getElem?_toArray, List.getElem?_cons_succ, List.getElem?_cons_zero]; exact rfl)
        case z49hw => rfl
        (try simp only [Act.put, List.setIfInBounds_toArray, List.set_cons_zero, List.set_cons_succ])
        refine wpAnyH_take (i := 32) (oi := ?z50oi) (v := undef) ?z50hi (by kernel_rfl) (by kernel_rfl) (by kernel_rfl) (fun _ _ _ h => h) (Or.inr ⟨?z50hw, rfl⟩) hHeld ?z50rest
        case z50hi => (simp only [List.getElem?_toArray, List.getElem?_cons_succ, List.getElem?_cons_zero]; exact rfl)
        case z50hw => rfl
        (try simp only [Act.put, List.setIfInBounds_toArray, List.set_cons_zero, List.set_cons_succ])
        refine wpAnyH_take (i := 33) (oi := ?z51oi) (v := undef) ?z51hi (by kernel_rfl) (by kernel_rfl) (by kernel_rfl) (fun _ _ _ h => h) (Or.inr ⟨?z51hw, rfl⟩) hHeld ?z51rest
        case z51hi => (simp only [List.getElem?_toArray, List.getElem?_cons_succ, List.getElem?_cons_zero]; exact rfl)
        case z51hw => rfl
        (try simp only [Act.put, List.setIfInBounds_toArray, List.set_cons_zero, List.set_cons_succ])
        refine wpAnyH_take (i := 34) (oi := ?z52oi) (v := undef) ?z52hi (by kernel_rfl) (by kernel_rfl) (by kernel_rfl) (fun _ _ _ h => h) (Or.inr ⟨?z52hw, rfl⟩) hHeld ?z52rest
        case z52hi => (simp only [List.getElem?_toArray, List.getElem?_cons_succ, List.getElem?_cons_zero]; exact rfl)
        case z52hw => rfl
        (try simp only [Act.put, List.setIfInBounds_toArray, List.set_cons_zero, List.set_cons_succ])
        refine wpAnyH_take (i := 35) (oi := ?z53oi) (v := undef) ?z53hi (by kernel_rfl) (by kernel_rfl) (by kernel_rfl) (fun _ _ _ h => h) (Or.inr ⟨?z53hw, rfl⟩) hHeld ?z53rest
        case z53hi => (simp only [List.getElem?_toArray, List.getElem?_cons_succ, List.getElem?_cons_zero]; exact rfl)
        case z53hw => rfl
        (try simp only [Act.put, List.setIfInBounds_toArray, List.set_cons_zero, List.set_cons_succ])
        refine wpAnyH_take (i := 36) (oi := ?z54oi) (v := ?z54v) ?z54hi (by kernel_rfl) (by kernel_rfl) (by kernel_rfl) (fun _ _ _ h => h) (Or.inl ⟨?z54hw, ?z54hy⟩) hHeld ?z54rest
        case z54hi => (simp only [List.getElem?_toArray, List.getElem?_cons_succ, List.getElem?_cons_zero]; exact rfl)
        case z54hw => rfl
        case z54hy => (intro w hSw; (try dsimp only at hSw); go_simp; (try with_reducible rfl))
        (try simp only [Act.put, List.setIfInBounds_toArray, List.set_cons_zero, List.set_cons_succ])
        refine wpAnyH_done (by kernel_rfl) ?_ _
        refine NoPanic.normal ?_
        go_wp2_with fail
        go_roundw
        case rel => exact ⟨k + 1, by go_num, by omega, fun _ => by omega, by (repeat (first | with_reducible assumption | ((with_reducible apply live_new) <;> (first | with_reducible rfl | (focus (simp; done)))) | with_reducible apply live_alloc | with_reducible apply live_drew | with_reducible apply live_drewN | ((with_reducible apply live_set_other); (case hb => first | omega | (simp; done))) | with_reducible apply live_set_same | (focus (simp; done)))), by (repeat' (first | with_reducible exact Below.refl _ _ | with_reducible refine Below.drew ?_ | with_reducible refine below_drewN ?_ _ | with_reducible refine Below.alloc ?_ ?_ _ | with_reducible refine Below.setCell ?_ ?_ _ | with_reducible refine Below.trans ?_ (Below.mono (by with_reducible assumption) ?_) | (simp; done) | (simp; omega) | omega))⟩
        case measure => first | (simp [intOf]; done) | (simp [intOf]; omega)
      have e1 : (gp k 5 != z k) = true := bne_iff_ne.2 t1
      by_cases t2 : gp k 5 = gp (k - 1) 6
      · have e2 : (gp k 5 != gp (k - 1) 6) = false := by simpa using t2
        clear t1 t2 hT
        refine wp_region_noPanic ?_
        refine wp_region_held_drew (S := (fun w' => w'.rangeAt X 0 (blkA gp (k - 1)).toList ∧ w'.rangeAt Y 0 (blkA gp k).toList ∧ w'.cell? ⟨w.heap.size, 1, none⟩ = some (.slice (some ⟨b', off', none⟩) n cc) ∧ w'.cell? ⟨b', off' + k, none⟩ = some (.int .i64 (z k)) ∧ w'.cell? ⟨X, 6, none⟩ = some (.int .i64 (gp (k - 1) 6)) ∧ w'.cell? ⟨Y, 6, none⟩ = some (.int .i64 (gp k 6)) ∧ w'.cell? ⟨X, 5, none⟩ = some (.int .i64 (gp (k - 1) 5)) ∧ w'.cell? ⟨Y, 7, none⟩ = some (.int .i64 (gp k 7)))) (by kernel_rfl) ?_ (fun hHeld => ?_)
        · (try dsimp only); (first | (focus (((with_reducible apply keep9 HC0.out hlt) <;> (first | (focus ((repeat (first | with_reducible assumption | ((with_reducible apply live_new) <;> (first | with_reducible rfl | (focus (simp; done)))) | with_reducible apply live_alloc | with_reducible apply live_drew | with_reducible apply live_drewN | ((with_reducible apply live_set_other); (case hb => first | omega | (simp; done))) | with_reducible apply live_set_same | (focus (simp; done)))); done)) | (repeat' (first | with_reducible exact Below.refl _ _ | with_reducible refine Below.drew ?_ | with_reducible refine below_drewN ?_ _ | with_reducible refine Below.alloc ?_ ?_ _ | with_reducible refine Below.setCell ?_ ?_ _ | with_reducible refine Below.trans ?_ (Below.mono (by with_reducible assumption) ?_) | (simp; done) | (simp; omega) | omega)))); done)) | go_keep)
        refine wpAnyH_take (i := 0) (oi := ?z55oi) (v := ?z55v) ?z55hi (by kernel_rfl) (by kernel_rfl) (by kernel_rfl) (fun _ _ _ h => h) (Or.inl ⟨?z55hw, ?z55hy⟩) hHeld ?z55rest
        case z55hi => (simp only [List.getElem?_toArray, List.getElem?_cons_zero]; exact rfl)
        case z55hw => rfl
        case z55hy => (intro w hSw; (try dsimp only at hSw); go_simp; (try with_reducible rfl))
        (try simp only [Act.put, List.setIfInBounds_toArray, List.set_cons_zero, List.set_cons_succ])
        refine wpAnyH_take (i := 1) (oi := ?z56oi) (v := ?z56v) ?z56hi (by kernel_rfl) (by kernel_rfl) (by kernel_rfl) (fun _ _ _ h => h) (Or.inl ⟨?z56hw, ?z56hy⟩) hHeld ?z56rest
        case z56hi => (simp only [List.getElem?_toArray, List.getElem?_cons_succ, List.getElem?_cons_zero]; exact rfl)
        case z56hw => rfl
        case z56hy => (intro w hSw; (try dsimp only at hSw); go_simp; (try with_reducible rfl))
        (try simp only [Act.put, List.setIfInBounds_toArray, List.set_cons_zero, List.set_cons_succ])
        refine wpAnyH_take (i := 2) (oi := ?z57oi) (v := ?z57v) ?z57hi (by kernel_rfl) (by kernel_rfl) (by kernel_rfl) (fun _ _ _ h => h) (Or.inl ⟨?z57hw, ?z57hy⟩) hHeld ?z57rest
        case z57hi => (simp only [List.getElem?_toArray, List.getElem?_cons_succ, List.getElem?_cons_zero]; exact rfl)
        case z57hw => rfl
        case z57hy => (intro w hSw; (try dsimp only at hSw); go_simp; (try with_reducible rfl))
        (try simp only [Act.put, List.setIfInBounds_toArray, List.set_cons_zero, List.set_cons_succ])
        refine wpAnyH_take (i := 3) (oi := ?z58oi) (v := ?z58v) ?z58hi (by kernel_rfl) (by kernel_rfl) (by kernel_rfl) (fun _ _ _ h => h) (Or.inl ⟨?z58hw, ?z58hy⟩) hHeld ?z58rest
        case z58hi => (simp only [List.getElem?_toArray, List.getElem?_cons_succ, List.getElem?_cons_zero]; exact rfl)
        case z58hw => rfl
        case z58hy => (intro w hSw; (try dsimp only at hSw); go_simp; (try with_reducible rfl))
        (try simp only [Act.put, List.setIfInBounds_toArray, List.set_cons_zero, List.set_cons_succ])
        refine wpAnyH_take (i := 4) (oi := ?z59oi) (v := ?z59v) ?z59hi (by kernel_rfl) (by kernel_rfl) (by kernel_rfl) (fun _ _ _ h => h) (Or.inl ⟨?z59hw, ?z59hy⟩) hHeld ?z59rest
        case z59hi => (simp only [List.getElem?_toArray, List.getElem?_cons_succ, List.getElem?_cons_zero]; exact rfl)
        case z59hw => rfl
        case z59hy => (intro w hSw; (try dsimp only at hSw); go_simp; (try with_reducible rfl))
        (try simp only [Act.put, List.setIfInBounds_toArray, List.set_cons_zero, List.set_cons_succ])
        refine wpAnyH_take (i := 5) (oi := ?z60oi) (v := ?z60v) ?z60hi (by kernel_rfl) (by kernel_rfl) (by kernel_rfl) (fun _ _ _ h => h) (Or.inl ⟨?z60hw, ?z60hy⟩) hHeld ?z60rest
        case z60hi => (simp only [List.getElem?_toArray, List.getElem?_cons_succ, List.getElem?_cons_zero]; exact rfl)
        case z60hw => rfl
        case z60hy => (intro w hSw; (try dsimp only at hSw); go_simp; (try with_reducible rfl))
        (try simp only [Act.put, List.setIfInBounds_toArray, List.set_cons_zero, List.set_cons_succ])
        refine wpAnyH_take (i := 6) (oi := ?z61oi) (v := ?z61v) ?z61hi (by kernel_rfl) (by kernel_rfl) (by kernel_rfl) (fun _ _ _ h => h) (Or.inl ⟨?z61hw, ?z61hy⟩) hHeld ?z61rest
        case z61hi => (simp only [List.getElem?_toArray, List.getElem?_cons_succ, List.getElem?_cons_zero]; exact rfl)
        case z61hw => rfl
        case z61hy => (intro w hSw; (try dsimp only at hSw); go_simp; (try with_reducible rfl))
        (try simp only [Act.put, List.setIfInBounds_toArray, List.set_cons_zero, List.set_cons_succ])
        refine wpAnyH_take (i := 7) (oi := ?z62oi) (v := ?z62v) ?z62hi (by kernel_rfl) (by kernel_rfl) (by kernel_rfl) (fun _ _ _ h => h) (Or.inl ⟨?z62hw, ?z62hy⟩) hHeld ?z62rest
        case z62hi => (simp only [List.getElem?_toArray, List.getElem?_cons_succ, List.getElem?_cons_zero]; exact rfl)
        case z62hw => rfl
        case z62hy => (intro w hSw; (try dsimp only at hSw); go_simp; (try with_reducible rfl))
        (try simp only [Act.put, List.setIfInBounds_toArray, List.set_cons_zero, List.set_cons_succ])
        refine wpAnyH_take (i := 8) (oi := ?z63oi) (v := ?z63v) ?z63hi (by kernel_rfl) (by kernel_rfl) (by kernel_rfl) (fun _ _ _ h => h) (Or.inl ⟨?z63hw, ?z63hy⟩) hHeld ?z63rest
        case z63hi => (simp only [List.getElem?_toArray, List.getElem?_cons_succ, List.getElem?_cons_zero]; exact rfl)
        case z63hw => rfl
        case z63hy => (intro w hSw; (try dsimp only at hSw); go_simp; (try with_reducible rfl))
        (try simp only [Act.put, List.setIfInBounds_toArray, List.set_cons_zero, List.set_cons_succ])
        refine wpAnyH_take (i := 9) (oi := ?z64oi) (v := ?z64v) ?z64hi (by kernel_rfl) (by kernel_rfl) (by kernel_rfl) (fun _ _ _ h => h) (Or.inl ⟨?z64hw, ?z64hy⟩) hHeld ?z64rest
        case z64hi => (simp only [List.getElem?_toArray, List.getElem?_cons_succ, List.getElem?_cons_zero]; exact rfl)
        case z64hw => rfl
        case z64hy => (intro w hSw; (try dsimp only at hSw); go_simp; (try with_reducible rfl))
        (try simp only [Act.put, List.setIfInBounds_toArray, List.set_cons_zero, List.set_cons_succ])
        refine wpAnyH_take (i := 10) (oi := ?z65oi) (v := ?z65v) ?z65hi (by kernel_rfl) (by kernel_rfl) (by kernel_rfl) (fun _ _ _ h => h) (Or.inl ⟨?z65hw, ?z65hy⟩) hHeld ?z65rest
        case z65hi => (simp only [List.getElem?_toArray, List.getElem?_cons_succ, List.getElem?_cons_zero]; exact rfl)
        case z65hw => rfl
        case z65hy => (intro w hSw; (try dsimp only at hSw); go_simp; (try with_reducible rfl))
        (try simp only [Act.put, List.setIfInBounds_toArray, List.set_cons_zero, List.set_cons_succ])
        refine wpAnyH_take (i := 11) (oi := ?z66oi) (v := ?z66v) ?z66hi (by kernel_rfl) (by kernel_rfl) (by kernel_rfl) (fun _ _ _ h => h) (Or.inl ⟨?z66hw, ?z66hy⟩) hHeld ?z66rest
        case z66hi => (simp only [List.getElem?_toArray, List.getElem?_cons_succ, List.getElem?_cons_zero]; exact rfl)
        case z66hw => rfl
        case z66hy => (intro w hSw; (try dsimp only at hSw); go_simp; (try with_reducible rfl))
        (try simp only [Act.put, List.setIfInBounds_toArray, List.set_cons_zero, List.set_cons_succ])
        refine wpAnyH_take (i := 12) (oi := ?z67oi) (v := ?z67v) ?z67hi (by kernel_rfl) (by kernel_rfl) (by kernel_rfl) (fun _ _ _ h => h) (Or.inl ⟨?z67hw, ?z67hy⟩) hHeld ?z67rest
        case z67hi => (simp only [List.getElem?_toArray, List.getElem?_cons_succ, List.getElem?_cons_zero]; exact rfl)
        case z67hw => rfl
        case z67hy => (intro w hSw; (try dsimp only at hSw); go_simp; (try with_reducible rfl))
        (try simp only [Act.put, List.setIfInBounds_toArray, List.set_cons_zero, List.set_cons_succ])
        refine wpAnyH_take (i := 13) (oi := ?z68oi) (v := ?z68v) ?z68hi (by kernel_rfl) (by kernel_rfl) (by kernel_rfl) (fun _ _ _ h => h) (Or.inl ⟨?z68hw, ?z68hy⟩) hHeld ?z68rest
        case z68hi => (simp only [List.getElem?_toArray, List.getElem?_cons_succ, List.getElem?_cons_zero]; exact rfl)
        case z68hw => rfl
        case z68hy => (intro w hSw; (try dsimp only at hSw); go_simp; (try with_reducible rfl))
        (try simp only [Act.put, List.setIfInBounds_toArray, List.set_cons_zero, List.set_cons_succ])
        refine wpAnyH_take (i := 14) (oi := ?z69oi) (v := undef) ?z69hi (by kernel_rfl) (by kernel_rfl) (by kernel_rfl) (fun _ _ _ h => h) (Or.inr ⟨?z69hw, rfl⟩) hHeld ?z69rest
        case z69hi => (simp only [List.getElem?_toArray, List.getElem?_cons_succ, List.getElem?_cons_zero]; exact rfl)
        case z69hw => rfl
        (try simp only [Act.put, List.setIfInBounds_toArray, List.set_cons_zero, List.set_cons_succ])
        refine wpAnyH_take (i := 15) (oi := ?z70oi) (v := undef) ?z70hi (by kernel_rfl) (by kernel_rfl) (by kernel_rfl) (fun _ _ _ h => h) (Or.inr ⟨?z70hw, rfl⟩) hHeld ?z70rest
        case z70hi => (simp only [List.getElem?_toArray, List.getElem?_cons_succ, List.getElem?_cons_zero]; exact rfl)
        case z70hw => rfl
        (try simp only [Act.put, List.setIfInBounds_toArray, List.set_cons_zero, List.set_cons_succ])
        refine wpAnyH_take (i := 16) (oi := ?z71oi) (v := undef) ?z71hi (by kernel_rfl) (by kernel_rfl) (by kernel_rfl) (fun _ _ _ h => h) (Or.inr ⟨?z71hw, rfl⟩) hHeld ?z71rest
        case z71hi => (simp only [List.getElem?_toArray, List.getElem?_cons_succ, List.getElem?_cons_zero]; exact rfl)
        case z71hw => rfl
        (try simp only [Act.put, List.setIfInBounds_toArray, List.set_cons_zero, List.set_cons_succ])
        refine wpAnyH_take (i := 17) (oi := ?z72oi) (v := undef) ?z72hi (by kernel_rfl) (by kernel_rfl) (by kernel_rfl) (fun _ _ _ h => h) (Or.inr ⟨?z72hw, rfl⟩) hHeld ?z72rest
        case z72hi => (simp only [List.getElem?_toArray, List.getElem?_cons_succ, List.getElem?_cons_zero]; exact rfl)
        case z72hw => rfl
        (try simp only [Act.put, List.setIfInBounds_toArray, List.set_cons_zero, List.set_cons_succ])
        refine wpAnyH_take (i := 18) (oi := ?z73oi) (v := ?z73v) ?z73hi (by kernel_rfl) (by kernel_rfl) (by kernel_rfl) (fun _ _ _ h => h) (Or.inl ⟨?z73hw, ?z73hy⟩) hHeld ?z73rest
        case z73hi => (simp only [List.getElem?_toArray, List.getElem?_cons_succ, List.getElem?_cons_zero]; exact rfl)
        case z73hw => rfl
        case z73hy => (intro w hSw; (try dsimp only at hSw); go_simp; (try with_reducible rfl))
        (try simp only [Act.put, List.setIfInBounds_toArray, List.set_cons_zero, List.set_cons_succ])
        refine wpAnyH_take (i := 19) (oi := ?z74oi) (v := ?z74v) ?z74hi (by kernel_rfl) (by kernel_rfl) (by kernel_rfl) (fun _ _ _ h => h) (Or.inl ⟨?z74hw, ?z74hy⟩) hHeld ?z74rest
        case z74hi => (simp only [List.getElem?_toArray, List.getElem?_cons_succ, List.getElem?_cons_zero]; exact rfl)
        case z74hw => rfl
        case z74hy => (intro w hSw; (try dsimp only at hSw); go_simp; (try with_reducible rfl))
        (try simp only [Act.put, List.setIfInBounds_toArray, List.set_cons_zero, List.set_cons_succ])
        refine wpAnyH_take (i := 20) (oi := ?z75oi) (v := undef) ?z75hi (by kernel_rfl) (by kernel_rfl) (by kernel_rfl) (fun _ _ _ h => h) (Or.inr ⟨?z75hw, rfl⟩) hHeld ?z75rest
        case z75hi => (simp only [List.getElem?_toArray, List.getElem?_cons_succ, List.getElem?_cons_zero]; exact rfl)
        case z75hw => rfl
        (try simp only [Act.put, List.setIfInBounds_toArray, List.set_cons_zero, List.set_cons_succ])
        refine wpAnyH_take (i := 21) (oi := ?z76oi) (v := undef) ?z76hi (by kernel_rfl) (by kernel_rfl) (by kernel_rfl) (fun _ _ _ h => h) (Or.inr ⟨?z76hw, rfl⟩) hHeld ?z76rest
        case z76hi => (simp only [List.getElem?_toArray, List.getElem?_cons_succ, List.getElem?_cons_zero]; exact rfl)
        case z76hw => rfl
        (try simp only [Act.put, List.setIfInBounds_toArray, List.set_cons_zero, List.set_cons_succ])
        refine wpAnyH_take (i := 22) (oi := ?z77oi) (v := undef) ?z77hi (by kernel_rfl) (by kernel_rfl) (by kernel_rfl) (fun _ _ _ h => h) (Or.inr ⟨?z77hw, rfl⟩) hHeld ?z77rest
        case z77hi => (simp only [List.getElem?_toArray, List.getElem?_cons_succ, List.getElem?_cons_zero]; exact rfl)
        case z77hw => rfl
        (try simp only [Act.put, List.setIfInBounds_toArray, List.set_cons_zero, List.set_cons_succ])
        refine wpAnyH_take (i := 23) (oi := ?z78oi) (v := undef) ?z78hi (by kernel_rfl) (by kernel_rfl) (by kernel_rfl) (fun _ _ _ h => h) (Or.inr ⟨?z78hw, rfl⟩) hHeld ?z78rest
        case z78hi => (simp only [List.getElem?_toArray, List.getElem?_cons_succ, List.getElem?_cons_zero]; exact rfl)
        case z78hw => rfl
        (try simp only [Act.put, List.setIfInBounds_toArray, List.set_cons_zero, List.set_cons_succ])
        refine wpAnyH_take (i := 24) (oi := ?z79oi) (v := undef) ?z79hi (by kernel_rfl) (by kernel_rfl) (by kernel_rfl) (fun _ _ _ h => h) (Or.inr ⟨?z79hw, rfl⟩) hHeld ?z79rest
        case z79hi => (simp only [List.getElem?_toArray, List.getElem?_cons_succ, List.getElem?_cons_zero]; exact rfl)
        case z79hw => rfl
        (try simp only [Act.put, List.setIfInBounds_toArray, List.set_cons_zero, List.set_cons_succ])
        refine wpAnyH_take (i := 25) (oi := ?z80oi) (v := undef) ?z80hi (by kernel_rfl) (by kernel_rfl) (by kernel_rfl) (fun _ _ _ h => h) (Or.inr ⟨?z80hw, rfl⟩) hHeld ?z80rest
        case z80hi => (simp only [List.getElem?_toArray, List.getElem?_cons_succ, List.getElem?_cons_zero]; exact rfl)
        case z80hw => rfl
        (try simp only [Act.put, List.setIfInBounds_toArray, List.set_cons_zero, List.set_cons_succ])
        refine wpAnyH_take (i := 26) (oi := ?z81oi) (v := undef) ?z81hi (by kernel_rfl) (by kernel_rfl) (by kernel_rfl) (fun _ _ _ h => h) (Or.inr ⟨?z81hw, rfl⟩) hHeld ?z81rest
        case z81hi => (simp only [List.getElem?_toArray, List.getElem?_cons_succ, List.getElem?_cons_zero]; exact rfl)
        case z81hw => rfl
        (try simp only [Act.put, List.setIfInBounds_toArray, List.set_cons_zero, List.set_cons_succ])
        refine wpAnyH_take (i := 27) (oi := ?z82oi) (v := ?z82v) ?z82hi (by kernel_rfl) (by kernel_rfl) (by kernel_rfl) (fun _ _ _ h => h) (Or.inl ⟨?z82hw, ?z82hy⟩) hHeld ?z82rest
        case z82hi => (simp only [List.getElem?_toArray, List.getElem?_cons_succ, List.getElem?_cons_zero]; exact rfl)
        case z82hw => rfl
        case z82hy => (intro w hSw; (try dsimp only at hSw); go_simp; (try with_reducible rfl))
        (try simp only [Act.put, List.setIfInBounds_toArray, List.set_cons_zero, List.set_cons_succ])
        refine wpAnyH_take (i := 28) (oi := ?z83oi) (v := ?z83v) ?z83hi (by kernel_rfl) (by kernel_rfl) (by kernel_rfl) (fun _ _ _ h => h) (Or.inl ⟨?z83hw, ?z83hy⟩) hHeld ?z83rest
        case z83hi => (simp only [List.getElem?_toArray, List.getElem?_cons_succ, List.getElem?_cons_zero]; exact rfl)
        case z83hw => rfl
        case z83hy => (intro w hSw; (try dsimp only at hSw); go_simp; (try with_reducible rfl))
        (try simp only [Act.put, List.setIfInBounds_toArray, List.set_cons_zero, List.set_cons_succ])
        refine wpAnyH_take (i := 29) (oi := ?z84oi) (v := undef) ?z84hi (by kernel_rfl) (by kernel_rfl) (by kernel_rfl) (fun _ _ _ h => h) (Or.inr ⟨?z84hw, rfl⟩) hHeld ?z84rest
        case z84hi => (simp only [List.getElem?_toArray, List.getElem?_cons_succ, List.getElem?_cons_zero]; exact rfl)
        case z84hw => rfl
        (try simp only [Act.put, List.setIfInBounds_toArray, List.set_cons_zero, List.set_cons_succ])
        refine wpAnyH_take (i := 30) (oi := ?z85oi) (v := undef) ?z85hi (by kernel_rfl) (by kernel_rfl) (by kernel_rfl) (fun _ _ _ h => h) (Or.inr ⟨?z85hw, rfl⟩) hHeld ?z85rest
        case z85hi => (simp only [List.getElem?_toArray, List.getElem?_cons_succ, List.getElem?_cons_zero]; exact rfl)
        case z85hw => rfl
        (try simp only [Act.put, List.setIfInBounds_toArray, List.set_cons_zero, List.set_cons_succ])
        refine wpAnyH_take (i := 31) (oi := ?z86oi) (v := undef) ?z86hi (by kernel_rfl) (by kernel_rfl) (by kernel_rfl) (fun _ _ _ h => h) (Or.inr ⟨?z86hw, rfl⟩) hHeld ?z86rest
        case z86hi => (simp only [List.getElem?_toArray, List.getElem?_cons_succ, List.getElem?_cons_zero]; exact rfl)
        case z86hw => rfl
        (try simp only [Act.put, List.setIfInBounds_toArray, List.set_cons_zero, List.set_cons_succ])
        refine wpAnyH_take (i := 32) (oi := ?z87oi) (v := undef) ?z87hi (by kernel_rfl) (by kernel_rfl) (by kernel_rfl) (fun _ _ _ h => h) (Or.inr ⟨?z87hw, rfl⟩) hHeld ?z87rest
        case z87hi => (simp only [List.getElem?_toArray, List.getElem?_cons_succ, List.getElem?_cons_zero]; exact rfl)
        case z87hw => rfl
        (try simp only [Act.put, List.setIfInBounds_toArray, List.set_cons_zero, List.set_cons_succ])
        refine wpAnyH_take (i := 33) (oi := ?z88oi) (v := undef) ?z88hi (by kernel_rfl) (by kernel_rfl) (by kernel_rfl) (fun _ _ _ h => h) (Or.inr ⟨?z88hw, rfl⟩) hHeld ?z88rest
        case z88hi => (simp only [List.getElem?_toArray, List.getElem?_cons_succ, List.getElem?_cons_zero]; exact rfl)
        case z88hw => rfl
        (try simp only [Act.put, List.setIfInBounds_toArray, List.set_cons_zero, List.set_cons_succ])
        refine wpAnyH_take (i := 34) (oi := ?z89oi) (v := undef) ?z89hi (by kernel_rfl) (by kernel_rfl) (by kernel_rfl) (fun _ _ _ h => h) (Or.inr ⟨?z89hw, rfl⟩) hHeld ?z89rest
        case z89hi => (simp only [List.getElem?_toArray, List.getElem?_cons_succ, List.getElem?_cons_zero]; exact rfl)
        case z89hw => rfl
        (try simp only [Act.put, List.setIfInBounds_toArray, List.set_cons_zero, List.set_cons_succ])
        refine wpAnyH_take (i := 35) (oi := ?z90oi) (v := undef) ?z90hi (by kernel_rfl) (by kernel_rfl) (by kernel_rfl) (fun _ _ _ h => h) (Or.inr ⟨?z90hw, rfl⟩) hHeld ?z90rest
        case z90hi => (simp only [List.getElem?_toArray, List.getElem?_cons_succ, List.getElem?_cons_zero]; exact rfl)
        case z90hw => rfl
        (try simp only [Act.put, List.setIfInBounds_toArray, List.set_cons_zero, List.set_cons_succ])
        refine wpAnyH_take (i := 36) (oi := ?z91oi) (v := ?z91v) ?z91hi (by kernel_rfl) (by kernel_rfl) (by kernel_rfl) (fun _ _ _ h => h) (Or.inl ⟨?z91hw, ?z91hy⟩) hHeld ?z91rest
        case z91hi => (simp only [List.getElem?_toArray, List.getElem?_cons_succ, List.getElem?_cons_zero]; exact rfl)
        case z91hw => rfl
        case z91hy => (intro w hSw; (try dsimp only at hSw); go_simp; (try with_reducible rfl))
        (try simp only [Act.put, List.setIfInBounds_toArray, List.set_cons_zero, List.set_cons_succ])
        refine wpAnyH_done (by kernel_rfl) ?_ _
        refine NoPanic.normal ?_
        go_wp2_with fail
        go_roundw
        case rel => exact ⟨k + 1, by go_num, by omega, fun _ => by omega, by (repeat (first | with_reducible assumption | ((with_reducible apply live_new) <;> (first | with_reducible rfl | (focus (simp; done)))) | with_reducible apply live_alloc | with_reducible apply live_drew | with_reducible apply live_drewN | ((with_reducible apply live_set_other); (case hb => first | omega | (simp; done))) | with_reducible apply live_set_same | (focus (simp; done)))), by (repeat' (first | with_reducible exact Below.refl _ _ | with_reducible refine Below.drew ?_ | with_reducible refine below_drewN ?_ _ | with_reducible refine Below.alloc ?_ ?_ _ | with_reducible refine Below.setCell ?_ ?_ _ | with_reducible refine Below.trans ?_ (Below.mono (by with_reducible assumption) ?_) | (simp; done) | (simp; omega) | omega))⟩
        case measure => first | (simp [intOf]; done) | (simp [intOf]; omega)
      have e2 : (gp k 5 != gp (k - 1) 6) = true := bne_iff_ne.2 t2
      by_cases t3 : gp k 5 = gp k 6
      · have e3 : (gp k 5 != gp k 6) = false := by simpa using t3
        clear t1 t2 t3 hT
        refine wp_region_noPanic ?_
        refine wp_region_held_drew (S := (fun w' => w'.rangeAt X 0 (blkA gp (k - 1)).toList ∧ w'.rangeAt Y 0 (blkA gp k).toList ∧ w'.cell? ⟨w.heap.size, 1, none⟩ = some (.slice (some ⟨b', off', none⟩) n cc) ∧ w'.cell? ⟨b', off' + k, none⟩ = some (.int .i64 (z k)) ∧ w'.cell? ⟨X, 6, none⟩ = some (.int .i64 (gp (k - 1) 6)) ∧ w'.cell? ⟨Y, 6, none⟩ = some (.int .i64 (gp k 6)) ∧ w'.cell? ⟨X, 5, none⟩ = some (.int .i64 (gp (k - 1) 5)) ∧ w'.cell? ⟨Y, 7, none⟩ = some (.int .i64 (gp k 7)))) (by kernel_rfl) ?_ (fun hHeld => ?_)
        · (try dsimp only); (first | (focus (((with_reducible apply keep9 HC0.out hlt) <;> (first | (focus ((repeat (first | with_reducible assumption | ((with_reducible apply live_new) <;> (first | with_reducible rfl | (focus (simp; done)))) | with_reducible apply live_alloc | with_reducible apply live_drew | with_reducible apply live_drewN | ((with_reducible apply live_set_other); (case hb => first | omega | (simp; done))) | with_reducible apply live_set_same | (focus (simp; done)))); done)) | (repeat' (first | with_reducible exact Below.refl _ _ | with_reducible refine Below.drew ?_ | with_reducible refine below_drewN ?_ _ | with_reducible refine Below.alloc ?_ ?_ _ | with_reducible refine Below.setCell ?_ ?_ _ | with_reducible refine Below.trans ?_ (Below.mono (by with_reducible assumption) ?_) | (simp; done) | (simp; omega) | omega)))); done)) | go_keep)
        refine wpAnyH_take (i := 0) (oi := ?z92oi) (v := ?z92v) ?z92hi (by kernel_rfl) (by kernel_rfl) (by kernel_rfl) (fun _ _ _ h => h) (Or.inl ⟨?z92hw, ?z92hy⟩) hHeld ?z92rest
        case z92hi => (simp only [List.getElem?_toArray, List.getElem?_cons_zero]; exact rfl)
        case z92hw => rfl
        case z92hy => (intro w hSw; (try dsimp only at hSw); go_simp; (try with_reducible rfl))
        (try simp only [Act.put, List.setIfInBounds_toArray, List.set_cons_zero, List.set_cons_succ])
        refine wpAnyH_take (i := 1) (oi := ?z93oi) (v := ?z93v) ?z93hi (by kernel_rfl) (by kernel_rfl) (by kernel_rfl) (fun _ _ _ h => h) (Or.inl ⟨?z93hw, ?z93hy⟩) hHeld ?z93rest
        case z93hi => (simp only [List.getElem?_toArray, List.getElem?_cons_succ, List.getElem?_cons_zero]; exact rfl)
        case z93hw => rfl
        case z93hy => (intro w hSw; (try dsimp only at hSw); go_simp; (try with_reducible rfl))
        (try simp only [Act.put, List.setIfInBounds_toArray, List.set_cons_zero, List.set_cons_succ])
        refine wpAnyH_take (i := 2) (oi := ?z94oi) (v := ?z94v) ?z94hi (by kernel_rfl) (by kernel_rfl) (by kernel_rfl) (fun _ _ _ h => h) (Or.inl ⟨?z94hw, ?z94hy⟩) hHeld ?z94rest
        case z94hi => (simp only [List.getElem?_toArray, List.getElem?_cons_succ, List.getElem?_cons_zero]; exact rfl)
        case z94hw => rfl
        case z94hy => (intro w hSw; (try dsimp only at hSw); go_simp; (try with_reducible rfl))
        (try simp only [Act.put, List.setIfInBounds_toArray, List.set_cons_zero, List.set_cons_succ])
        refine wpAnyH_take (i := 3) (oi := ?z95oi) (v := ?z95v) ?z95hi (by kernel_rfl) (by kernel_rfl) (by kernel_rfl) (fun _ _ _ h => h) (Or.inl ⟨?z95hw, ?z95hy⟩) hHeld ?z95rest
        case z95hi => (simp only [List.getElem?_toArray, List.getElem?_cons_succ, List.getElem?_cons_zero]; exact rfl)
        case z95hw => rfl
        case z95hy => (intro w hSw; (try dsimp only at hSw); go_simp; (try with_reducible rfl))
        (try simp only [Act.put, List.setIfInBounds_toArray, List.set_cons_zero, List.set_cons_succ])
        refine wpAnyH_take (i := 4) (oi := ?z96oi) (v := ?z96v) ?z96hi (by kernel_rfl) (by kernel_rfl) (by kernel_rfl) (fun _ _ _ h => h) (Or.inl ⟨?z96hw, ?z96hy⟩) hHeld ?z96rest
        case z96hi => (simp only [List.getElem?_toArray, List.getElem?_cons_succ, List.getElem?_cons_zero]; exact rfl)
        case z96hw => rfl
        case z96hy => (intro w hSw; (try dsimp only at hSw); go_simp; (try with_reducible rfl))
        (try simp only [Act.put, List.setIfInBounds_toArray, List.set_cons_zero, List.set_cons_succ])
        refine wpAnyH_take (i := 5) (oi := ?z97oi) (v := ?z97v) ?z97hi (by kernel_rfl) (by kernel_rfl) (by kernel_rfl) (fun _ _ _ h => h) (Or.inl ⟨?z97hw, ?z97hy⟩) hHeld ?z97rest
        case z97hi => (simp only [List.getElem?_toArray, List.getElem?_cons_succ, List.getElem?_cons_zero]; exact rfl)
        case z97hw => rfl
        case z97hy => (intro w hSw; (try dsimp only at hSw); go_simp; (try with_reducible rfl))
        (try simp only [Act.put, List.setIfInBounds_toArray, List.set_cons_zero, List.set_cons_succ])
        refine wpAnyH_take (i := 6) (oi := ?z98oi) (v := ?z98v) ?z98hi (by kernel_rfl) (by kernel_rfl) (by kernel_rfl) (fun _ _ _ h => h) (Or.inl ⟨?z98hw, ?z98hy⟩) hHeld ?z98rest
        case z98hi => (simp only [List.getElem?_toArray, List.getElem?_cons_succ, List.getElem?_cons_zero]; exact rfl)
        case z98hw => rfl
        case z98hy => (intro w hSw; (try dsimp only at hSw); go_simp; (try with_reducible rfl))
        (try simp only [Act.put, List.setIfInBounds_toArray, List.set_cons_zero, List.set_cons_succ])
        refine wpAnyH_take (i := 7) (oi := ?z99oi) (v := ?z99v) ?z99hi (by kernel_rfl) (by kernel_rfl) (by kernel_rfl) (fun _ _ _ h => h) (Or.inl ⟨?z99hw, ?z99hy⟩) hHeld ?z99rest
        case z99hi => (simp only [List.getElem?_toArray, List.getElem?_cons_succ, List.getElem?_cons_zero]; exact rfl)
        case z99hw => rfl
        case z99hy => (intro w hSw; (try dsimp only at hSw); go_simp; (try with_reducible rfl))
        (try simp only [Act.put, List.setIfInBounds_toArray, List.set_cons_zero, List.set_cons_succ])
        refine wpAnyH_take (i := 8) (oi := ?z100oi) (v := ?z100v) ?z100hi (by kernel_rfl) (by kernel_rfl) (by kernel_rfl) (fun _ _ _ h => h) (Or.inl ⟨?z100hw, ?z100hy⟩) hHeld ?z100rest
        case z100hi => (simp only [List.getElem?_toArray, List.getElem?_cons_succ, List.getElem?_cons_zero]; exact rfl)
        case z100hw => rfl
        case z100hy => (intro w hSw; (try dsimp only at hSw); go_simp; (try with_reducible rfl))
        (try simp only [Act.put, List.setIfInBounds_toArray, List.set_cons_zero, List.set_cons_succ])
        refine wpAnyH_take (i := 9) (oi := ?z101oi) (v := ?z101v) ?z101hi (by kernel_rfl) (by kernel_rfl) (by kernel_rfl) (fun _ _ _ h => h) (Or.inl ⟨?z101hw, ?z101hy⟩) hHeld ?z101rest
        case z101hi => (simp only [List.getElem?_toArray, List.getElem?_cons_succ, List.getElem?_cons_zero]; exact rfl)
        case z101hw => rfl
        case z101hy => (intro w hSw; (try dsimp only at hSw); go_simp; (try with_reducible rfl))
        (try simp only [Act.put, List.setIfInBounds_toArray, List.set_cons_zero, List.set_cons_succ])
        refine wpAnyH_take (i := 10) (oi := ?z102oi) (v := ?z102v) ?z102hi (by kernel_rfl) (by kernel_rfl) (by kernel_rfl) (fun _ _ _ h => h) (Or.inl ⟨?z102hw, ?z102hy⟩) hHeld ?z102rest
        case z102hi => (simp only [List.getElem?_toArray, List.getElem?_cons_succ, List.getElem?_cons_zero]; exact rfl)
        case z102hw => rfl
        case z102hy => (intro w hSw; (try dsimp only at hSw); go_simp; (try with_reducible rfl))
        (try simp only [Act.put, List.setIfInBounds_toArray, List.set_cons_zero, List.set_cons_succ])
        refine wpAnyH_take (i := 11) (oi := ?z103oi) (v := ?z103v) ?z103hi (by kernel_rfl) (by kernel_rfl) (by kernel_rfl) (fun _ _ _ h => h) (Or.inl ⟨?z103hw, ?z103hy⟩) hHeld ?z103rest
        case z103hi => (simp only [List.getElem?_toArray, List.getElem?_cons_succ, List.getElem?_cons_zero]; exact rfl)
        case z103hw => rfl
        case z103hy => (intro w hSw; (try dsimp only at hSw); go_simp; (try with_reducible rfl))
        (try simp only [Act.put, List.setIfInBounds_toArray, List.set_cons_zero, List.set_cons_succ])
        refine wpAnyH_take (i := 12) (oi := ?z104oi) (v := ?z104v) ?z104hi (by kernel_rfl) (by kernel_rfl) (by kernel_rfl) (fun _ _ _ h => h) (Or.inl ⟨?z104hw, ?z104hy⟩) hHeld ?z104rest
        case z104hi => (simp only [List.getElem?_toArray, List.getElem?_cons_succ, List.getElem?_cons_zero]; exact rfl)
        case z104hw => rfl
        case z104hy => (intro w hSw; (try dsimp only at hSw); go_simp; (try with_reducible rfl))
        (try simp only [Act.put, List.setIfInBounds_toArray, List.set_cons_zero, List.set_cons_succ])
        refine wpAnyH_take (i := 13) (oi := ?z105oi) (v := ?z105v) ?z105hi (by kernel_rfl) (by kernel_rfl) (by kernel_rfl) (fun _ _ _ h => h) (Or.inl ⟨?z105hw, ?z105hy⟩) hHeld ?z105rest
        case z105hi => (simp only [List.getElem?_toArray, List.getElem?_cons_succ, List.getElem?_cons_zero]; exact rfl)
        case z105hw => rfl
        case z105hy => (intro w hSw; (try dsimp only at hSw); go_simp; (try with_reducible rfl))
        (try simp only [Act.put, List.setIfInBounds_toArray, List.set_cons_zero, List.set_cons_succ])
        refine wpAnyH_take (i := 14) (oi := ?z106oi) (v := ?z106v) ?z106hi (by kernel_rfl) (by kernel_rfl) (by kernel_rfl) (fun _ _ _ h => h) (Or.inl ⟨?z106hw, ?z106hy⟩) hHeld ?z106rest
        case z106hi => (simp only [List.getElem?_toArray, List.getElem?_cons_succ, List.getElem?_cons_zero]; exact rfl)
        case z106hw => rfl
        case z106hy => (intro w hSw; (try dsimp only at hSw); go_simp; (try with_reducible rfl))
        (try simp only [Act.put, List.setIfInBounds_toArray, List.set_cons_zero, List.set_cons_succ])
        refine wpAnyH_take (i := 15) (oi := ?z107oi) (v := ?z107v) ?z107hi (by kernel_rfl) (by kernel_rfl) (by kernel_rfl) (fun _ _ _ h => h) (Or.inl ⟨?z107hw, ?z107hy⟩) hHeld ?z107rest
        case z107hi => (simp only [List.getElem?_toArray, List.getElem?_cons_succ, List.getElem?_cons_zero]; exact rfl)
        case z107hw => rfl
        case z107hy => (intro w hSw; (try dsimp only at hSw); go_simp; (try with_reducible rfl))
        (try simp only [Act.put, List.setIfInBounds_toArray, List.set_cons_zero, List.set_cons_succ])
        refine wpAnyH_take (i := 16) (oi := ?z108oi) (v := ?z108v) ?z108hi (by kernel_rfl) (by kernel_rfl) (by kernel_rfl) (fun _ _ _ h => h) (Or.inl ⟨?z108hw, ?z108hy⟩) hHeld ?z108rest
        case z108hi => (simp only [List.getElem?_toArray, List.getElem?_cons_succ, List.getElem?_cons_zero]; exact rfl)
        case z108hw => rfl
        case z108hy => (intro w hSw; (try dsimp only at hSw); go_simp; (try with_reducible rfl))
        (try simp only [Act.put, List.setIfInBounds_toArray, List.set_cons_zero, List.set_cons_succ])
        refine wpAnyH_take (i := 17) (oi := ?z109oi) (v := ?z109v) ?z109hi (by kernel_rfl) (by kernel_rfl) (by kernel_rfl) (fun _ _ _ h => h) (Or.inl ⟨?z109hw, ?z109hy⟩) hHeld ?z109rest
        case z109hi => (simp only [List.getElem?_toArray, List.getElem?_cons_succ, List.getElem?_cons_zero]; exact rfl)
        case z109hw => rfl
        case z109hy => (intro w hSw; (try dsimp only at hSw); go_simp; (try with_reducible rfl))
        (try simp only [Act.put, List.setIfInBounds_toArray, List.set_cons_zero, List.set_cons_succ])
        refine wpAnyH_take (i := 18) (oi := ?z110oi) (v := ?z110v) ?z110hi (by kernel_rfl) (by kernel_rfl) (by kernel_rfl) (fun _ _ _ h => h) (Or.inl ⟨?z110hw, ?z110hy⟩) hHeld ?z110rest
        case z110hi => (simp only [List.getElem?_toArray, List.getElem?_cons_succ, List.getElem?_cons_zero]; exact rfl)
        case z110hw => rfl
        case z110hy => (intro w hSw; (try dsimp only at hSw); go_simp; (try with_reducible rfl))
        (try simp only [Act.put, List.setIfInBounds_toArray, List.set_cons_zero, List.set_cons_succ])
        refine wpAnyH_take (i := 19) (oi := ?z111oi) (v := ?z111v) ?z111hi (by kernel_rfl) (by kernel_rfl) (by kernel_rfl) (fun _ _ _ h => h) (Or.inl ⟨?z111hw, ?z111hy⟩) hHeld ?z111rest
        case z111hi => (simp only [List.getElem?_toArray, List.getElem?_cons_succ, List.getElem?_cons_zero]; exact rfl)
        case z111hw => rfl
        case z111hy => (intro w hSw; (try dsimp only at hSw); go_simp; (try with_reducible rfl))
        (try simp only [Act.put, List.setIfInBounds_toArray, List.set_cons_zero, List.set_cons_succ])
        refine wpAnyH_take (i := 20) (oi := ?z112oi) (v := undef) ?z112hi (by kernel_rfl) (by kernel_rfl) (by kernel_rfl) (fun _ _ _ h => h) (Or.inr ⟨?z112hw, rfl⟩) hHeld ?z112rest
        case z112hi => (simp only [List.getElem?_toArray, List.getElem?_cons_succ, List.getElem?_cons_zero]; exact rfl)
        case z112hw => rfl
        (try simp only [Act.put, List.setIfInBounds_toArray, List.set_cons_zero, List.set_cons_succ])
        refine wpAnyH_take (i := 21) (oi := ?z113oi) (v := undef) ?z113hi (by kernel_rfl) (by kernel_rfl) (by kernel_rfl) (fun _ _ _ h => h) (Or.inr ⟨?z113hw, rfl⟩) hHeld ?z113rest
        case z113hi => (simp only [List.getElem?_toArray, List.getElem?_cons_succ, List.getElem?_cons_zero]; exact rfl)
        case z113hw => rfl
        (try simp only [Act.put, List.setIfInBounds_toArray, List.set_cons_zero, List.set_cons_succ])
        refine wpAnyH_take (i := 22) (oi := ?z114oi) (v := undef) ?z114hi (by kernel_rfl) (by kernel_rfl) (by kernel_rfl) (fun _ _ _ h => h) (Or.inr ⟨?z114hw, rfl⟩) hHeld ?z114rest
        case z114hi => (simp only [List.getElem?_toArray, List.getElem?_cons_succ, List.getElem?_cons_zero]; exact rfl)
        case z114hw => rfl
        (try simp only [Act.put, List.setIfInBounds_toArray, List.set_cons_zero, List.set_cons_succ])
        refine wpAnyH_take (i := 23) (oi := ?z115oi) (v := undef) ?z115hi (by kernel_rfl) (by kernel_rfl) (by kernel_rfl) (fun _ _ _ h => h) (Or.inr ⟨?z115hw, rfl⟩) hHeld ?z115rest
        case z115hi => (simp only [List.getElem?_toArray, List.getElem?_cons_succ, List.getElem?_cons_zero]; exact rfl)
        case z115hw => rfl
        (try simp only [Act.put, List.setIfInBounds_toArray, List.set_cons_zero, List.set_cons_succ])
        refine wpAnyH_take (i := 24) (oi := ?z116oi) (v := undef) ?z116hi (by kernel_rfl) (by kernel_rfl) (by kernel_rfl) (fun _ _ _ h => h) (Or.inr ⟨?z116hw, rfl⟩) hHeld ?z116rest
        case z116hi => (simp only [List.getElem?_toArray, List.getElem?_cons_succ, List.getElem?_cons_zero]; exact rfl)
        case z116hw => rfl
        (try simp only [Act.put, List.setIfInBounds_toArray, List.set_cons_zero, List.set_cons_succ])
        refine wpAnyH_take (i := 25) (oi := ?z117oi) (v := undef) ?z117hi (by kernel_rfl) (by kernel_rfl) (by kernel_rfl) (fun _ _ _ h => h) (Or.inr ⟨?z117hw, rfl⟩) hHeld ?z117rest
        case z117hi => (simp only [List.getElem?_toArray, List.getElem?_cons_succ, List.getElem?_cons_zero]; exact rfl)
        case z117hw => rfl
        (try simp only [Act.put, List.setIfInBounds_toArray, List.set_cons_zero, List.set_cons_succ])
        refine wpAnyH_take (i := 26) (oi := ?z118oi) (v := undef) ?z118hi (by kernel_rfl) (by kernel_rfl) (by kernel_rfl) (fun _ _ _ h => h) (Or.inr ⟨?z118hw, rfl⟩) hHeld ?z118rest
        case z118hi => (simp only [List.getElem?_toArray, List.getElem?_cons_succ, List.getElem?_cons_zero]; exact rfl)
        case z118hw => rfl
        (try simp only [Act.put, List.setIfInBounds_toArray, List.set_cons_zero, List.set_cons_succ])
        refine wpAnyH_take (i := 27) (oi := ?z119oi) (v := ?z119v) ?z119hi (by kernel_rfl) (by kernel_rfl) (by kernel_rfl) (fun _ _ _ h => h) (Or.inl ⟨?z119hw, ?z119hy⟩) hHeld ?z119rest
        case z119hi => (simp only [List.getElem?_toArray, List.getElem?_cons_succ, List.getElem?_cons_zero]; exact rfl)
        case z119hw => rfl
        case z119hy => (intro w hSw; (try dsimp only at hSw); go_simp; (try with_reducible rfl))
        (try simp only [Act.put, List.setIfInBounds_toArray, List.set_cons_zero, List.set_cons_succ])
        refine wpAnyH_take (i := 28) (oi := ?z120oi) (v := ?z120v) ?z120hi (by kernel_rfl) (by kernel_rfl) (by kernel_rfl) (fun _ _ _ h => h) (Or.inl ⟨?z120hw, ?z120hy⟩) hHeld ?z120rest
        case z120hi => (simp only [List.getElem?_toArray, List.getElem?_cons_succ, List.getElem?_cons_zero]; exact rfl)
        case z120hw => rfl
        case z120hy => (intro w hSw; (try dsimp only at hSw); go_simp; (try with_reducible rfl))
        (try simp only [Act.put, List.setIfInBounds_toArray, List.set_cons_zero, List.set_cons_succ])
        refine wpAnyH_take (i := 29) (oi := ?z121oi) (v := undef) ?z121hi (by kernel_rfl) (by kernel_rfl) (by kernel_rfl) (fun _ _ _ h => h) (Or.inr ⟨?z121hw, rfl⟩) hHeld ?z121rest
        case z121hi => (simp only [List.getElem?_toArray, List.getElem?_cons_succ, List.getElem?_cons_zero]; exact rfl)
        case z121hw => rfl
        (try simp only [Act.put, List.setIfInBounds_toArray, List.set_cons_zero, List.set_cons_succ])
        refine wpAnyH_take (i := 30) (oi := ?z122oi) (v := undef) ?z122hi (by kernel_rfl) (by kernel_rfl) (by kernel_rfl) (fun _ _ _ h => h) (Or.inr ⟨?z122hw, rfl⟩) hHeld ?z122rest
        case z122hi => (simp only [List.getElem?_toArray, List.getElem?_cons_succ, List.getElem?_cons_zero]; exact rfl)
        case z122hw => rfl
        (try simp only [Act.put, List.setIfInBounds_toArray, List.set_cons_zero, List.set_cons_succ])
        refine wpAnyH_take (i := 31) (oi := ?z123oi) (v := undef) ?z123hi (by kernel_rfl) (by kernel_rfl) (by kernel_rfl) (fun _ _ _ h => h) (Or.inr ⟨?z123hw, rfl⟩) hHeld ?z123rest
        case z123hi => (simp only [List.getElem?_toArray, List.getElem?_cons_succ, List.getElem?_cons_zero]; exact rfl)
        case z123hw => rfl
        (try simp only [Act.put, List.setIfInBounds_toArray, List.set_cons_zero, List.set_cons_succ])
        refine wpAnyH_take (i := 32) (oi := ?z124oi) (v := undef) ?z124hi (by kernel_rfl) (by kernel_rfl) (by kernel_rfl) (fun _ _ _ h => h) (Or.inr ⟨?z124hw, rfl⟩) hHeld ?z124rest
        case z124hi => (simp only [List.getElem?_toArray, List.getElem?_cons_succ, List.getElem?_cons_zero]; exact rfl)
        case z124hw => rfl
        (try simp only [Act.put, List.setIfInBounds_toArray, List.set_cons_zero, List.set_cons_succ])
        refine wpAnyH_take (i := 33) (oi := ?z125oi) (v := undef) ?z125hi (by kernel_rfl) (by kernel_rfl) (by kernel_rfl) (fun _ _ _ h => h) (Or.inr ⟨?z125hw, rfl⟩) hHeld ?z125rest
        case z125hi => (simp only [List.getElem?_toArray, List.getElem?_cons_succ, List.getElem?_cons_zero]; exact rfl)
        case z125hw => rfl
        (try simp only [Act.put, List.setIfInBounds_toArray, List.set_cons_zero, List.set_cons_succ])
        refine wpAnyH_take (i := 34) (oi := ?z126oi) (v := undef) ?z126hi (by kernel_rfl) (by kernel_rfl) (by kernel_rfl) (fun _ _ _ h => h) (Or.inr ⟨?z126hw, rfl⟩) hHeld ?z126rest
        case z126hi => (simp only [List.getElem?_toArray, List.getElem?_cons_succ, List.getElem?_cons_zero]; exact rfl)
        case z126hw => rfl
        (try simp only [Act.put, List.setIfInBounds_toArray, List.set_cons_zero, List.set_cons_succ])
        refine wpAnyH_take (i := 35) (oi := ?z127oi) (v := undef) ?z127hi (by kernel_rfl) (by kernel_rfl) (by kernel_rfl) (fun _ _ _ h => h) (Or.inr ⟨?z127hw, rfl⟩) hHeld ?z127rest
        case z127hi => (simp only [List.getElem?_toArray, List.getElem?_cons_succ, List.getElem?_cons_zero]; exact rfl)
        case z127hw => rfl
        (try simp only [Act.put, List.setIfInBounds_toArray, List.set_cons_zero, List.set_cons_succ])
        refine wpAnyH_take (i := 36) (oi := ?z128oi) (v := ?z128v) ?z128hi (by kernel_rfl) (by kernel_rfl) (by kernel_rfl) (fun _ _ _ h => h) (Or.inl ⟨?z128hw, ?z128hy⟩) hHeld ?z128rest
        case z128hi => (simp only [List.getElem?_toArray, List.getElem?_cons_succ, List.getElem?_cons_zero]; exact rfl)
        case z128hw => rfl
        case z128hy => (intro w hSw; (try dsimp only at hSw); go_simp; (try with_reducible rfl))
        (try simp only [Act.put, List.setIfInBounds_toArray, List.set_cons_zero, List.set_cons_succ])
        refine wpAnyH_done (by kernel_rfl) ?_ _
        refine NoPanic.normal ?_
        go_wp2_with fail
        go_roundw
        case rel => exact ⟨k + 1, by go_num, by omega, fun _ => by omega, by (repeat (first | with_reducible assumption | ((with_reducible apply live_new) <;> (first | with_reducible rfl | (focus (simp; done)))) | with_reducible apply live_alloc | with_reducible apply live_drew | with_reducible apply live_drewN | ((with_reducible apply live_set_other); (case hb => first | omega | (simp; done))) | with_reducible apply live_set_same | (focus (simp; done)))), by (repeat' (first | with_reducible exact Below.refl _ _ | with_reducible refine Below.drew ?_ | with_reducible refine below_drewN ?_ _ | with_reducible refine Below.alloc ?_ ?_ _ | with_reducible refine Below.setCell ?_ ?_ _ | with_reducible refine Below.trans ?_ (Below.mono (by with_reducible assumption) ?_) | (simp; done) | (simp; omega) | omega))⟩
        case measure => first | (simp [intOf]; done) | (simp [intOf]; omega)
      have e3 : (gp k 5 != gp k 6) = true := bne_iff_ne.2 t3
      by_cases t4 : gp k 5 = gp (k - 1) 5 + rch gp (k - 1)
      · have e4 : (gp k 5 != gp (k - 1) 5 + rch gp (k - 1)) = false := by simpa using t4
        clear t1 t2 t3 t4 hT
        refine wp_region_noPanic ?_
        refine wp_region_held_drew (S := (fun w' => w'.rangeAt X 0 (blkA gp (k - 1)).toList ∧ w'.rangeAt Y 0 (blkA gp k).toList ∧ w'.cell? ⟨w.heap.size, 1, none⟩ = some (.slice (some ⟨b', off', none⟩) n cc) ∧ w'.cell? ⟨b', off' + k, none⟩ = some (.int .i64 (z k)) ∧ w'.cell? ⟨X, 6, none⟩ = some (.int .i64 (gp (k - 1) 6)) ∧ w'.cell? ⟨Y, 6, none⟩ = some (.int .i64 (gp k 6)) ∧ w'.cell? ⟨X, 5, none⟩ = some (.int .i64 (gp (k - 1) 5)) ∧ w'.cell? ⟨Y, 7, none⟩ = some (.int .i64 (gp k 7)))) (by kernel_rfl) ?_ (fun hHeld => ?_)
        · (try dsimp only); (first | (focus (((with_reducible apply keep9 HC0.out hlt) <;> (first | (focus ((repeat (first | with_reducible assumption | ((with_reducible apply live_new) <;> (first | with_reducible rfl | (focus (simp; done)))) | with_reducible apply live_alloc | with_reducible apply live_drew | with_reducible apply live_drewN | ((with_reducible apply live_set_other); (case hb => first | omega | (simp; done))) | with_reducible apply live_set_same | (focus (simp; done)))); done)) | (repeat' (first | with_reducible exact Below.refl _ _ | with_reducible refine Below.drew ?_ | with_reducible refine below_drewN ?_ _ | with_reducible refine Below.alloc ?_ ?_ _ | with_reducible refine Below.setCell ?_ ?_ _ | with_reducible refine Below.trans ?_ (Below.mono (by with_reducible assumption) ?_) | (simp; done) | (simp; omega) | omega)))); done)) | go_keep)
        refine wpAnyH_take (i := 0) (oi := ?z129oi) (v := ?z129v) ?z129hi (by kernel_rfl) (by kernel_rfl) (by kernel_rfl) (fun _ _ _ h => h) (Or.inl ⟨?z129hw, ?z129hy⟩) hHeld ?z129rest
        case z129hi => (simp only [List.getElem?_toArray, List.getElem?_cons_zero]; exact rfl)
        case z129hw => rfl
        case z129hy => (intro w hSw; (try dsimp only at hSw); go_simp; (try with_reducible rfl))
        (try simp only [Act.put, List.setIfInBounds_toArray, List.set_cons_zero, List.set_cons_succ])
        refine wpAnyH_take (i := 1) (oi := ?z130oi) (v := ?z130v) ?z130hi (by kernel_rfl) (by kernel_rfl) (by kernel_rfl) (fun _ _ _ h => h) (Or.inl ⟨?z130hw, ?z130hy⟩) hHeld ?z130rest
        case z130hi => (simp only [List.getElem?_toArray, List.getElem?_cons_succ, List.getElem?_cons_zero]; exact rfl)
        case z130hw => rfl
        case z130hy => (intro w hSw; (try dsimp only at hSw); go_simp; (try with_reducible rfl))
        (try simp only [Act.put, List.setIfInBounds_toArray, List.set_cons_zero, List.set_cons_succ])
        refine wpAnyH_take (i := 2) (oi := ?z131oi) (v := ?z131v) ?z131hi (by kernel_rfl) (by kernel_rfl) (by kernel_rfl) (fun _ _ _ h => h) (Or.inl ⟨?z131hw, ?z131hy⟩) hHeld ?z131rest
        case z131hi => (simp only [List.getElem?_toArray, List.getElem?_cons_succ, List.getElem?_cons_zero]; exact rfl)
        case z131hw => rfl
        case z131hy => (intro w hSw; (try dsimp only at hSw); go_simp; (try with_reducible rfl))
        (try simp only [Act.put, List.setIfInBounds_toArray, List.set_cons_zero, List.set_cons_succ])
        refine wpAnyH_take (i := 3) (oi := ?z132oi) (v := ?z132v) ?z132hi (by kernel_rfl) (by kernel_rfl) (by kernel_rfl) (fun _ _ _ h => h) (Or.inl ⟨?z132hw, ?z132hy⟩) hHeld ?z132rest
        case z132hi => (simp only [List.getElem?_toArray, List.getElem?_cons_succ, List.getElem?_cons_zero]; exact rfl)
        case z132hw => rfl
        case z132hy => (intro w hSw; (try dsimp only at hSw); go_simp; (try with_reducible rfl))
        (try simp only [Act.put, List.setIfInBounds_toArray, List.set_cons_zero, List.set_cons_succ])
        refine wpAnyH_take (i := 4) (oi := ?z133oi) (v := ?z133v) ?z133hi (by kernel_rfl) (by kernel_rfl) (by kernel_rfl) (fun _ _ _ h => h) (Or.inl ⟨?z133hw, ?z133hy⟩) hHeld ?z133rest
        case z133hi => (simp only [List.getElem?_toArray, List.getElem?_cons_succ, List.getElem?_cons_zero]; exact rfl)
        case z133hw => rfl
        case z133hy => (intro w hSw; (try dsimp only at hSw); go_simp; (try with_reducible rfl))
        (try simp only [Act.put, List.setIfInBounds_toArray, List.set_cons_zero, List.set_cons_succ])
        refine wpAnyH_take (i := 5) (oi := ?z134oi) (v := ?z134v) ?z134hi (by kernel_rfl) (by kernel_rfl) (by kernel_rfl) (fun _ _ _ h => h) (Or.inl ⟨?z134hw, ?z134hy⟩) hHeld ?z134rest
        case z134hi => (simp only [List.getElem?_toArray, List.getElem?_cons_succ, List.getElem?_cons_zero]; exact rfl)
        case z134hw => rfl
        case z134hy => (intro w hSw; (try dsimp only at hSw); go_simp; (try with_reducible rfl))
        (try simp only [Act.put, List.setIfInBounds_toArray, List.set_cons_zero, List.set_cons_succ])
        refine wpAnyH_take (i := 6) (oi := ?z135oi) (v := ?z135v) ?z135hi (by kernel_rfl) (by kernel_rfl) (by kernel_rfl) (fun _ _ _ h => h) (Or.inl ⟨?z135hw, ?z135hy⟩) hHeld ?z135rest
        case z135hi => (simp only [List.getElem?_toArray, List.getElem?_cons_succ, List.getElem?_cons_zero]; exact rfl)
        case z135hw => rfl
        case z135hy => (intro w hSw; (try dsimp only at hSw); go_simp; (try with_reducible rfl))
        (try simp only [Act.put, List.setIfInBounds_toArray, List.set_cons_zero, List.set_cons_succ])
        refine wpAnyH_take (i := 7) (oi := ?z136oi) (v := ?z136v) ?z136hi (by kernel_rfl) (by kernel_rfl) (by kernel_rfl) (fun _ _ _ h => h) (Or.inl ⟨?z136hw, ?z136hy⟩) hHeld ?z136rest
        case z136hi => (simp only [List.getElem?_toArray, List.getElem?_cons_succ, List.getElem?_cons_zero]; exact rfl)
        case z136hw => rfl
        case z136hy => (intro w hSw; (try dsimp only at hSw); go_simp; (try with_reducible rfl))
        (try simp only [Act.put, List.setIfInBounds_toArray, List.set_cons_zero, List.set_cons_succ])
        refine wpAnyH_take (i := 8) (oi := ?z137oi) (v := ?z137v) ?z137hi (by kernel_rfl) (by kernel_rfl) (by kernel_rfl) (fun _ _ _ h => h) (Or.inl ⟨?z137hw, ?z137hy⟩) hHeld ?z137rest
        case z137hi => (simp only [List.getElem?_toArray, List.getElem?_cons_succ, List.getElem?_cons_zero]; exact rfl)
        case z137hw => rfl
        case z137hy => (intro w hSw; (try dsimp only at hSw); go_simp; (try with_reducible rfl))
        (try simp only [Act.put, List.setIfInBounds_toArray, List.set_cons_zero, List.set_cons_succ])
        refine wpAnyH_take (i := 9) (oi := ?z138oi) (v := ?z138v) ?z138hi (by kernel_rfl) (by kernel_rfl) (by kernel_rfl) (fun _ _ _ h => h) (Or.inl ⟨?z138hw, ?z138hy⟩) hHeld ?z138rest
        case z138hi => (simp only [List.getElem?_toArray, List.getElem?_cons_succ, List.getElem?_cons_zero]; exact rfl)
        case z138hw => rfl
        case z138hy => (intro w hSw; (try dsimp only at hSw); go_simp; (try with_reducible rfl))
        (try simp only [Act.put, List.setIfInBounds_toArray, List.set_cons_zero, List.set_cons_succ])
        refine wpAnyH_take (i := 10) (oi := ?z139oi) (v := ?z139v) ?z139hi (by kernel_rfl) (by kernel_rfl) (by kernel_rfl) (fun _ _ _ h => h) (Or.inl ⟨?z139hw, ?z139hy⟩) hHeld ?z139rest
        case z139hi => (simp only [List.getElem?_toArray, List.getElem?_cons_succ, List.getElem?_cons_zero]; exact rfl)
        case z139hw => rfl
        case z139hy => (intro w hSw; (try dsimp only at hSw); go_simp; (try with_reducible rfl))
        (try simp only [Act.put, List.setIfInBounds_toArray, List.set_cons_zero, List.set_cons_succ])
        refine wpAnyH_take (i := 11) (oi := ?z140oi) (v := ?z140v) ?z140hi (by kernel_rfl) (by kernel_rfl) (by kernel_rfl) (fun _ _ _ h => h) (Or.inl ⟨?z140hw, ?z140hy⟩) hHeld ?z140rest
        case z140hi => (simp only [List.getElem?_toArray, List.getElem?_cons_succ, List.getElem?_cons_zero]; exact rfl)
        case z140hw => rfl
        case z140hy => (intro w hSw; (try dsimp only at hSw); go_simp; (try with_reducible rfl))
        (try simp only [Act.put, List.setIfInBounds_toArray, List.set_cons_zero, List.set_cons_succ])
        refine wpAnyH_take (i := 12) (oi := ?z141oi) (v := ?z141v) ?z141hi (by kernel_rfl) (by kernel_rfl) (by kernel_rfl) (fun _ _ _ h => h) (Or.inl ⟨?z141hw, ?z141hy⟩) hHeld ?z141rest
        case z141hi => (simp only [List.getElem?_toArray, List.getElem?_cons_succ, List.getElem?_cons_zero]; exact rfl)
        case z141hw => rfl
        case z141hy => (intro w hSw; (try dsimp only at hSw); go_simp; (try with_reducible rfl))
        (try simp only [Act.put, List.setIfInBounds_toArray, List.set_cons_zero, List.set_cons_succ])
        refine wpAnyH_take (i := 13) (oi := ?z142oi) (v := ?z142v) ?z142hi (by kernel_rfl) (by kernel_rfl) (by kernel_rfl) (fun _ _ _ h => h) (Or.inl ⟨?z142hw, ?z142hy⟩) hHeld ?z142rest
        case z142hi => (simp only [List.getElem?_toArray, List.getElem?_cons_succ, List.getElem?_cons_zero]; exact rfl)
        case z142hw => rfl
        case z142hy => (intro w hSw; (try dsimp only at hSw); go_simp; (try with_reducible rfl))
        (try simp only [Act.put, List.setIfInBounds_toArray, List.set_cons_zero, List.set_cons_succ])
        refine wpAnyH_take (i := 14) (oi := ?z143oi) (v := ?z143v) ?z143hi (by kernel_rfl) (by kernel_rfl) (by kernel_rfl) (fun _ _ _ h => h) (Or.inl ⟨?z143hw, ?z143hy⟩) hHeld ?z143rest
        case z143hi => (simp only [List.getElem?_toArray, List.getElem?_cons_succ, List.getElem?_cons_zero]; exact rfl)
        case z143hw => rfl
        case z143hy => (intro w hSw; (try dsimp only at hSw); go_simp; (try with_reducible rfl))
        (try simp only [Act.put, List.setIfInBounds_toArray, List.set_cons_zero, List.set_cons_succ])
        refine wpAnyH_take (i := 15) (oi := ?z144oi) (v := ?z144v) ?z144hi (by kernel_rfl) (by kernel_rfl) (by kernel_rfl) (fun _ _ _ h => h) (Or.inl ⟨?z144hw, ?z144hy⟩) hHeld ?z144rest
        case z144hi => (simp only [List.getElem?_toArray, List.getElem?_cons_succ, List.getElem?_cons_zero]; exact rfl)
        case z144hw => rfl
        case z144hy => (intro w hSw; (try dsimp only at hSw); go_simp; (try with_reducible rfl))
        (try simp only [Act.put, List.setIfInBounds_toArray, List.set_cons_zero, List.set_cons_succ])
        refine wpAnyH_take (i := 16) (oi := ?z145oi) (v := ?z145v) ?z145hi (by kernel_rfl) (by kernel_rfl) (by kernel_rfl) (fun _ _ _ h => h) (Or.inl ⟨?z145hw, ?z145hy⟩) hHeld ?z145rest
        case z145hi => (simp only [List.getElem?_toArray, List.getElem?_cons_succ, List.getElem?_cons_zero]; exact rfl)
        case z145hw => rfl
        case z145hy => (intro w hSw; (try dsimp only at hSw); go_simp; (try with_reducible rfl))
        (try simp only [Act.put, List.setIfInBounds_toArray, List.set_cons_zero, List.set_cons_succ])
        refine wpAnyH_take (i := 17) (oi := ?z146oi) (v := ?z146v) ?z146hi (by kernel_rfl) (by kernel_rfl) (by kernel_rfl) (fun _ _ _ h => h) (Or.inl ⟨?z146hw, ?z146hy⟩) hHeld ?z146rest
        case z146hi => (simp only [List.getElem?_toArray, List.getElem?_cons_succ, List.getElem?_cons_zero]; exact rfl)
        case z146hw => rfl
        case z146hy => (intro w hSw; (try dsimp only at hSw); go_simp; (try with_reducible rfl))
        (try simp only [Act.put, List.setIfInBounds_toArray, List.set_cons_zero, List.set_cons_succ])
        refine wpAnyH_take (i := 18) (oi := ?z147oi) (v := ?z147v) ?z147hi (by kernel_rfl) (by kernel_rfl) (by kernel_rfl) (fun _ _ _ h => h) (Or.inl ⟨?z147hw, ?z147hy⟩) hHeld ?z147rest
        case z147hi => (simp only [List.getElem?_toArray, List.getElem?_cons_succ, List.getElem?_cons_zero]; exact rfl)
        case z147hw => rfl
        case z147hy => (intro w hSw; (try dsimp only at hSw); go_simp; (try with_reducible rfl))
        (try simp only [Act.put, List.setIfInBounds_toArray, List.set_cons_zero, List.set_cons_succ])
        refine wpAnyH_take (i := 19) (oi := ?z148oi) (v := ?z148v) ?z148hi (by kernel_rfl) (by kernel_rfl) (by kernel_rfl) (fun _ _ _ h => h) (Or.inl ⟨?z148hw, ?z148hy⟩) hHeld ?z148rest
        case z148hi => (simp only [List.getElem?_toArray, List.getElem?_cons_succ, List.getElem?_cons_zero]; exact rfl)
        case z148hw => rfl
        case z148hy => (intro w hSw; (try dsimp only at hSw); go_simp; (try with_reducible rfl))
        (try simp only [Act.put, List.setIfInBounds_toArray, List.set_cons_zero, List.set_cons_succ])
        refine wpAnyH_take (i := 20) (oi := ?z149oi) (v := ?z149v) ?z149hi (by kernel_rfl) (by kernel_rfl) (by kernel_rfl) (fun _ _ _ h => h) (Or.inl ⟨?z149hw, ?z149hy⟩) hHeld ?z149rest
        case z149hi => (simp only [List.getElem?_toArray, List.getElem?_cons_succ, List.getElem?_cons_zero]; exact rfl)
        case z149hw => rfl
        case z149hy => (intro w hSw; (try dsimp only at hSw); go_simp; (try with_reducible rfl))
        (try simp only [Act.put, List.setIfInBounds_toArray, List.set_cons_zero, List.set_cons_succ])
        refine wpAnyH_take (i := 21) (oi := ?z150oi) (v := ?z150v) ?z150hi (by kernel_rfl) (by kernel_rfl) (by kernel_rfl) (fun _ _ _ h => h) (Or.inl ⟨?z150hw, ?z150hy⟩) hHeld ?z150rest
        case z150hi => (simp only [List.getElem?_toArray, List.getElem?_cons_succ, List.getElem?_cons_zero]; exact rfl)
        case z150hw => rfl
        case z150hy => (intro w hSw; (try dsimp only at hSw); go_simp; (try with_reducible rfl))
        (try simp only [Act.put, List.setIfInBounds_toArray, List.set_cons_zero, List.set_cons_succ])
        refine wpAnyH_take (i := 22) (oi := ?z151oi) (v := ?z151v) ?z151hi (by kernel_rfl) (by kernel_rfl) (by kernel_rfl) (fun _ _ _ h => h) (Or.inl ⟨?z151hw, ?z151hy⟩) hHeld ?z151rest
        case z151hi => (simp only [List.getElem?_toArray, List.getElem?_cons_succ, List.getElem?_cons_zero]; exact rfl)
        case z151hw => rfl
        case z151hy => (intro w hSw; (try dsimp only at hSw); go_simp; (try with_reducible rfl))
        (try simp only [Act.put, List.setIfInBounds_toArray, List.set_cons_zero, List.set_cons_succ])
        refine wpAnyH_take (i := 23) (oi := ?z152oi) (v := ?z152v) ?z152hi (by kernel_rfl) (by kernel_rfl) (by kernel_rfl) (fun _ _ _ h => h) (Or.inl ⟨?z152hw, ?z152hy⟩) hHeld ?z152rest
        case z152hi => (simp only [List.getElem?_toArray, List.getElem?_cons_succ, List.getElem?_cons_zero]; exact rfl)
        case z152hw => rfl
        case z152hy => (intro w hSw; (try dsimp only at hSw); go_simp; (try with_reducible rfl))
        (try simp only [Act.put, List.setIfInBounds_toArray, List.set_cons_zero, List.set_cons_succ])
        refine wpAnyH_ready (rs := [24]) (by kernel_rfl) (by simp) ?_
        refine AllReadyH.cons (o := ?z153oi) ?z153hi (fun K hK => ?_) AllReadyH.nil
        case z153hi => (simp only [List.getElem?_toArray, List.getElem?_cons_succ, List.getElem?_cons_zero]; exact rfl)
        go_simp
        (go_at_call 24; (with_reducible refine (KR1.out _).mono ?_); rintro e w1 ⟨rfl, hb1⟩; have z1 := hb1.size; (try simp at z1); have L1a := live_below hb1 (b := w.heap.size) (by (repeat (first | with_reducible assumption | ((with_reducible apply live_new) <;> (first | with_reducible rfl | (focus (simp; done)))) | with_reducible apply live_alloc | with_reducible apply live_drew | with_reducible apply live_drewN | ((with_reducible apply live_set_other); (case hb => first | omega | (simp; done))) | with_reducible apply live_set_same | (focus (simp; done))))); obtain ⟨p1a, e1a, f1a⟩ := id L1a; have L1b := live_below hb1 (b := X) (by (repeat (first | with_reducible assumption | ((with_reducible apply live_new) <;> (first | with_reducible rfl | (focus (simp; done)))) | with_reducible apply live_alloc | with_reducible apply live_drew | with_reducible apply live_drewN | ((with_reducible apply live_set_other); (case hb => first | omega | (simp; done))) | with_reducible apply live_set_same | (focus (simp; done))))); obtain ⟨p1b, e1b, f1b⟩ := id L1b; have L1c := live_below hb1 (b := Y) (by (repeat (first | with_reducible assumption | ((with_reducible apply live_new) <;> (first | with_reducible rfl | (focus (simp; done)))) | with_reducible apply live_alloc | with_reducible apply live_drew | with_reducible apply live_drewN | ((with_reducible apply live_set_other); (case hb => first | omega | (simp; done))) | with_reducible apply live_set_same | (focus (simp; done))))); obtain ⟨p1c, e1c, f1c⟩ := id L1c; clear e1a e1b e1c)
        refine hK.out _ _ ?_ (fun hHeld => ?_)
        · (try dsimp only); (first | (focus (((with_reducible apply keep9 HC0.out hlt) <;> (first | (focus ((repeat (first | with_reducible assumption | ((with_reducible apply live_new) <;> (first | with_reducible rfl | (focus (simp; done)))) | with_reducible apply live_alloc | with_reducible apply live_drew | with_reducible apply live_drewN | ((with_reducible apply live_set_other); (case hb => first | omega | (simp; done))) | with_reducible apply live_set_same | (focus (simp; done)))); done)) | (repeat' (first | with_reducible exact Below.refl _ _ | with_reducible refine Below.drew ?_ | with_reducible refine below_drewN ?_ _ | with_reducible refine Below.alloc ?_ ?_ _ | with_reducible refine Below.setCell ?_ ?_ _ | with_reducible refine Below.trans ?_ (Below.mono (by with_reducible assumption) ?_) | (simp; done) | (simp; omega) | omega)))); done)) | go_keep)
        clear hK K
        (try simp only [Act.put, List.setIfInBounds_toArray, List.set_cons_zero, List.set_cons_succ])
        refine wpAnyH_take (i := 25) (oi := ?z154oi) (v := ?z154v) ?z154hi (by kernel_rfl) (by kernel_rfl) (by kernel_rfl) (fun _ _ _ h => h) (Or.inl ⟨?z154hw, ?z154hy⟩) hHeld ?z154rest
        case z154hi => (simp only [List.getElem?_toArray, List.getElem?_cons_succ, List.getElem?_cons_zero]; exact rfl)
        case z154hw => rfl
        case z154hy => (intro w hSw; (try dsimp only at hSw); go_simp; (try with_reducible rfl))
        (try simp only [Act.put, List.setIfInBounds_toArray, List.set_cons_zero, List.set_cons_succ])
        refine wpAnyH_take (i := 26) (oi := ?z155oi) (v := ?z155v) ?z155hi (by kernel_rfl) (by kernel_rfl) (by kernel_rfl) (fun _ _ _ h => h) (Or.inl ⟨?z155hw, ?z155hy⟩) hHeld ?z155rest
        case z155hi => (simp only [List.getElem?_toArray, List.getElem?_cons_succ, List.getElem?_cons_zero]; exact rfl)
        case z155hw => rfl
        case z155hy => (intro w hSw; (try dsimp only at hSw); go_simp; (try with_reducible rfl))
        (try simp only [Act.put, List.setIfInBounds_toArray, List.set_cons_zero, List.set_cons_succ])
        refine wpAnyH_take (i := 27) (oi := ?z156oi) (v := ?z156v) ?z156hi (by kernel_rfl) (by kernel_rfl) (by kernel_rfl) (fun _ _ _ h => h) (Or.inl ⟨?z156hw, ?z156hy⟩) hHeld ?z156rest
        case z156hi => (simp only [List.getElem?_toArray, List.getElem?_cons_succ, List.getElem?_cons_zero]; exact rfl)
        case z156hw => rfl
        case z156hy => (intro w hSw; (try dsimp only at hSw); go_simp; (try with_reducible rfl))
        (try simp only [Act.put, List.setIfInBounds_toArray, List.set_cons_zero, List.set_cons_succ])
        refine wpAnyH_take (i := 28) (oi := ?z157oi) (v := ?z157v) ?z157hi (by kernel_rfl) (by kernel_rfl) (by kernel_rfl) (fun _ _ _ h => h) (Or.inl ⟨?z157hw, ?z157hy⟩) hHeld ?z157rest
        case z157hi => (simp only [List.getElem?_toArray, List.getElem?_cons_succ, List.getElem?_cons_zero]; exact rfl)
        case z157hw => rfl
        case z157hy => (intro w hSw; (try dsimp only at hSw); go_simp; (try with_reducible rfl))
        (try simp only [Act.put, List.setIfInBounds_toArray, List.set_cons_zero, List.set_cons_succ])
        refine wpAnyH_take (i := 29) (oi := ?z158oi) (v := undef) ?z158hi (by kernel_rfl) (by kernel_rfl) (by kernel_rfl) (fun _ _ _ h => h) (Or.inr ⟨?z158hw, rfl⟩) hHeld ?z158rest
        case z158hi => (simp only [List.getElem?_toArray, List.getElem?_cons_succ, List.getElem?_cons_zero]; exact rfl)
        case z158hw => rfl
        (try simp only [Act.put, List.setIfInBounds_toArray, List.set_cons_zero, List.set_cons_succ])
        refine wpAnyH_take (i := 30) (oi := ?z159oi) (v := undef) ?z159hi (by kernel_rfl) (by kernel_rfl) (by kernel_rfl) (fun _ _ _ h => h) (Or.inr ⟨?z159hw, rfl⟩) hHeld ?z159rest
        case z159hi => (simp only [List.getElem?_toArray, List.getElem?_cons_succ, List.getElem?_cons_zero]; exact rfl)
        case z159hw => rfl
        (try simp only [Act.put, List.setIfInBounds_toArray, List.set_cons_zero, List.set_cons_succ])
        refine wpAnyH_take (i := 31) (oi := ?z160oi) (v := undef) ?z160hi (by kernel_rfl) (by kernel_rfl) (by kernel_rfl) (fun _ _ _ h => h) (Or.inr ⟨?z160hw, rfl⟩) hHeld ?z160rest
        case z160hi => (simp only [List.getElem?_toArray, List.getElem?_cons_succ, List.getElem?_cons_zero]; exact rfl)
        case z160hw => rfl
        (try simp only [Act.put, List.setIfInBounds_toArray, List.set_cons_zero, List.set_cons_succ])
        refine wpAnyH_take (i := 32) (oi := ?z161oi) (v := undef) ?z161hi (by kernel_rfl) (by kernel_rfl) (by kernel_rfl) (fun _ _ _ h => h) (Or.inr ⟨?z161hw, rfl⟩) hHeld ?z161rest
        case z161hi => (simp only [List.getElem?_toArray, List.getElem?_cons_succ, List.getElem?_cons_zero]; exact rfl)
        case z161hw => rfl
        (try simp only [Act.put, List.setIfInBounds_toArray, List.set_cons_zero, List.set_cons_succ])
        refine wpAnyH_take (i := 33) (oi := ?z162oi) (v := undef) ?z162hi (by kernel_rfl) (by kernel_rfl) (by kernel_rfl) (fun _ _ _ h => h) (Or.inr ⟨?z162hw, rfl⟩) hHeld ?z162rest
        case z162hi => (simp only [List.getElem?_toArray, List.getElem?_cons_succ, List.getElem?_cons_zero]; exact rfl)
        case z162hw => rfl
        (try simp only [Act.put, List.setIfInBounds_toArray, List.set_cons_zero, List.set_cons_succ])
        refine wpAnyH_take (i := 34) (oi := ?z163oi) (v := undef) ?z163hi (by kernel_rfl) (by kernel_rfl) (by kernel_rfl) (fun _ _ _ h => h) (Or.inr ⟨?z163hw, rfl⟩) hHeld ?z163rest
        case z163hi => (simp only [List.getElem?_toArray, List.getElem?_cons_succ, List.getElem?_cons_zero]; exact rfl)
        case z163hw => rfl
        (try simp only [Act.put, List.setIfInBounds_toArray, List.set_cons_zero, List.set_cons_succ])
        refine wpAnyH_take (i := 35) (oi := ?z164oi) (v := undef) ?z164hi (by kernel_rfl) (by kernel_rfl) (by kernel_rfl) (fun _ _ _ h => h) (Or.inr ⟨?z164hw, rfl⟩) hHeld ?z164rest
        case z164hi => (simp only [List.getElem?_toArray, List.getElem?_cons_succ, List.getElem?_cons_zero]; exact rfl)
        case z164hw => rfl
        (try simp only [Act.put, List.setIfInBounds_toArray, List.set_cons_zero, List.set_cons_succ])
        refine wpAnyH_take (i := 36) (oi := ?z165oi) (v := ?z165v) ?z165hi (by kernel_rfl) (by kernel_rfl) (by kernel_rfl) (fun _ _ _ h => h) (Or.inl ⟨?z165hw, ?z165hy⟩) hHeld ?z165rest
        case z165hi => (simp only [List.getElem?_toArray, List.getElem?_cons_succ, List.getElem?_cons_zero]; exact rfl)
        case z165hw => rfl
        case z165hy => (intro w hSw; (try dsimp only at hSw); go_simp; (try with_reducible rfl))
        (try simp only [Act.put, List.setIfInBounds_toArray, List.set_cons_zero, List.set_cons_succ])
        refine wpAnyH_done (by kernel_rfl) ?_ _
        refine NoPanic.normal ?_
        go_wp2_with fail
        go_roundw
        case rel => exact ⟨k + 1, by go_num, by omega, fun _ => by omega, by (repeat (first | with_reducible assumption | ((with_reducible apply live_new) <;> (first | with_reducible rfl | (focus (simp; done)))) | with_reducible apply live_alloc | with_reducible apply live_drew | with_reducible apply live_drewN | ((with_reducible apply live_set_other); (case hb => first | omega | (simp; done))) | with_reducible apply live_set_same | (focus (simp; done)))), by (repeat' (first | with_reducible exact Below.refl _ _ | with_reducible refine Below.drew ?_ | with_reducible refine below_drewN ?_ _ | with_reducible refine Below.alloc ?_ ?_ _ | with_reducible refine Below.setCell ?_ ?_ _ | with_reducible refine Below.trans ?_ (Below.mono (by with_reducible assumption) ?_) | (simp; done) | (simp; omega) | omega))⟩
        case measure => first | (simp [intOf]; done) | (simp [intOf]; omega)
      have e4 : (gp k 5 != gp (k - 1) 5 + rch gp (k - 1)) = true := bne_iff_ne.2 t4
      have t5 : gp k 5 = gp k 7 + rch gp k := by
        rcases hT with h | h | h | h | h
        · exact absurd h t1
        · exact absurd h t2
        · exact absurd h t3
        · exact absurd h t4
        · exact h
      have e5 : (gp k 5 != gp k 7 + rch gp k) = false := by simpa using t5
      clear t1 t2 t3 t4 t5 hT
      go_region_held3 (fun w' => w'.rangeAt X 0 (blkA gp (k - 1)).toList ∧ w'.rangeAt Y 0 (blkA gp k).toList ∧ w'.cell? ⟨w.heap.size, 1, none⟩ = some (.slice (some ⟨b', off', none⟩) n cc) ∧ w'.cell? ⟨b', off' + k, none⟩ = some (.int .i64 (z k)) ∧ w'.cell? ⟨X, 6, none⟩ = some (.int .i64 (gp (k - 1) 6)) ∧ w'.cell? ⟨Y, 6, none⟩ = some (.int .i64 (gp k 6)) ∧ w'.cell? ⟨X, 5, none⟩ = some (.int .i64 (gp (k - 1) 5)) ∧ w'.cell? ⟨Y, 7, none⟩ = some (.int .i64 (gp k 7))) (first | (focus (((with_reducible apply keep9 HC0.out hlt) <;> (first | (focus ((repeat (first | with_reducible assumption | ((with_reducible apply live_new) <;> (first | with_reducible rfl | (focus (simp; done)))) | with_reducible apply live_alloc | with_reducible apply live_drew | with_reducible apply live_drewN | ((with_reducible apply live_set_other); (case hb => first | omega | (simp; done))) | with_reducible apply live_set_same | (focus (simp; done)))); done)) | (repeat' (first | with_reducible exact Below.refl _ _ | with_reducible refine Below.drew ?_ | with_reducible refine below_drewN ?_ _ | with_reducible refine Below.alloc ?_ ?_ _ | with_reducible refine Below.setCell ?_ ?_ _ | with_reducible refine Below.trans ?_ (Below.mono (by with_reducible assumption) ?_) | (simp; done) | (simp; omega) | omega)))); done)) | go_keep)
        (first | (go_at_call 24; (with_reducible refine (KR1.out _).mono ?_); rintro e w1 ⟨rfl, hb1⟩; have z1 := hb1.size; (try simp at z1); have L1a := live_below hb1 (b := w.heap.size) (by (repeat (first | with_reducible assumption | ((with_reducible apply live_new) <;> (first | with_reducible rfl | (focus (simp; done)))) | with_reducible apply live_alloc | with_reducible apply live_drew | with_reducible apply live_drewN | ((with_reducible apply live_set_other); (case hb => first | omega | (simp; done))) | with_reducible apply live_set_same | (focus (simp; done))))); obtain ⟨p1a, e1a, f1a⟩ := id L1a; have L1b := live_below hb1 (b := X) (by (repeat (first | with_reducible assumption | ((with_reducible apply live_new) <;> (first | with_reducible rfl | (focus (simp; done)))) | with_reducible apply live_alloc | with_reducible apply live_drew | with_reducible apply live_drewN | ((with_reducible apply live_set_other); (case hb => first | omega | (simp; done))) | with_reducible apply live_set_same | (focus (simp; done))))); obtain ⟨p1b, e1b, f1b⟩ := id L1b; have L1c := live_below hb1 (b := Y) (by (repeat (first | with_reducible assumption | ((with_reducible apply live_new) <;> (first | with_reducible rfl | (focus (simp; done)))) | with_reducible apply live_alloc | with_reducible apply live_drew | with_reducible apply live_drewN | ((with_reducible apply live_set_other); (case hb => first | omega | (simp; done))) | with_reducible apply live_set_same | (focus (simp; done))))); obtain ⟨p1c, e1c, f1c⟩ := id L1c; clear e1a e1b e1c) | (go_at_call 24; (with_reducible refine (KR2.out _).mono ?_); rintro e w2 ⟨rfl, hb2⟩; have z2 := hb2.size; (try simp at z2); have L2a := live_below hb2 (b := w.heap.size) (by (repeat (first | with_reducible assumption | ((with_reducible apply live_new) <;> (first | with_reducible rfl | (focus (simp; done)))) | with_reducible apply live_alloc | with_reducible apply live_drew | with_reducible apply live_drewN | ((with_reducible apply live_set_other); (case hb => first | omega | (simp; done))) | with_reducible apply live_set_same | (focus (simp; done))))); obtain ⟨p2a, e2a, f2a⟩ := id L2a; have L2b := live_below hb2 (b := X) (by (repeat (first | with_reducible assumption | ((with_reducible apply live_new) <;> (first | with_reducible rfl | (focus (simp; done)))) | with_reducible apply live_alloc | with_reducible apply live_drew | with_reducible apply live_drewN | ((with_reducible apply live_set_other); (case hb => first | omega | (simp; done))) | with_reducible apply live_set_same | (focus (simp; done))))); obtain ⟨p2b, e2b, f2b⟩ := id L2b; have L2c := live_below hb2 (b := Y) (by (repeat (first | with_reducible assumption | ((with_reducible apply live_new) <;> (first | with_reducible rfl | (focus (simp; done)))) | with_reducible apply live_alloc | with_reducible apply live_drew | with_reducible apply live_drewN | ((with_reducible apply live_set_other); (case hb => first | omega | (simp; done))) | with_reducible apply live_set_same | (focus (simp; done))))); obtain ⟨p2c, e2c, f2c⟩ := id L2c; clear e2a e2b e2c))
      rename_i hh; clear hh
      go_wp2_with fail
      go_roundw
      case rel => exact ⟨k + 1, by go_num, by omega, fun _ => by omega, by (repeat (first | with_reducible assumption | ((with_reducible apply live_new) <;> (first | with_reducible rfl | (focus (simp; done)))) | with_reducible apply live_alloc | with_reducible apply live_drew | with_reducible apply live_drewN | ((with_reducible apply live_set_other); (case hb => first | omega | (simp; done))) | with_reducible apply live_set_same | (focus (simp; done)))), by (repeat' (first | with_reducible exact Below.refl _ _ | with_reducible refine Below.drew ?_ | with_reducible refine below_drewN ?_ _ | with_reducible refine Below.alloc ?_ ?_ _ | with_reducible refine Below.setCell ?_ ?_ _ | with_reducible refine Below.trans ?_ (Below.mono (by with_reducible assumption) ?_) | (simp; done) | (simp; omega) | omega))⟩
      case measure => first | (simp [intOf]; done) | (simp [intOf]; omega)
    · have jn : decide (k < n) = false := by simp; omega
      have ji : decide ((k : Int) < (n : Int)) = false := by simp; omega
      clear hk hk1 hlt HT HB HC0 HP
      go_wp2_with (go_at_call 17; refine (law44_awake _).mono ?_; rintro e w9 ⟨rfl, hb9⟩; have z9 := hb9.size; (try simp at z9))
      go_ret
      refine ⟨rfl, ?_⟩
      (repeat' (first | with_reducible exact Below.refl _ _ | with_reducible refine Below.drew ?_ | with_reducible refine below_drewN ?_ _ | with_reducible refine Below.alloc ?_ ?_ _ | with_reducible refine Below.setCell ?_ ?_ _ | with_reducible refine Below.trans ?_ (Below.mono (by with_reducible assumption) ?_) | (simp; done) | (simp; omega) | omega))

theorem walk (g : Nat → Nat → Int) (z : Nat → Int) (en : Int) (sl sc : Option Addr) (n m cl cc : Nat) (w : World) (hg : ∀ k o, I64 (g k o)) (hz : ∀ k, I64 (z k)) (he : I64 en) (hn : n ≤ 9223372036854775807) (hm : m ≤ 9223372036854775807) (hl : BlkS w sl n g) (hc : IntS w sc m z) : Calls Try.prog 7 #[.agg #[.slice sl n cl, .slice sc m cc, .int .i64 en]] w fun e w' => e = .returned (.bool true) ∧ Below w.heap.size w w' := by
  cases h : shB n m
  · exact walk_long sl sc n m cl cc en w hn hm h
  · exact walk_short g z en sl sc n m cl cc w hg hz he hn hm hl hc h

set_option maxRecDepth 100000 in
theorem lifted (os : Os) (started : os.Started) (H : Type) (enc : TypeId × Value → H) :
    ReturnsInHanded {} Try.checked os 7 .any (Rows.aheadTightSpec.pre6 enc Try.prog Try.f7 Rows.aheadTightRow.domain false) (Rows.aheadTightSpec.post enc Try.prog Try.f7 false true false false) := by
  refine returnsInHanded_of_change (C := Try.checked) own started (by kernel_rfl) Try.func7
    (ChangeSpec.witness6 (enc := enc) (C := Try.checked) false ⟨#[], #[.agg #[.slice none 0 0, .slice none 0 0, .int .i64 0]], []⟩ 8 (by kernel_rfl) (by kernel_rfl) (by kernel_rfl) (by kernel_rfl)) ?_
  intro W base args ds gs before hval0 hW _ _
  have hval : ∀ (j : Nat) t v, Try.f7.params[j]? = some t → args[j]? = some v → Value.okWide Try.prog W .any base t v := hval0
  have hW' := hW
  obtain ⟨p, q, hA0, hV, rfl, _, _⟩ := hW
  have hA : DataW.TrodAll enc Try.prog W 0 (fun _ => true) true Try.f7.params.toList args.toList ds p := hA0
  rw [Try.params7] at hA hval
  obtain ⟨v0, d0, rfl, rfl, h0⟩ := trodAll_one hA
  clear hA hA0 hval0
  obtain ⟨sl0, n0, cl0, sc0, m0, cc0, e0, g0, z0, rfl, hn0, hm0, hl0, hc0, hg0, hz0, he0⟩ := queue_open (hval 0 30 v0 rfl rfl) h0
  exact (walk g0 z0 e0 sl0 sc0 n0 m0 cl0 cc0 W hg0 hz0 he0 hn0 hm0 hl0 hc0).mono fun e W' ⟨he, hb⟩ => ⟨_, he, law_post laidOut (by kernel_rfl) rfl (fun _ => rfl) rfl Try.underlying4 hW' hb⟩

theorem holds : Rows.AheadTightSaid :=
  OpenClaim.holds_of_wide 7 Try.f7 rfl rfl rfl rfl rfl rfl rfl ⟨rfl, rfl, rfl, rfl, rfl⟩ rfl rfl rfl rfl rfl (by kernel_rfl) Try.func7 (by kernel_rfl)
    (of_decide_eq_true (by kernel_rfl)) (by unfold Func.isWrapper; rw [if_neg (of_decide_eq_false (by kernel_rfl))]; exact ⟨rfl, rfl⟩)
    (fun os started H enc _ => lifted os started H enc)

#print axioms holds
end Go.Proofs.Ytleohgnnbpicjaa.aheadTight
