/- AheadPlans: Plan of the program and of the reference return the same -/
import Derived.Deep.DeepCutAuto
import Derived.BigQuiet
import Derived.Deep.QuietTactic
import Derived.IntWalk
import Derived.Deep.RegionHeld3
import Derived.Deep.RegionWith
import Derived.RegionTactic
import Derived.BigRegion
import Derived.Test.YtleohgnnbpicjaaL44Law
import Derived.Test.YtleohgnnbpicjaaL44Awake
import Derived.Test.YtleohgnnbpicjaaAhdPlanR
import Derived.Test.YtleohgnnbpicjaaBlkEq
namespace Go.Proofs.Ytleohgnnbpicjaa.aheadPlans
open Go.ChangeShapes Go.WideShapes Go.ChangeAt Go.RowKit
set_option linter.unusedVariables false

attribute [local go_sem] cell_past1 cell_past2 cell_past3 cell_past4 froz_past1 froz_past2 froz_past3
attribute [local go_sem ↓] loadB_in

theorem blk_neq_g (g : Nat → Nat → Int) (k : Nat) (w : World) : (binOp .neq 24 (.agg (blkA g k)) (.agg (blkA g k))).run Try.prog w = .ok (.bool false) w := blk_neq _ _ _ _ _ _ _ _ w
theorem keep6 {w wx : World} {b off b' off' n : Nat} {g : Nat → Nat → Int} {k : Nat} (h1 : BlkS w (some ⟨b, off, none⟩) n g) (h2 : BlkS w (some ⟨b', off', none⟩) n g) (hk : k < n) (hb : Below w.heap.size w wx) :
    wx.rangeAt b (off + k * 8) (blkA g k).toList ∧ wx.rangeAt b' (off' + k * 8) (blkA g k).toList :=
  ⟨blkS_rng (blkS_below hb (Nat.le_refl _) h1) k hk, blkS_rng (blkS_below hb (Nat.le_refl _) h2) k hk⟩
def SRel (n : Nat) (w : World) (s13 : Value) (wx : World) : Prop := ∃ k : Nat, s13 = .int .i64 k ∧ k ≤ n ∧ Below w.heap.size w wx

set_option maxRecDepth 100000 in
set_option maxHeartbeats 8000000 in
theorem law44_same (g : Nat → Nat → Int) (sa sb : Option Addr) (n ca cb : Nat) (w : World) (hn : n ≤ 1000000) (h1 : BlkS w sa n g) (h2 : BlkS w sb n g) :
    Calls Try.prog 23 #[.slice sa n ca, .slice sb n cb] w fun e w' => e = .returned (.bool true) ∧ Below w.heap.size w w' := by
  have H1 := Lib.hid h1
  have H2 := Lib.hid h2
  clear h1 h2
  have hnn : ((n : Int) != (n : Int)) = false := by simp
  go_enter Try.func23, Try.ntmps23
  go_wp2_with fail
  go_loopw [13] (SRel n w) (fun i _ => n - (intOf i).toNat)
  case atStart => exact ⟨0, rfl, Nat.zero_le _, Below.refl _ _⟩
  case round =>
    obtain ⟨k, rfl, hk, hb⟩ := hrel
    by_cases hlt : k < n
    · obtain ⟨b, off, rfl, hl1, _⟩ := H1.out (by omega)
      obtain ⟨b', off', rfl, hl2, _⟩ := H2.out (by omega)
      have j1 : (k : Int) < (n : Int) := by omega
      have lb1 : ∀ w' : World, w'.rangeAt b (off + k * 8) (blkA g k).toList → (loadB (.pointer (some ⟨b, off + k * 8, none⟩))).run Try.prog w' = .ok (.agg (blkA g k)) w' := fun w' h => loadB_run h
      have lb2 : ∀ w' : World, w'.rangeAt b' (off' + k * 8) (blkA g k).toList → (loadB (.pointer (some ⟨b', off' + k * 8, none⟩))).run Try.prog w' = .ok (.agg (blkA g k)) w' := fun w' h => loadB_run h
      have hq := blk_neq_g g k
      go_upto_region 6 with (fail)
      go_region_held3 (fun w' => w'.rangeAt b (off + k * 8) (blkA g k).toList ∧ w'.rangeAt b' (off' + k * 8) (blkA g k).toList) (first | (focus (((with_reducible apply keep6 H1.out H2.out hlt) <;> (repeat' (first | with_reducible exact Below.refl _ _ | with_reducible refine Below.drew ?_ | with_reducible refine below_drewN ?_ _ | with_reducible refine Below.alloc ?_ ?_ _ | with_reducible refine Below.setCell ?_ ?_ _ | with_reducible refine Below.trans ?_ (Below.mono (by with_reducible assumption) ?_) | (simp; done) | (simp; omega) | omega))); done)) | go_keep) (fail)
      rename_i hh; clear hh
      go_wp2_with fail
      go_roundw
      case rel => exact ⟨k + 1, by go_num, by omega, by (repeat' (first | with_reducible exact Below.refl _ _ | with_reducible refine Below.drew ?_ | with_reducible refine below_drewN ?_ _ | with_reducible refine Below.alloc ?_ ?_ _ | with_reducible refine Below.setCell ?_ ?_ _ | with_reducible refine Below.trans ?_ (Below.mono (by with_reducible assumption) ?_) | (simp; done) | (simp; omega) | omega))⟩
      case measure => first | (simp [intOf]; done) | (simp [intOf]; omega)
    · obtain rfl : n = k := by omega
      go_wp2_with fail
      go_ret
      exact ⟨rfl, hb⟩

set_option maxRecDepth 100000 in
set_option maxHeartbeats 8000000 in
theorem walk_long (sl sc : Option Addr) (n m cl cc : Nat) (en : Int) (w : World) (hn : n ≤ 9223372036854775807) (hm : m ≤ 9223372036854775807) (hsh : shB n m = false) :
    Calls Try.prog 5 #[.agg #[.slice sl n cl, .slice sc m cc, .int .i64 en]] w fun e w' => e = .returned (.bool true) ∧ Below w.heap.size w w' := by
  have KS := Lib.hid (fun w => law44_short sl sc n m cl cc en w hn hm)
  rw [hsh] at KS
  clear hsh
  go_enter Try.func5, Try.ntmps5
  go_upto_region 1 with (fail)
  refine gen_world (fun wx => Live wx w.heap.size #[.slice sl n cl, .slice sc m cc, .int .i64 en] ∧ Below w.heap.size w wx) ?_ ?_
  · exact ⟨live_new _ _ rfl, by (repeat' (first | with_reducible exact Below.refl _ _ | with_reducible refine Below.drew ?_ | with_reducible refine below_drewN ?_ _ | with_reducible refine Below.alloc ?_ ?_ _ | with_reducible refine Below.setCell ?_ ?_ _ | with_reducible refine Below.trans ?_ (Below.mono (by with_reducible assumption) ?_) | (simp; done) | (simp; omega) | omega))⟩
  rintro wx ⟨L, hb⟩
  have p0 := L.1
  obtain ⟨q0, q1, q2⟩ := live_q L
  go_wp2_with (first | (go_at_call 18; (with_reducible refine (KS.out _).mono ?_); rintro e w1 ⟨rfl, hb1⟩; have z1 := hb1.size; (try simp at z1); have L1a := live_below hb1 (b := w.heap.size) (by (repeat (first | with_reducible assumption | ((with_reducible apply live_new) <;> (first | with_reducible rfl | (focus (simp; done)))) | with_reducible apply live_alloc | with_reducible apply live_drew | with_reducible apply live_drewN | ((with_reducible apply live_set_other); (case hb => first | omega | (simp; done))) | with_reducible apply live_set_same | (focus (simp; done))))); obtain ⟨p1a, e1a, f1a⟩ := id L1a; clear e1a; obtain ⟨r0, r1, r2⟩ := live_q L1a) | (go_at_call 17; refine (law44_awake _).mono ?_; rintro e w9 ⟨rfl, hb9⟩; have z9 := hb9.size; (try simp at z9)))
  go_ret
  refine ⟨rfl, ?_⟩
  (repeat' (first | with_reducible exact Below.refl _ _ | with_reducible refine Below.drew ?_ | with_reducible refine below_drewN ?_ _ | with_reducible refine Below.alloc ?_ ?_ _ | with_reducible refine Below.setCell ?_ ?_ _ | with_reducible refine Below.trans ?_ (Below.mono (by with_reducible assumption) ?_) | (simp; done) | (simp; omega) | omega))

theorem pln_any {g : Nat → Nat → Int} {z : Nat → Int} {en : Int} {n m : Nat} {w w' : World} {e : Ending} (h : PlnPost g z en n m w e w') :
    ∃ a cap, e = .returned (.tuple #[.slice a (if plnE g z en n m = 0 then n else 0) cap, .int .i64 (plnE g z en n m)]) ∧ BlkS w' a (if plnE g z en n m = 0 then n else 0) (plnG g z en n n) ∧ Below w.heap.size w w' := by
  obtain ⟨a, k, cap, he, hk, hkc, hcap, hB, hf, hb⟩ := h
  subst hk
  exact ⟨a, cap, he, hB, hb⟩

set_option maxRecDepth 100000 in
set_option maxHeartbeats 8000000 in
theorem walk_short (g : Nat → Nat → Int) (z : Nat → Int) (en : Int) (sl sc : Option Addr) (n m cl cc : Nat) (w : World) (hg : ∀ k o, I64 (g k o)) (hz : ∀ k, I64 (z k)) (he : I64 en) (hn : n ≤ 9223372036854775807) (hm : m ≤ 9223372036854775807) (hl : BlkS w sl n g) (hc : IntS w sc m z) (hsh : shB n m = true) :
    Calls Try.prog 5 #[.agg #[.slice sl n cl, .slice sc m cc, .int .i64 en]] w fun e w' => e = .returned (.bool true) ∧ Below w.heap.size w w' := by
  have HL := Lib.hid hl
  have HC := Lib.hid hc
  have KS := Lib.hid (fun w => law44_short sl sc n m cl cc en w hn hm)
  have hn40 : n ≤ 40 := by
    unfold shB at hsh
    rw [Bool.and_eq_true] at hsh
    exact of_decide_eq_true hsh.1
  rw [hsh] at KS
  clear hsh hl hc he
  have KP := Lib.hid (fun w hl hc => (ahead_plan g z en sl sc n m cl cc w hg hz (by omega) hm hl hc).mono (fun e w' h => pln_any h))
  have KQ := Lib.hid (fun w hl hc => (ref44_plan g z en sl sc n m cl cc w hz (by omega) hm hl hc).mono (fun e w' h => pln_any h))
  have hK : (if plnE g z en n m = 0 then n else 0) ≤ 40 := by split <;> omega
  generalize (if plnE g z en n m = 0 then n else 0) = K at *
  have KE := Lib.hid (fun (sa sb : Option Addr) (ca cb : Nat) w h1 h2 => law44_same (plnG g z en n n) sa sb K ca cb w (by omega) h1 h2)
  generalize plnE g z en n m = E at *
  generalize plnG g z en n n = gp at *
  have hEE : (E == E) = true := by simp
  clear hg hz
  go_enter Try.func5, Try.ntmps5
  go_upto_region 1 with (fail)
  refine gen_world (fun wx => Live wx w.heap.size #[.slice sl n cl, .slice sc m cc, .int .i64 en] ∧ Below w.heap.size w wx) ?_ ?_
  · exact ⟨live_new _ _ rfl, by (repeat' (first | with_reducible exact Below.refl _ _ | with_reducible refine Below.drew ?_ | with_reducible refine below_drewN ?_ _ | with_reducible refine Below.alloc ?_ ?_ _ | with_reducible refine Below.setCell ?_ ?_ _ | with_reducible refine Below.trans ?_ (Below.mono (by with_reducible assumption) ?_) | (simp; done) | (simp; omega) | omega))⟩
  rintro wx ⟨L, hb⟩
  have p0 := L.1
  obtain ⟨q0, q1, q2⟩ := live_q L
  go_upto_region 4 with (first | (go_at_call 18; (with_reducible refine (KS.out _).mono ?_); rintro e w1 ⟨rfl, hb1⟩; have z1 := hb1.size; (try simp at z1); have L1a := live_below hb1 (b := w.heap.size) (by (repeat (first | with_reducible assumption | ((with_reducible apply live_new) <;> (first | with_reducible rfl | (focus (simp; done)))) | with_reducible apply live_alloc | with_reducible apply live_drew | with_reducible apply live_drewN | ((with_reducible apply live_set_other); (case hb => first | omega | (simp; done))) | with_reducible apply live_set_same | (focus (simp; done))))); obtain ⟨p1a, e1a, f1a⟩ := id L1a; clear e1a; obtain ⟨r0, r1, r2⟩ := live_q L1a) | (go_at_call 21; (with_reducible refine (KP.out _ ?_ ?_).mono ?_); (· exact blkS_below (B := w.heap.size) (by (repeat' (first | with_reducible exact Below.refl _ _ | with_reducible refine Below.drew ?_ | with_reducible refine below_drewN ?_ _ | with_reducible refine Below.alloc ?_ ?_ _ | with_reducible refine Below.setCell ?_ ?_ _ | with_reducible refine Below.trans ?_ (Below.mono (by with_reducible assumption) ?_) | (simp; done) | (simp; omega) | omega))) (Nat.le_refl _) HL.out); (· exact intS_below (B := w.heap.size) (by (repeat' (first | with_reducible exact Below.refl _ _ | with_reducible refine Below.drew ?_ | with_reducible refine below_drewN ?_ _ | with_reducible refine Below.alloc ?_ ?_ _ | with_reducible refine Below.setCell ?_ ?_ _ | with_reducible refine Below.trans ?_ (Below.mono (by with_reducible assumption) ?_) | (simp; done) | (simp; omega) | omega))) (Nat.le_refl _) HC.out); rintro e w3 ⟨a3, cap3, rfl, hp3, hb3⟩; have z3 := hb3.size; (try simp at z3); have L3a := live_below hb3 (b := w.heap.size) (by (repeat (first | with_reducible assumption | ((with_reducible apply live_new) <;> (first | with_reducible rfl | (focus (simp; done)))) | with_reducible apply live_alloc | with_reducible apply live_drew | with_reducible apply live_drewN | ((with_reducible apply live_set_other); (case hb => first | omega | (simp; done))) | with_reducible apply live_set_same | (focus (simp; done))))); obtain ⟨p3a, e3a, f3a⟩ := id L3a; have HP3 := Lib.hid hp3; clear e3a hp3; obtain ⟨u0, u1, u2⟩ := live_q L3a))
  refine gen_world (fun wx => Live wx w.heap.size #[.slice sl n cl, .slice sc m cc, .int .i64 en] ∧ BlkS wx a3 K gp ∧ Below w.heap.size w wx) ?_ ?_
  · exact ⟨by (repeat (first | with_reducible assumption | ((with_reducible apply live_new) <;> (first | with_reducible rfl | (focus (simp; done)))) | with_reducible apply live_alloc | with_reducible apply live_drew | with_reducible apply live_drewN | ((with_reducible apply live_set_other); (case hb => first | omega | (simp; done))) | with_reducible apply live_set_same | (focus (simp; done)))), HP3.out, by (repeat' (first | with_reducible exact Below.refl _ _ | with_reducible refine Below.drew ?_ | with_reducible refine below_drewN ?_ _ | with_reducible refine Below.alloc ?_ ?_ _ | with_reducible refine Below.setCell ?_ ?_ _ | with_reducible refine Below.trans ?_ (Below.mono (by with_reducible assumption) ?_) | (simp; done) | (simp; omega) | omega))⟩
  clear L p0 q0 q1 q2 hb hb1 z1 L1a p1a f1a r0 r1 r2 hb3 z3 L3a p3a f3a u0 u1 u2 HP3
  rintro W0 ⟨L, hP, hb0⟩
  have z0 := hb0.size
  have HP := Lib.hid hP
  clear hP
  have p0 := L.1
  obtain ⟨q0, q1, q2⟩ := live_q L
  go_upto_region 5 with (go_at_call 22; (with_reducible refine (KQ.out _ ?_ ?_).mono ?_); (· exact blkS_below (B := w.heap.size) (by (repeat' (first | with_reducible exact Below.refl _ _ | with_reducible refine Below.drew ?_ | with_reducible refine below_drewN ?_ _ | with_reducible refine Below.alloc ?_ ?_ _ | with_reducible refine Below.setCell ?_ ?_ _ | with_reducible refine Below.trans ?_ (Below.mono (by with_reducible assumption) ?_) | (simp; done) | (simp; omega) | omega))) (Nat.le_refl _) HL.out); (· exact intS_below (B := w.heap.size) (by (repeat' (first | with_reducible exact Below.refl _ _ | with_reducible refine Below.drew ?_ | with_reducible refine below_drewN ?_ _ | with_reducible refine Below.alloc ?_ ?_ _ | with_reducible refine Below.setCell ?_ ?_ _ | with_reducible refine Below.trans ?_ (Below.mono (by with_reducible assumption) ?_) | (simp; done) | (simp; omega) | omega))) (Nat.le_refl _) HC.out); rintro e w4 ⟨a4, cap4, rfl, hp4, hb4⟩; have z4 := hb4.size; (try simp at z4); have L4a := live_below hb4 (b := w.heap.size) (by (repeat (first | with_reducible assumption | ((with_reducible apply live_new) <;> (first | with_reducible rfl | (focus (simp; done)))) | with_reducible apply live_alloc | with_reducible apply live_drew | with_reducible apply live_drewN | ((with_reducible apply live_set_other); (case hb => first | omega | (simp; done))) | with_reducible apply live_set_same | (focus (simp; done))))); obtain ⟨p4a, e4a, f4a⟩ := id L4a; have HP4 := Lib.hid hp4; clear e4a hp4)
  go_wp2_with (first | (go_at_call 23; (with_reducible refine (KE.out _ _ _ _ _ ?_ ?_).mono ?_); (· exact blkS_below (B := W0.heap.size) (by (repeat' (first | with_reducible exact Below.refl _ _ | with_reducible refine Below.drew ?_ | with_reducible refine below_drewN ?_ _ | with_reducible refine Below.alloc ?_ ?_ _ | with_reducible refine Below.setCell ?_ ?_ _ | with_reducible refine Below.trans ?_ (Below.mono (by with_reducible assumption) ?_) | (simp; done) | (simp; omega) | omega))) (Nat.le_refl _) HP.out); (· exact HP4.out); rintro e w5 ⟨rfl, hb5⟩; have z5 := hb5.size; (try simp at z5)) | (go_at_call 17; refine (law44_awake _).mono ?_; rintro e w9 ⟨rfl, hb9⟩; have z9 := hb9.size; (try simp at z9)))
  go_ret
  refine ⟨rfl, ?_⟩
  (repeat' (first | with_reducible exact Below.refl _ _ | with_reducible refine Below.drew ?_ | with_reducible refine below_drewN ?_ _ | with_reducible refine Below.alloc ?_ ?_ _ | with_reducible refine Below.setCell ?_ ?_ _ | with_reducible refine Below.trans ?_ (Below.mono (by with_reducible assumption) ?_) | (simp; done) | (simp; omega) | omega))

theorem walk (g : Nat → Nat → Int) (z : Nat → Int) (en : Int) (sl sc : Option Addr) (n m cl cc : Nat) (w : World) (hg : ∀ k o, I64 (g k o)) (hz : ∀ k, I64 (z k)) (he : I64 en) (hn : n ≤ 9223372036854775807) (hm : m ≤ 9223372036854775807) (hl : BlkS w sl n g) (hc : IntS w sc m z) : Calls Try.prog 5 #[.agg #[.slice sl n cl, .slice sc m cc, .int .i64 en]] w fun e w' => e = .returned (.bool true) ∧ Below w.heap.size w w' := by
  cases h : shB n m
  · exact walk_long sl sc n m cl cc en w hn hm h
  · exact walk_short g z en sl sc n m cl cc w hg hz he hn hm hl hc h

set_option maxRecDepth 100000 in
theorem lifted (os : Os) (started : os.Started) (H : Type) (enc : TypeId × Value → H) :
    ReturnsInHanded {} Try.checked os 5 .any (Rows.aheadPlansSpec.pre6 enc Try.prog Try.f5 Rows.aheadPlansRow.domain false) (Rows.aheadPlansSpec.post enc Try.prog Try.f5 false true false false) := by
  refine returnsInHanded_of_change (C := Try.checked) own started (by kernel_rfl) Try.func5
    (ChangeSpec.witness6 (enc := enc) (C := Try.checked) false ⟨#[], #[.agg #[.slice none 0 0, .slice none 0 0, .int .i64 0]], []⟩ 8 (by kernel_rfl) (by kernel_rfl) (by kernel_rfl) (by kernel_rfl)) ?_
  intro W base args ds gs before hval0 hW _ _
  have hval : ∀ (j : Nat) t v, Try.f5.params[j]? = some t → args[j]? = some v → Value.okWide Try.prog W .any base t v := hval0
  have hW' := hW
  obtain ⟨p, q, hA0, hV, rfl, _, _⟩ := hW
  have hA : DataW.TrodAll enc Try.prog W 0 (fun _ => true) true Try.f5.params.toList args.toList ds p := hA0
  rw [Try.params5] at hA hval
  obtain ⟨v0, d0, rfl, rfl, h0⟩ := trodAll_one hA
  clear hA hA0 hval0
  obtain ⟨sl0, n0, cl0, sc0, m0, cc0, e0, g0, z0, rfl, hn0, hm0, hl0, hc0, hg0, hz0, he0⟩ := queue_open (hval 0 30 v0 rfl rfl) h0
  exact (walk g0 z0 e0 sl0 sc0 n0 m0 cl0 cc0 W hg0 hz0 he0 hn0 hm0 hl0 hc0).mono fun e W' ⟨he, hb⟩ => ⟨_, he, law_post laidOut (by kernel_rfl) rfl (fun _ => rfl) rfl Try.underlying4 hW' hb⟩

theorem holds : Rows.AheadPlansSaid :=
  OpenClaim.holds_of_wide 5 Try.f5 rfl rfl rfl rfl rfl rfl rfl ⟨rfl, rfl, rfl, rfl, rfl⟩ rfl rfl rfl rfl rfl (by kernel_rfl) Try.func5 (by kernel_rfl)
    (of_decide_eq_true (by kernel_rfl)) (by unfold Func.isWrapper; rw [if_neg (of_decide_eq_false (by kernel_rfl))]; exact ⟨rfl, rfl⟩)
    (fun os started H enc _ => lifted os started H enc)

#print axioms holds
end Go.Proofs.Ytleohgnnbpicjaa.aheadPlans
