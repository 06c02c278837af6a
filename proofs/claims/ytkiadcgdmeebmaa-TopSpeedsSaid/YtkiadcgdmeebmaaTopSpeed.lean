/- TopSpeeds: along any way no step is faster than its block allows, speeds change by at most twice the greater acceleration, and no motor jumps by more than its jerk; for all machines, ways and feeds (ways and machines that the law lets pass are shown to be answered true as well) -/
import Derived.Outline
import Derived.Handy
import Derived.Lib.Hide
import Derived.Deep.RegionWith
import Derived.Deep.RegionHeld3
import Derived.Deep.DeepCutAuto
import Derived.RegionTactic
import Derived.BigRegion
import Derived.BigQuiet
import Derived.Test.YtkiadcgdmeebmaaTopMoved
import Derived.Test.YtkiadcgdmeebmaaTopLaw
namespace Go.Proofs.Ytkiadcgdmeebmaa.topSpeeds
open Go.ChangeShapes Go.WideShapes Go.ChangeAt Go.RowKit
set_option linter.unusedVariables false

attribute [local go_sem] cell_past1 cell_past2 cell_past3 cell_past4 froz_past1 froz_past2 froz_past3
attribute [local go_sem ↓] loadM_in loadB_in

theorem four_at (h : Nat → Nat → Int) (i j : Nat) (hj : j < 4) : (#[.int .i64 (h i 0), .int .i64 (h i 1), .int .i64 (h i 2), .int .i64 (h i 3)] : Array Value)[j]? = some (.int .i64 (h i j)) := by
  rcases (by omega : j = 0 ∨ j = 1 ∨ j = 2 ∨ j = 3) with rfl | rfl | rfl | rfl <;> rfl
def ORel (f : Nat → Int) (x : Bool) (t : Int) (h : Nat → Nat → Int) (N : Nat) (a : Option Addr) (w : World) (s10 s11 s12 : Value) (wx : World) : Prop :=
  ∃ (i : Nat) (last gain : Int), s10 = .int .i64 last ∧ s11 = .int .i64 gain ∧ s12 = .int .i64 i ∧ i ≤ N ∧ (i < N → h i 5 ≤ last ∧ last ≤ h i 5 + 2 * gain ∧ 0 ≤ gain ∧ gain ≤ 16777216) ∧ Live wx w.heap.size (mach f x t) ∧ BlkS wx a N h ∧ Below w.heap.size w wx
def IRel (f : Nat → Int) (x : Bool) (t : Int) (h : Nat → Nat → Int) (N : Nat) (a : Option Addr) (i : Nat) (D : Int) (X : Nat) (w : World) (s10 s11 s15 : Value) (wx : World) : Prop :=
  ∃ k last gain : Int, s10 = .int .i64 last ∧ s11 = .int .i64 gain ∧ s15 = .int .i64 k ∧ 1 ≤ k ∧ k ≤ D + 1 ∧ InOK D (h i 4) (h i 5) (h i 6) (h i 7) k last gain ∧ Live wx X (blkA h i) ∧ Live wx w.heap.size (mach f x t) ∧ BlkS wx a N h ∧ Below w.heap.size w wx
def JRel (f : Nat → Int) (x : Bool) (t : Int) (h : Nat → Nat → Int) (N : Nat) (a : Option Addr) (i : Nat) (X C : Nat) (w : World) (s22 : Value) (wx : World) : Prop :=
  ∃ j : Nat, s22 = .int .i64 j ∧ j ≤ 4 ∧ Live wx X (blkA h i) ∧ Live wx C #[.int .i64 (h (i + 1) 0), .int .i64 (h (i + 1) 1), .int .i64 (h (i + 1) 2), .int .i64 (h (i + 1) 3)] ∧ Live wx w.heap.size (mach f x t) ∧ BlkS wx a N h ∧ Below w.heap.size w wx

set_option maxRecDepth 100000 in
set_option maxHeartbeats 8000000 in
theorem walk (f : Nat → Int) (x : Bool) (t fd : Int) (p : Nat → Nat → Int) (sl : Option Addr) (n cl : Nat) (w : World) (hn : n ≤ 9223372036854775807) (hfd : -9223372036854775808 ≤ fd ∧ fd ≤ 9223372036854775807) (hl : VecS w sl n p) :
    Calls Try.prog 3 #[.agg (mach f x t), .slice sl n cl, .int .i64 fd] w fun e w' => e = .returned (.bool true) ∧ Below w.heap.size w w' := by
  have KMV := Lib.hid top_moved
  have KSH := Lib.hid (fun w hl => top_short p sl n cl w hn hl)
  have KSL := Lib.hid (fun w => top_slow f x t w)
  have HL := Lib.hid hl
  have HFD := Lib.hid hfd
  clear hl hfd
  go_enter Try.func3, Try.ntmps3
  go_upto_region 1 with (fail)
  refine gen_world (fun wx => Live wx w.heap.size (mach f x t) ∧ Below w.heap.size w wx) ?_ ?_
  · exact ⟨live_new _ _ rfl, by (repeat' (first | with_reducible exact Below.refl _ _ | with_reducible refine Below.drew ?_ | with_reducible refine below_drewN ?_ _ | with_reducible refine Below.alloc ?_ ?_ _ | with_reducible refine Below.setCell ?_ ?_ _ | with_reducible refine Below.trans ?_ (Below.mono (by with_reducible assumption) ?_) | (simp; done) | (simp; omega) | omega))⟩
  rintro w0 ⟨L, hb⟩
  have hbs := hb.size
  have lm := loadM_run (live_rangeAll L)
  have HV0 := Lib.hid (vecS_below hb (Nat.le_refl _) HL.out)
  go_upto_region 3 with (first | (go_at_call 5; (with_reducible refine (KSH.out _ HV0.out).mono ?_); rintro e w1 ⟨⟨r1, rfl, hr1⟩, hb1⟩; have z1 := hb1.size; (try simp at z1); have L1 := live_below hb1 L; have lm1 := loadM_run (live_rangeAll L1); have HR1 := Lib.hid hr1; clear hr1; cases r1) | (go_at_call 6; (with_reducible refine (KSL.out _).mono ?_); rintro e w2 ⟨⟨r2, rfl, hr2⟩, hb2⟩; have z2 := hb2.size; (try simp at z2); have L2 := live_below hb2 L1; have HR2 := Lib.hid hr2; clear hr2; cases r2) | (go_at_call 7; (with_reducible refine (KMV.out _).mono ?_); rintro e wm ⟨rfl, hbm⟩; have zm := hbm.size; (try simp at zm)))
  · go_ret
    refine ⟨rfl, ?_⟩
    (repeat' (first | with_reducible exact Below.refl _ _ | with_reducible refine Below.drew ?_ | with_reducible refine below_drewN ?_ _ | with_reducible refine Below.alloc ?_ ?_ _ | with_reducible refine Below.setCell ?_ ?_ _ | with_reducible refine Below.trans ?_ (Below.mono (by with_reducible assumption) ?_) | (simp; done) | (simp; omega) | omega))
  · go_ret
    refine ⟨rfl, ?_⟩
    (repeat' (first | with_reducible exact Below.refl _ _ | with_reducible refine Below.drew ?_ | with_reducible refine below_drewN ?_ _ | with_reducible refine Below.alloc ?_ ?_ _ | with_reducible refine Below.setCell ?_ ?_ _ | with_reducible refine Below.trans ?_ (Below.mono (by with_reducible assumption) ?_) | (simp; done) | (simp; omega) | omega))
  have hnear := HR1.out trivial
  have hslow := HR2.out trivial
  refine gen_world (fun wx => Live wx w.heap.size (mach f x t) ∧ VecS wx sl n p ∧ Below w.heap.size w wx) ?_ ?_
  · exact ⟨L2, vecS_below (B := w.heap.size) (by (repeat' (first | with_reducible exact Below.refl _ _ | with_reducible refine Below.drew ?_ | with_reducible refine below_drewN ?_ _ | with_reducible refine Below.alloc ?_ ?_ _ | with_reducible refine Below.setCell ?_ ?_ _ | with_reducible refine Below.trans ?_ (Below.mono (by with_reducible assumption) ?_) | (simp; done) | (simp; omega) | omega))) (Nat.le_refl _) HL.out, by (repeat' (first | with_reducible exact Below.refl _ _ | with_reducible refine Below.drew ?_ | with_reducible refine below_drewN ?_ _ | with_reducible refine Below.alloc ?_ ?_ _ | with_reducible refine Below.setCell ?_ ?_ _ | with_reducible refine Below.trans ?_ (Below.mono (by with_reducible assumption) ?_) | (simp; done) | (simp; omega) | omega))⟩
  clear L hb hbs lm HV0 hb1 z1 L1 lm1 HR1 hb2 z2 L2 HR2 HL KSH KSL
  rintro w3 ⟨L, hV, hb⟩
  have hbs := hb.size
  have p0 := L.1
  have lm := loadM_run (live_rangeAll L)
  have HV := Lib.hid hV
  clear hV
  by_cases hv : kinValid f t = true
  case neg =>
    have KP := Lib.hid (fun w => top_planned_no f x t fd sl n cl w (by simpa using hv))
    go_wp2_with (first | (go_at_call 8; (with_reducible refine (KP.out _).mono ?_); rintro e w4 ⟨rfl, hb4⟩; have z4 := hb4.size; (try simp at z4)) | (go_at_call 7; (with_reducible refine (KMV.out _).mono ?_); rintro e wm ⟨rfl, hbm⟩; have zm := hbm.size; (try simp at zm)))
    go_ret
    refine ⟨rfl, ?_⟩
    (repeat' (first | with_reducible exact Below.refl _ _ | with_reducible refine Below.drew ?_ | with_reducible refine below_drewN ?_ _ | with_reducible refine Below.alloc ?_ ?_ _ | with_reducible refine Below.setCell ?_ ?_ _ | with_reducible refine Below.trans ?_ (Below.mono (by with_reducible assumption) ?_) | (simp; done) | (simp; omega) | omega))
  by_cases hE : plnE (wG f x t fd p n) (wZ f x t fd p n) 0 (wN f x t p n) (wN f x t p n) = 0
  case neg =>
    have KP : Hid (∀ w, VecS w sl n p → Calls Try.prog 8 #[.agg (mach f x t), .slice sl n cl, .int .i64 fd] w fun e w' => ∃ a cap, e = .returned (.tuple #[.slice a 0 cap, .agg #[.int .i64 (wAt f x t p n 0), .int .i64 (wAt f x t p n 1), .int .i64 (wAt f x t p n 2), .int .i64 (wAt f x t p n 3)], .bool false]) ∧ Below w.heap.size w w') := Lib.hid (fun w hl => (top_planned f x t fd p sl n cl w hv (hslow hv) hnear HFD.out hl).mono (fun e w' h => plan_no h hE))
    clear hE hnear hslow hv
    go_wp2_with (first | (go_at_call 8; (with_reducible refine (KP.out _ HV.out).mono ?_); rintro e w4 ⟨a4, cap4, rfl, hb4⟩; have z4 := hb4.size; (try simp at z4)) | (go_at_call 7; (with_reducible refine (KMV.out _).mono ?_); rintro e wm ⟨rfl, hbm⟩; have zm := hbm.size; (try simp at zm)))
    go_ret
    refine ⟨rfl, ?_⟩
    (repeat' (first | with_reducible exact Below.refl _ _ | with_reducible refine Below.drew ?_ | with_reducible refine below_drewN ?_ _ | with_reducible refine Below.alloc ?_ ?_ _ | with_reducible refine Below.setCell ?_ ?_ _ | with_reducible refine Below.trans ?_ (Below.mono (by with_reducible assumption) ?_) | (simp; done) | (simp; omega) | omega))
  have KP : Hid (∀ w, VecS w sl n p → Calls Try.prog 8 #[.agg (mach f x t), .slice sl n cl, .int .i64 fd] w fun e w' => ∃ a cap, e = .returned (.tuple #[.slice a (wN f x t p n) cap, .agg #[.int .i64 (wAt f x t p n 0), .int .i64 (wAt f x t p n 1), .int .i64 (wAt f x t p n 2), .int .i64 (wAt f x t p n 3)], .bool true]) ∧ BlkS w' a (wN f x t p n) (plnG (wG f x t fd p n) (wZ f x t fd p n) 0 (wN f x t p n) (wN f x t p n)) ∧ Below w.heap.size w w') := Lib.hid (fun w hl => (top_planned f x t fd p sl n cl w hv (hslow hv) hnear HFD.out hl).mono (fun e w' h => plan_yes h hE))
  have hT := top_ok f x t fd p n hv (hslow hv) hnear hE
  have hN12 : wN f x t p n ≤ 12 := Nat.le_trans (wN_le f x t p n) hnear.1
  have hJ : ∀ j, j < 4 → 0 ≤ f (7 * j + 4) ∧ f (7 * j + 4) ≤ 1048576 := fun j hj => (acc_facts f t hv j hj).2.2
  generalize plnG (wG f x t fd p n) (wZ f x t fd p n) 0 (wN f x t p n) (wN f x t p n) = h at *
  generalize wN f x t p n = N at *
  have HT := Lib.hid hT
  have HJ := Lib.hid hJ
  clear hT hJ hE hnear hslow hv
  go_upto_region 6 with (go_at_call 8; (with_reducible refine (KP.out _ HV.out).mono ?_); rintro e w4 ⟨a4, cap4, rfl, hB4, hb4⟩; have z4 := hb4.size; (try simp at z4); have L4 := live_below hb4 L; have HB4 := Lib.hid hB4; clear hB4)
  refine gen_world (fun wx => Live wx w.heap.size (mach f x t) ∧ BlkS wx a4 N h ∧ Below w.heap.size w wx) ?_ ?_
  · exact ⟨by (repeat (first | with_reducible assumption | ((with_reducible apply live_new) <;> (first | with_reducible rfl | (focus (simp; done)))) | with_reducible apply live_alloc | with_reducible apply live_drew | with_reducible apply live_drewN | with_reducible apply live_put10 | with_reducible apply live_put8 | with_reducible apply live_put4 | ((with_reducible apply live_put10_other); (case hb => first | omega | (simp; done))) | ((with_reducible apply live_put8_other); (case hb => first | omega | (simp; done))) | ((with_reducible apply live_put4_other); (case hb => first | omega | (simp; done))) | ((with_reducible apply live_set_other); (case hb => first | omega | (simp; done))) | (focus (simp; done)))), blkS_below (B := w4.heap.size) (by (repeat' (first | with_reducible exact Below.refl _ _ | with_reducible refine Below.drew ?_ | with_reducible refine below_drewN ?_ _ | with_reducible refine Below.alloc ?_ ?_ _ | with_reducible refine Below.setCell ?_ ?_ _ | with_reducible refine Below.trans ?_ (Below.mono (by with_reducible assumption) ?_) | (simp; done) | (simp; omega) | omega))) (Nat.le_refl _) HB4.out, by (repeat' (first | with_reducible exact Below.refl _ _ | with_reducible refine Below.drew ?_ | with_reducible refine below_drewN ?_ _ | with_reducible refine Below.alloc ?_ ?_ _ | with_reducible refine Below.setCell ?_ ?_ _ | with_reducible refine Below.trans ?_ (Below.mono (by with_reducible assumption) ?_) | (simp; done) | (simp; omega) | omega))⟩
  clear L hb hbs p0 lm HV KP hb4 z4 L4 HB4
  rintro w5 ⟨L, hB, hb⟩
  go_wp2_with fail
  go_loopw [10, 11, 12] (ORel f x t h N a4 w) (fun _ _ i _ => N - (intOf i).toNat)
  case atStart => exact ⟨0, 0, 0, rfl, rfl, rfl, by omega, fun h0 => by have := HT.out.2.1 h0; omega, L, hB, hb⟩
  case round =>
    clear L hB hb
    obtain ⟨i, last, gain, rfl, rfl, rfl, hi, hst, L, hB, hb⟩ := hrel
    have hbs := hb.size
    have p0 := L.1
    have HB := Lib.hid hB
    by_cases hlt : i < N
    · obtain ⟨ba, oa, rfl, hlta, _⟩ := hB (by omega)
      clear hB
      obtain ⟨hbv, ⟨d0, d1⟩, hcc, g1, g2⟩ := HT.out.1 i hlt
      obtain ⟨hsn, e0, e1, x0, x1⟩ := bval_in h i hbv
      obtain ⟨⟨a0, a1⟩, ⟨c0, c1⟩, _, _⟩ := bsnd_in h i hsn
      have hD0 : ∃ D, D = gD h i := ⟨_, rfl⟩
      obtain ⟨D, hD⟩ := hD0
      rw [← hD] at d0 d1 g1 g2
      have hst := hst hlt
      have HST : Hid (InOK D (h i 4) (h i 5) (h i 6) (h i 7) 1 last gain) := Lib.hid (.inl ⟨rfl, hst⟩)
      have KSQ : Hid (∀ k, 1 ≤ k → k ≤ D → ∀ w, Calls Try.prog 10 #[.agg (blkA h i), .int .i64 k] w fun e w' => e = .returned (.int .i64 (sqI D (h i 4) (h i 5) (h i 6) (h i 7) k)) ∧ Below w.heap.size w w') := Lib.hid (fun k k0 k1 w => by
        have hr := ramp_square (h i 0) (h i 1) (h i 2) (h i 3) (h i 4) (h i 5) (h i 6) (h i 7) k w
        have hN : blkN (h i 0) (h i 1) (h i 2) (h i 3) (h i 4) (h i 5) (h i 6) (h i 7) = D := by rw [hD]; unfold blkN; exact if_pos hbv
        rw [hN] at hr
        unfold sqV at hr
        rw [if_neg (by omega)] at hr
        exact hr)
      have KD : Hid (∀ w, Calls Try.prog 9 #[.agg #[.int .i64 (h i 0), .int .i64 (h i 1), .int .i64 (h i 2), .int .i64 (h i 3)]] w fun e w' => e = .returned (.int .i64 D) ∧ Below w.heap.size w w') := Lib.hid (fun w => (ref42_dom _ _ _ _ w).mono (fun e w' ⟨h1, h2⟩ => ⟨by rw [h1, hD]; rfl, by rw [← h2]; exact Below.alloc (Below.alloc (Below.refl _ _) (Nat.le_refl _) _) (by simp) _⟩))
      have HIN : Hid (∀ k last gain, InOK D (h i 4) (h i 5) (h i 6) (h i 7) k last gain → 1 ≤ k → k ≤ D → (1 ≤ (sqI D (h i 4) (h i 5) (h i 6) (h i 7) k) ∧ (sqI D (h i 4) (h i 5) (h i 6) (h i 7) k) ≤ h i 6) ∧ (sqI D (h i 4) (h i 5) (h i 6) (h i 7) k) - last ≤ 2 * max (h i 4) gain ∧ last - (sqI D (h i 4) (h i 5) (h i 6) (h i 7) k) ≤ 2 * max (h i 4) gain ∧ (0 ≤ last ∧ last ≤ 1099545182208) ∧ (0 ≤ gain ∧ gain ≤ 16777216) ∧ InOK D (h i 4) (h i 5) (h i 6) (h i 7) (k + 1) (sqI D (h i 4) (h i 5) (h i 6) (h i 7) k) (h i 4)) := Lib.hid (fun k last gain h0 k0 k1 => in_step D (h i 4) (h i 5) (h i 6) (h i 7) k last gain h0 d0 (by omega) a0 a1 c0 c1 e0 x0 e1 x1 g1 g2 k0 k1)
      have HEND : Hid (∀ last gain, InOK D (h i 4) (h i 5) (h i 6) (h i 7) (D + 1) last gain → gain = h i 4 ∧ h i 7 ≤ last ∧ last ≤ h i 7 + 2 * h i 4) := Lib.hid (fun last gain h0 => in_end D (h i 4) (h i 5) (h i 6) (h i 7) last gain h0 d0 a0 e1 x1 g1 g2)
      have HCC := Lib.hid hcc
      have HD := Lib.hid hD
      have HX0 := Lib.hid x0
      clear hst hbv hsn g1 g2 e0 e1 x0 hcc hD
      have j0 : decide ((i : Int) < (N : Int)) = true := by simp; omega
      have j1 : (i : Int) < (N : Int) := by omega
      go_upto_region 11 with (first | ((with_reducible refine wpList_load_in (ty := 36) ba (oa + i * 8) (blkA h i) ?_ (blkS_rng HB.out i hlt) Try.underlying36 ?_ ?_ ?_); (· rfl); (· rfl); (· kernel_rfl)) | ((with_reducible refine wpList_store_in (ty := 36) wr.heap.size 0 (blkA h i) ?_ ?_ ?_ ?_ (blkA_one _ _) ?_); (· rfl); (· rfl); (· exact live_there (live_new _ _ rfl) 0 8 (by decide)); (· kernel_rfl)))
      refine gen_world (fun wx => ∃ X, X = wr.heap.size ∧ w.heap.size < X ∧ Live wx X (blkA h i) ∧ Live wx w.heap.size (mach f x t) ∧ BlkS wx (some ⟨ba, oa, none⟩) N h ∧ Below w.heap.size w wx) ?_ ?_
      · have hbb : Below wr.heap.size wr ((wr.alloc (.cells #[.int .i64 0, .int .i64 0, .int .i64 0, .int .i64 0, .int .i64 0, .int .i64 0, .int .i64 0, .int .i64 0] 36)).setCells wr.heap.size 0 (blkA h i).toList) := below_setCells (Nat.le_refl _) _ _ _ (by (repeat' (first | with_reducible exact Below.refl _ _ | with_reducible refine Below.drew ?_ | with_reducible refine below_drewN ?_ _ | with_reducible refine Below.alloc ?_ ?_ _ | with_reducible refine Below.setCell ?_ ?_ _ | with_reducible refine Below.trans ?_ (Below.mono (by with_reducible assumption) ?_) | (simp; done) | (simp; omega) | omega)))
        exact ⟨_, rfl, p0, live_whole (live_new _ _ rfl) _ rfl, live_below hbb L, blkS_below hbb (Nat.le_refl _) HB.out, hb.trans (hbb.mono hbs)⟩
      clear L hb hbs p0 HB hlta
      rintro w6 ⟨X, hX, hXM, LX, L, hB, hb⟩
      rw [← hX]
      clear hX
      have hbs := hb.size
      have p0 := L.1
      have pX := LX.1
      have HB := Lib.hid hB
      clear hB
      have y0 := LX.2.1 0
      rw [blkA_at h i 0 (by omega)] at y0
      have y1 := LX.2.1 1
      rw [blkA_at h i 1 (by omega)] at y1
      have y2 := LX.2.1 2
      rw [blkA_at h i 2 (by omega)] at y2
      have y3 := LX.2.1 3
      rw [blkA_at h i 3 (by omega)] at y3
      go_upto_region 12 with (go_at_call 9; (with_reducible refine (KD.out _).mono ?_); rintro e w7 ⟨rfl, hb7⟩; have z7 := hb7.size; (try simp at z7))
      refine gen_world (fun wx => Live wx X (blkA h i) ∧ Live wx w.heap.size (mach f x t) ∧ BlkS wx (some ⟨ba, oa, none⟩) N h ∧ Below w.heap.size w wx) ?_ ?_
      · exact ⟨live_below hb7 LX, live_below hb7 L, blkS_below hb7 (Nat.le_refl _) HB.out, by (repeat' (first | with_reducible exact Below.refl _ _ | with_reducible refine Below.drew ?_ | with_reducible refine below_drewN ?_ _ | with_reducible refine Below.alloc ?_ ?_ _ | with_reducible refine Below.setCell ?_ ?_ _ | with_reducible refine Below.trans ?_ (Below.mono (by with_reducible assumption) ?_) | (simp; done) | (simp; omega) | omega))⟩
      clear LX L HB hb hbs p0 pX y0 y1 y2 y3 hb7 z7 KD
      rintro w8 ⟨LX, L, hB, hb⟩
      go_wp2_with fail
      go_loopw [10, 11, 15] (IRel f x t h N (some ⟨ba, oa, none⟩) i D X w) (fun _ _ k _ => (D + 1 - intOf k).toNat)
      case atStart => exact ⟨1, last, gain, rfl, rfl, rfl, by omega, by omega, HST.out, LX, L, hB, hb⟩
      case round =>
        clear LX L hB hb HST
        obtain ⟨k, last, gain, rfl, rfl, rfl, k0, k1, hin, LX, L, hB, hb⟩ := hrel
        have hbs := hb.size
        have p0 := L.1
        have pX := LX.1
        have HB := Lib.hid hB
        clear hB
        by_cases hk : k ≤ D
        · obtain ⟨⟨s0, s1⟩, s2, s3, ⟨s4, s5⟩, ⟨s6, s7⟩, hin2⟩ := HIN.out k last gain hin k0 hk
          have KS := Lib.hid (KSQ.out k k0 hk)
          have HIN2 := Lib.hid hin2
          clear hin hin2
          generalize (sqI D (h i 4) (h i 5) (h i 6) (h i 7) k) = S at *
          have lbX := loadB_run (live_rangeAll LX)
          have b0 : decide (k ≤ D) = true := decide_eq_true hk
          have b1 : decide (S < 1) = false := by simp; omega
          have b2 : decide (h i 6 < S) = false := by simp; omega
          have hmx := @run_max2 Try.prog
          have m0 : IntKind.i64.wrap (2 * max (h i 4) gain) = 2 * max (h i 4) gain := IntWalk.i64_in _ (by omega)
          have m0' : RowKit.wrap64 (2 * max (h i 4) gain) = 2 * max (h i 4) gain := by unfold RowKit.wrap64; omega
          have m1 : IntKind.i64.wrap (S - last) = S - last := IntWalk.i64_in _ (by omega)
          have m1' : RowKit.wrap64 (S - last) = S - last := by unfold RowKit.wrap64; omega
          have m2 : IntKind.i64.wrap (last - S) = last - S := IntWalk.i64_in _ (by omega)
          have m2' : RowKit.wrap64 (last - S) = last - S := by unfold RowKit.wrap64; omega
          have m3 : IntKind.i64.wrap (k + 1) = k + 1 := IntWalk.i64_in _ (by omega)
          have m3' : RowKit.wrap64 (k + 1) = k + 1 := by unfold RowKit.wrap64; omega
          have b3 : decide (2 * max (h i 4) gain < S - last) = false := by simp; omega
          have b4 : decide (2 * max (h i 4) gain < last - S) = false := by simp; omega
          clear s2 s3
          go_wp2_with (go_at_call 10; (with_reducible refine (KS.out _).mono ?_); rintro e w9 ⟨rfl, hb9⟩; have z9 := hb9.size; (try simp at z9); have L9a := live_below hb9 (b := w.heap.size) (by (repeat (first | with_reducible assumption | ((with_reducible apply live_new) <;> (first | with_reducible rfl | (focus (simp; done)))) | with_reducible apply live_alloc | with_reducible apply live_drew | with_reducible apply live_drewN | ((with_reducible apply live_set_other); (case hb => first | omega | (simp; done))) | with_reducible apply live_set_same | (focus (simp; done))))); obtain ⟨p9a, e9a, f9a⟩ := id L9a; have L9b := live_below hb9 (b := X) (by (repeat (first | with_reducible assumption | ((with_reducible apply live_new) <;> (first | with_reducible rfl | (focus (simp; done)))) | with_reducible apply live_alloc | with_reducible apply live_drew | with_reducible apply live_drewN | ((with_reducible apply live_set_other); (case hb => first | omega | (simp; done))) | with_reducible apply live_set_same | (focus (simp; done))))); obtain ⟨p9b, e9b, f9b⟩ := id L9b; clear e9a e9b; have y4 := L9b.2.1 4; rw [blkA_at h i 4 (by omega)] at y4; have y6 := L9b.2.1 6; rw [blkA_at h i 6 (by omega)] at y6)
          go_roundw
          case rel => exact ⟨k + 1, S, h i 4, rfl, rfl, by go_num, by omega, by omega, HIN2.out, L9b, L9a, blkS_below hb9 (Nat.le_refl _) HB.out, by (repeat' (first | with_reducible exact Below.refl _ _ | with_reducible refine Below.drew ?_ | with_reducible refine below_drewN ?_ _ | with_reducible refine Below.alloc ?_ ?_ _ | with_reducible refine Below.setCell ?_ ?_ _ | with_reducible refine Below.trans ?_ (Below.mono (by with_reducible assumption) ?_) | (simp; done) | (simp; omega) | omega))⟩
          case measure => first | (simp [intOf]; done) | (simp [intOf]; omega)
        · obtain rfl : k = D + 1 := by omega
          have b0 : decide (D + 1 ≤ D) = false := by simp; omega
          obtain ⟨hg, l0, l1⟩ := HEND.out last gain hin
          subst hg
          clear hin HIN HEND KSQ
          have N1 := Lib.hid (show IntKind.i64.wrap ((i : Int) + 1) = ((i + 1 : Nat) : Int) from IntWalk.i64_in _ (by omega))
          have N1' := Lib.hid (show RowKit.wrap64 ((i : Int) + 1) = ((i + 1 : Nat) : Int) from by unfold RowKit.wrap64; omega)
          by_cases hl : i + 1 = N
          · have hx7 := HT.out.2.2.2.1 i hl
            have b1 : (((i + 1 : Nat) : Int) == (N : Int)) = true := by rw [hl]; exact beq_self_eq_true _
            have m0 : IntKind.i64.wrap (2 * h i 4) = 2 * h i 4 := IntWalk.i64_in _ (by omega)
            have m0' : RowKit.wrap64 (2 * h i 4) = 2 * h i 4 := by unfold RowKit.wrap64; omega
            have b2 : decide (last ≤ 2 * h i 4) = true := by simp; omega
            have y4 := LX.2.1 4
            rw [blkA_at h i 4 (by omega)] at y4
            have y7 := LX.2.1 7
            rw [blkA_at h i 7 (by omega), hx7] at y7
            have n1 := N1.out
            have n1' := N1'.out
            go_wp2_with (go_at_call 7; (with_reducible refine (KMV.out _).mono ?_); rintro e wm ⟨rfl, hbm⟩; have zm := hbm.size; (try simp at zm))
            go_ret
            refine ⟨rfl, ?_⟩
            (repeat' (first | with_reducible exact Below.refl _ _ | with_reducible refine Below.drew ?_ | with_reducible refine below_drewN ?_ _ | with_reducible refine Below.alloc ?_ ?_ _ | with_reducible refine Below.setCell ?_ ?_ _ | with_reducible refine Below.trans ?_ (Below.mono (by with_reducible assumption) ?_) | (simp; done) | (simp; omega) | omega))
          · have hlt2 : i + 1 < N := Nat.lt_of_le_of_ne hlt hl
            have b1 : (((i + 1 : Nat) : Int) == (N : Int)) = false := beq_eq_false_iff_ne.2 (fun e => hl (Int.ofNat_inj.1 e))
            have hx := HT.out.2.2.1 i hlt2
            obtain ⟨_, ⟨k0', k1'⟩, hcc2, _, _⟩ := HT.out.1 (i + 1) hlt2
            have hjj := HT.out.2.2.2.2 i hlt2
            have HX := Lib.hid hx
            have x0 := HX0.out
            obtain ⟨v, hv⟩ : ∃ v : Int, v = (isq (h i 7).toNat : Int) := ⟨_, rfl⟩
            obtain ⟨E, hE⟩ : ∃ E : Int, E = gD h (i + 1) := ⟨_, rfl⟩
            rw [← HD.out, ← hE, ← hv] at hjj
            rw [← hE] at k0' k1'
            have v0 : 0 ≤ v ∧ v ≤ 1048576 := by
              refine ⟨by omega, sq_le (by omega) ?_⟩
              have q1 := Int.ofNat_le.2 (isq_spec (h i 7).toNat (by omega)).1
              rw [Int.natCast_mul, ← hv] at q1
              omega
            have KI : Hid (∀ w, Calls Try.prog 11 #[.int .i64 (h i 7)] w fun e w' => e = .returned (.tuple #[.int .i64 v, .int .i64 0]) ∧ w = w') := Lib.hid (fun w => by
              have hq := ref01_isqrt (h i 7).toNat w (by omega)
              rw [← hv, show (((h i 7).toNat : Nat) : Int) = h i 7 by omega] at hq
              exact hq)
            have KE : Hid (∀ w, Calls Try.prog 9 #[.agg #[.int .i64 (h (i + 1) 0), .int .i64 (h (i + 1) 1), .int .i64 (h (i + 1) 2), .int .i64 (h (i + 1) 3)]] w fun e w' => e = .returned (.int .i64 E) ∧ Below w.heap.size w w') := Lib.hid (fun w => (ref42_dom _ _ _ _ w).mono (fun e w' ⟨h1, h2⟩ => ⟨by rw [h1, hE]; rfl, by rw [← h2]; exact Below.alloc (Below.alloc (Below.refl _ _) (Nat.le_refl _) _) (by simp) _⟩))
            have HJJ := Lib.hid hjj
            have HCC2 := Lib.hid hcc2
            have y7 := LX.2.1 7
            rw [blkA_at h i 7 (by omega)] at y7
            have w0 := blkS_cell HB.out (i + 1) 0 hlt2 (by omega)
            have w1 := blkS_cell HB.out (i + 1) 1 hlt2 (by omega)
            have w2 := blkS_cell HB.out (i + 1) 2 hlt2 (by omega)
            have w3 := blkS_cell HB.out (i + 1) 3 hlt2 (by omega)
            rw [Nat.add_zero] at w0
            clear hx hjj hcc2 hv hE x0
            have n1 := N1.out
            go_upto_region 25 with (go_at_call 11; (with_reducible refine (KI.out _).mono ?_); rintro e w9 ⟨rfl, rfl⟩)
            clear n1
            refine gen_world (fun wx => Below wr.heap.size wr wx ∧ Live wx wr.heap.size #[.int .i64 (h (i + 1) 0), .int .i64 (h (i + 1) 1), .int .i64 (h (i + 1) 2), .int .i64 (h (i + 1) 3)]) ⟨by (repeat' (first | with_reducible exact Below.refl _ _ | with_reducible refine Below.drew ?_ | with_reducible refine below_drewN ?_ _ | with_reducible refine Below.alloc ?_ ?_ _ | with_reducible refine Below.setCell ?_ ?_ _ | with_reducible refine Below.trans ?_ (Below.mono (by with_reducible assumption) ?_) | (simp; done) | (simp; omega) | omega)), by (repeat (first | with_reducible assumption | ((with_reducible apply live_new) <;> (first | with_reducible rfl | (focus (simp; done)))) | with_reducible apply live_alloc | with_reducible apply live_drew | with_reducible apply live_drewN | with_reducible apply live_put10 | with_reducible apply live_put8 | with_reducible apply live_put4 | ((with_reducible apply live_put10_other); (case hb => first | omega | (simp; done))) | ((with_reducible apply live_put8_other); (case hb => first | omega | (simp; done))) | ((with_reducible apply live_put4_other); (case hb => first | omega | (simp; done))) | ((with_reducible apply live_set_other); (case hb => first | omega | (simp; done))) | (focus (simp; done))))⟩ ?_
            rintro wy ⟨hbb, LC⟩
            have LX' := live_below hbb LX
            have L' := live_below hbb L
            have hB' := blkS_below hbb (Nat.le_refl _) HB.out
            have hb' := hb.trans (hbb.mono hbs)
            obtain ⟨C, hC⟩ : ∃ C, C = wr.heap.size := ⟨_, rfl⟩
            have hCX : X < C := by omega
            rw [← hC] at LC ⊢
            clear hC LX L HB hb hbs p0 pX w0 w1 w2 w3 y7 KI hbb
            have hbs := hb'.size
            have pC := LC.1
            have HB := Lib.hid hB'
            clear hB'
            obtain ⟨q0, q1, q2, q3⟩ := live_four LC
            go_upto_region 26 with (go_at_call 9; (with_reducible refine (KE.out _).mono ?_); rintro e w7 ⟨rfl, hb7⟩; have z7 := hb7.size; (try simp at z7))
            refine gen_world (fun wx => Live wx X (blkA h i) ∧ Live wx C #[.int .i64 (h (i + 1) 0), .int .i64 (h (i + 1) 1), .int .i64 (h (i + 1) 2), .int .i64 (h (i + 1) 3)] ∧ Live wx w.heap.size (mach f x t) ∧ BlkS wx (some ⟨ba, oa, none⟩) N h ∧ Below w.heap.size w wx) ?_ ?_
            · exact ⟨live_below hb7 LX', live_below hb7 LC, live_below hb7 L', blkS_below hb7 (Nat.le_refl _) HB.out, by (repeat' (first | with_reducible exact Below.refl _ _ | with_reducible refine Below.drew ?_ | with_reducible refine below_drewN ?_ _ | with_reducible refine Below.alloc ?_ ?_ _ | with_reducible refine Below.setCell ?_ ?_ _ | with_reducible refine Below.trans ?_ (Below.mono (by with_reducible assumption) ?_) | (simp; done) | (simp; omega) | omega))⟩
            clear LX' L' LC HB hb' hbs pC q0 q1 q2 q3 hb7 z7 KE
            rintro wz ⟨LX, LC, L, hB, hb⟩
            go_wp2_with fail
            go_loopw [22] (JRel f x t h N (some ⟨ba, oa, none⟩) i X C w) (fun j _ => 4 - (intOf j).toNat)
            case atStart => exact ⟨0, rfl, by omega, LX, LC, L, hB, hb⟩
            case round =>
              clear LX LC L hB hb
              obtain ⟨j, rfl, hj, LX, LC, L, hB, hb⟩ := hrel
              have hbs := hb.size
              have p0 := L.1
              have pX := LX.1
              have pC := LC.1
              have HB := Lib.hid hB
              clear hB
              by_cases hj4 : j < 4
              · have y7 := LX.2.1 7
                rw [blkA_at h i 7 (by omega)] at y7
                have yj := LX.2.1 j
                rw [blkA_at h i j (by omega)] at yj
                have cj := LC.2.1 j
                rw [four_at h (i + 1) j hj4] at cj
                have mj := live_axis L (j * 7 + 4) (by omega)
                have w5 := blkS_cell HB.out (i + 1) 5 hlt2 (by omega)
                rw [← HX.out] at w5
                have hjm := HJ.out j hj4
                have hjj := HJJ.out j hj4
                rw [show 7 * j + 4 = j * 7 + 4 by omega] at hjm hjj
                obtain ⟨g0, g1⟩ := HCC.out j hj4
                obtain ⟨g2, g3⟩ := HCC2.out j hj4
                obtain ⟨⟨P, hP⟩, ⟨Q, hQ⟩, ⟨S, hS⟩, ⟨R, hR⟩, ⟨U, hU⟩⟩ : (∃ P, P = h i j * E) ∧ (∃ Q, Q = h (i + 1) j * D) ∧ (∃ S, S = v * (h i j * E - h (i + 1) j * D)) ∧ (∃ R, R = f (j * 7 + 4) * D) ∧ (∃ U, U = f (j * 7 + 4) * D * E) := ⟨⟨_, rfl⟩, ⟨_, rfl⟩, ⟨_, rfl⟩, ⟨_, rfl⟩, ⟨_, rfl⟩⟩
                have hP2 := mul_bd (h i j) E 3200 3200 (by omega) (by omega) (by omega) (by omega) (by omega)
                have hQ2 := mul_bd (h (i + 1) j) D 3200 3200 (by omega) (by omega) (by omega) (by omega) (by omega)
                rw [← hP] at hP2 hS
                rw [← hQ] at hQ2 hS
                have hS2 := mul_bd (P - Q) v 20480000 1048576 (by omega) (by omega) (by omega) (by omega) (by omega)
                rw [Int.mul_comm (P - Q) v, ← hS] at hS2
                have hR2 := mul_bd (f (j * 7 + 4)) D 1048576 3200 (by omega) (by omega) (by omega) (by omega) (by omega)
                rw [← hR] at hR2 hU
                have hU2 := mul_bd R E 3355443200 3200 (by omega) (by omega) (by omega) (by omega) (by omega)
                rw [← hU] at hU2
                rw [← hP, ← hQ, ← hS, ← hR, ← hU] at hjj
                have hPQ : IntKind.i64.wrap (P - Q) = P - Q := IntWalk.i64_in _ (by omega)
                have hPQ' : RowKit.wrap64 (P - Q) = P - Q := by unfold RowKit.wrap64; omega
                have hSS : S = v * (P - Q) := hS
                have hw1 : IntKind.i64.wrap (h i j * E) = P := by rw [← hP]; exact IntWalk.i64_in _ (by omega)
                have hw1' : RowKit.wrap64 (h i j * E) = P := by rw [← hP]; unfold RowKit.wrap64; omega
                have hw2 : IntKind.i64.wrap (h (i + 1) j * D) = Q := by rw [← hQ]; exact IntWalk.i64_in _ (by omega)
                have hw2' : RowKit.wrap64 (h (i + 1) j * D) = Q := by rw [← hQ]; unfold RowKit.wrap64; omega
                have hw3 : IntKind.i64.wrap (v * (P - Q)) = S := by rw [← hSS]; exact IntWalk.i64_in _ (by omega)
                have hw3' : RowKit.wrap64 (v * (P - Q)) = S := by rw [← hSS]; unfold RowKit.wrap64; omega
                have hw4 : IntKind.i64.wrap (f (j * 7 + 4) * D) = R := by rw [← hR]; exact IntWalk.i64_in _ (by omega)
                have hw4' : RowKit.wrap64 (f (j * 7 + 4) * D) = R := by rw [← hR]; unfold RowKit.wrap64; omega
                have hw5 : IntKind.i64.wrap (R * E) = U := by rw [← hU]; exact IntWalk.i64_in _ (by omega)
                have hw5' : RowKit.wrap64 (R * E) = U := by rw [← hU]; unfold RowKit.wrap64; omega
                have hw6 : IntKind.i64.wrap (-S) = -S := IntWalk.i64_in _ (by omega)
                have hw6' : RowKit.wrap64 (-S) = -S := by unfold RowKit.wrap64; omega
                have hw7 : RowKit.wrap64 (0 - S) = -S := by unfold RowKit.wrap64; omega
                have hgt : decide (U < max S (-S)) = false := by unfold ab at hjj; simp; omega
                have hmx := @run_max2 Try.prog
                have j2 : decide ((j : Int) < 4) = true := by simp; omega
                have j3 : (j : Int) < 4 := by omega
                clear hP hQ hS hR hU hP2 hQ2 hS2 hR2 hU2 hjj hjm g0 g1 g2 g3 hSS
                go_wp2_with fail
                go_region
                go_wp2_with fail
                have n2 : (0 : Int) ≤ ((i + 1 : Nat) : Int) := Int.natCast_nonneg _
                have n3 : ((i + 1 : Nat) : Int) < (N : Int) := Int.ofNat_lt.2 hlt2
                have n4 : ((i + 1 : Nat) : Int) ≤ (N : Int) := Int.ofNat_le.2 hlt
                have n5 : ((i + 1 : Nat) : Int).toNat = i + 1 := Int.toNat_natCast _
                have n6 : (0 : Int) ≤ (i : Int) + 1 := by omega
                have n7 : (i : Int) + 1 < (N : Int) := by omega
                have n8 : (i : Int) + 1 ≤ (N : Int) := by omega
                have n9 : ((i : Int) + 1).toNat = i + 1 := by omega
                have n1 := N1.out
                go_region_held3 (fun w' => w'.cell? ⟨X, 7, none⟩ = some (.int .i64 (h i 7)) ∧ w'.cell? ⟨w.heap.size, j * 7 + 4, none⟩ = some (.int .i64 (f (j * 7 + 4))) ∧ w'.cell? ⟨ba, oa + (i + 1) * 8 + 5, none⟩ = some (.int .i64 (h i 7))) (go_keep) (fail)
                rename_i hh; clear hh n1 n2 n3 n4 n5 n6 n7 n8 n9
                go_wp2_with fail
                go_roundw
                case rel => exact ⟨j + 1, by go_num, by omega, by (repeat (first | with_reducible assumption | ((with_reducible apply live_new) <;> (first | with_reducible rfl | (focus (simp; done)))) | with_reducible apply live_alloc | with_reducible apply live_drew | with_reducible apply live_drewN | ((with_reducible apply live_set_other); (case hb => first | omega | (simp; done))) | with_reducible apply live_set_same | (focus (simp; done)))), by (repeat (first | with_reducible assumption | ((with_reducible apply live_new) <;> (first | with_reducible rfl | (focus (simp; done)))) | with_reducible apply live_alloc | with_reducible apply live_drew | with_reducible apply live_drewN | ((with_reducible apply live_set_other); (case hb => first | omega | (simp; done))) | with_reducible apply live_set_same | (focus (simp; done)))), by (repeat (first | with_reducible assumption | ((with_reducible apply live_new) <;> (first | with_reducible rfl | (focus (simp; done)))) | with_reducible apply live_alloc | with_reducible apply live_drew | with_reducible apply live_drewN | ((with_reducible apply live_set_other); (case hb => first | omega | (simp; done))) | with_reducible apply live_set_same | (focus (simp; done)))), blkS_below (B := wr.heap.size) (by (repeat' (first | with_reducible exact Below.refl _ _ | with_reducible refine Below.drew ?_ | with_reducible refine below_drewN ?_ _ | with_reducible refine Below.alloc ?_ ?_ _ | with_reducible refine Below.setCell ?_ ?_ _ | with_reducible refine Below.trans ?_ (Below.mono (by with_reducible assumption) ?_) | (simp; done) | (simp; omega) | omega))) (Nat.le_refl _) HB.out, by (repeat' (first | with_reducible exact Below.refl _ _ | with_reducible refine Below.drew ?_ | with_reducible refine below_drewN ?_ _ | with_reducible refine Below.alloc ?_ ?_ _ | with_reducible refine Below.setCell ?_ ?_ _ | with_reducible refine Below.trans ?_ (Below.mono (by with_reducible assumption) ?_) | (simp; done) | (simp; omega) | omega))⟩
                case measure => first | (simp [intOf]; done) | (simp [intOf]; omega)
              · obtain rfl : j = 4 := by omega
                have hx := HX.out
                have n1 := N1.out
                go_wp2_with fail
                clear n1
                go_roundw
                case rel => exact ⟨i + 1, last, h i 4, rfl, rfl, by go_num, by omega, fun _ => by omega, by (repeat (first | with_reducible assumption | ((with_reducible apply live_new) <;> (first | with_reducible rfl | (focus (simp; done)))) | with_reducible apply live_alloc | with_reducible apply live_drew | with_reducible apply live_drewN | ((with_reducible apply live_set_other); (case hb => first | omega | (simp; done))) | with_reducible apply live_set_same | (focus (simp; done)))), HB.out, by (repeat' (first | with_reducible exact Below.refl _ _ | with_reducible refine Below.drew ?_ | with_reducible refine below_drewN ?_ _ | with_reducible refine Below.alloc ?_ ?_ _ | with_reducible refine Below.setCell ?_ ?_ _ | with_reducible refine Below.trans ?_ (Below.mono (by with_reducible assumption) ?_) | (simp; done) | (simp; omega) | omega))⟩
                case measure => first | (simp [intOf]; done) | (simp [intOf]; omega)
    · obtain rfl : i = N := by omega
      have j0 : decide ((i : Int) < (i : Int)) = false := by simp
      go_wp2_with (go_at_call 7; (with_reducible refine (KMV.out _).mono ?_); rintro e wm ⟨rfl, hbm⟩; have zm := hbm.size; (try simp at zm))
      go_ret
      refine ⟨rfl, ?_⟩
      (repeat' (first | with_reducible exact Below.refl _ _ | with_reducible refine Below.drew ?_ | with_reducible refine below_drewN ?_ _ | with_reducible refine Below.alloc ?_ ?_ _ | with_reducible refine Below.setCell ?_ ?_ _ | with_reducible refine Below.trans ?_ (Below.mono (by with_reducible assumption) ?_) | (simp; done) | (simp; omega) | omega))
theorem walk2 (f : Nat → Int) (x : Bool) (t : Int) (p : Nat → Nat → Int) (sl : Option Addr) (n cl : Nat) (fd : Int) (w : World) (hn : n ≤ 9223372036854775807) (hl : VecS w sl n p) (hfd : -9223372036854775808 ≤ fd ∧ fd ≤ 9223372036854775807) :
    Calls Try.prog 3 #[.agg (mach f x t), .slice sl n cl, .int .i64 fd] w fun e w' => e = .returned (.bool true) ∧ Below w.heap.size w w' := walk f x t fd p sl n cl w hn hfd hl

set_option maxRecDepth 100000 in
theorem lifted (os : Os) (started : os.Started) (H : Type) (enc : TypeId × Value → H) :
    ReturnsInHanded {} Try.checked os 3 .any (Rows.topSpeedsSpec.pre6 enc Try.prog Try.f3 Rows.topSpeedsRow.domain false) (Rows.topSpeedsSpec.post enc Try.prog Try.f3 false true false false) := by
  refine returnsInHanded_of_change (C := Try.checked) own started (by kernel_rfl) Try.func3
    (ChangeSpec.witness6 (enc := enc) (C := Try.checked) false ⟨#[], #[.agg #[.int .i64 0, .int .i64 0, .int .i64 0, .int .i64 0, .int .i64 0, .int .i64 0, .int .i64 0, .int .i64 0, .int .i64 0, .int .i64 0, .int .i64 0, .int .i64 0, .int .i64 0, .int .i64 0, .int .i64 0, .int .i64 0, .int .i64 0, .int .i64 0, .int .i64 0, .int .i64 0, .int .i64 0, .int .i64 0, .int .i64 0, .int .i64 0, .int .i64 0, .int .i64 0, .int .i64 0, .int .i64 0, .bool false, .int .i64 0], .slice none 0 0, .int .i64 0], []⟩ 8 (by kernel_rfl) (by kernel_rfl) (by kernel_rfl) (by kernel_rfl)) ?_
  intro W base args ds gs before hval0 hW _ _
  have hval : ∀ (j : Nat) t v, Try.f3.params[j]? = some t → args[j]? = some v → Value.okWide Try.prog W .any base t v := hval0
  have hW' := hW
  obtain ⟨p, q, hA0, hV, rfl, _, _⟩ := hW
  have hA : DataW.TrodAll enc Try.prog W 0 (fun _ => true) true Try.f3.params.toList args.toList ds p := hA0
  rw [Try.params3] at hA hval
  obtain ⟨v0, v1, v2, d0, d1, d2, p0, p1, p2, rfl, rfl, rfl, h0, h1, h2⟩ := trodAll_three hA
  clear hA hA0 hval0
  obtain ⟨f0, x0, t0, bf0, bt0, rfl⟩ := mach_open (hval 0 26 v0 rfl rfl)
  obtain ⟨s1, l1, c1, g1, rfl, bl1, bs1⟩ := vecs_open (hval 1 27 v1 rfl rfl) h1
  obtain ⟨a2, rfl, ba2⟩ := int_open Try.underlying3 (hval 2 3 v2 rfl rfl)
  exact (walk2 f0 x0 t0 g1 s1 l1 c1 a2 W bl1 bs1 ba2).mono fun e W' ⟨he, hb⟩ => ⟨_, he, law_post laidOut (by kernel_rfl) rfl (fun _ => rfl) rfl Try.underlying4 hW' hb⟩

theorem holds : Rows.TopSpeedsSaid :=
  OpenClaim.holds_of_wide 3 Try.f3 rfl rfl rfl rfl rfl rfl rfl ⟨rfl, rfl, rfl, rfl, rfl⟩ rfl rfl rfl rfl rfl (by kernel_rfl) Try.func3 (by kernel_rfl)
    (of_decide_eq_true (by kernel_rfl)) (by unfold Func.isWrapper; rw [if_neg (of_decide_eq_false (by kernel_rfl))]; exact ⟨rfl, rfl⟩)
    (fun os started H enc _ => lifted os started H enc)

#print axioms holds
end Go.Proofs.Ytkiadcgdmeebmaa.topSpeeds
