/- The examples of chapter 44: true -/
import Derived.Deep.DeepCutAuto
import Derived.BigQuiet
import Derived.Deep.QuietTactic
import Derived.IntWalk
import Derived.Deep.RegionHeld3
import Derived.Deep.RegionWith
import Derived.RegionTactic
import Derived.BigRegion
import Derived.Test.YtleohgnnbpicjaaAhdPlan
import Derived.Test.YtleohgnnbpicjaaAhdFeasW
namespace Go.Proofs.Ytleohgnnbpicjaa
open Go.RowKit
set_option linter.unusedVariables false

attribute [local go_sem] cell_past1 cell_past2 cell_past3 cell_past4 froz_past1 froz_past2 froz_past3
attribute [local go_sem ↓] loadB_in

theorem plnG_in (g : Nat → Nat → Int) (z : Nat → Int) (en : Int) (n k : Nat) (hg : ∀ k o, I64 (g k o)) (hz : ∀ k, I64 (z k)) (hs : ∀ k, k < n → bsnd g k = true) (he : 0 ≤ en) (he1 : en ≤ 1099511627776) (i o : Nat) : I64 (plnG g z en n k i o) := by
  unfold plnG
  have h1 := grt_in g z en n hz hs he he1 i
  have h2 := grt_in g z en n hz hs he he1 (i + 1)
  unfold I64
  split
  · omega
  · split
    · omega
    · exact hg i o
theorem live_intS {w : World} {b n : Nat} {z : Nat → Int} (L : Live w b (arrF n z)) : IntS w (some ⟨b, 0, none⟩) n z := fun h0 => ⟨b, 0, rfl, L.1, fun k hk => by rw [Nat.zero_add]; exact live_arr_at L k hk⟩
theorem pln_open {g : Nat → Nat → Int} {z : Nat → Int} {en : Int} {n m : Nat} {w w' : World} {e : Ending} (h : PlnPost g z en n m w e w') (hE : plnE g z en n m = 0) (h0 : 0 < n) :
    ∃ b off cap, e = .returned (.tuple #[.slice (some ⟨b, off, none⟩) n cap, .int .i64 0]) ∧ n ≤ cap ∧ cap ≤ 9223372036854775807 ∧ b < w'.heap.size ∧ w.heap.size ≤ b ∧ BlkS w' (some ⟨b, off, none⟩) n (plnG g z en n n) ∧ Below w.heap.size w w' := by
  obtain ⟨a, k, cap, he, hk, hkc, hcap, hB, hf, hb⟩ := h
  rw [hE] at he hk
  rw [if_pos rfl] at hk
  subst hk
  obtain ⟨b, off, rfl, hlt, hc⟩ := hB h0
  exact ⟨b, off, cap, he, hkc, hcap, hlt, hf _ rfl, fun _ => ⟨b, off, rfl, hlt, hc⟩, hb⟩
theorem pln_open0 {g : Nat → Nat → Int} {z : Nat → Int} {en : Int} {n m : Nat} {w w' : World} {e : Ending} (h : PlnPost g z en n m w e w') (E : Int) (hE : plnE g z en n m = E) (h0 : E ≠ 0 ∨ n = 0) :
    ∃ a cap, e = .returned (.tuple #[.slice a 0 cap, .int .i64 E]) ∧ Below w.heap.size w w' := by
  obtain ⟨a, k, cap, he, hk, hkc, hcap, hB, hf, hb⟩ := h
  rw [hE] at he hk
  have : k = 0 := by rw [hk]; split <;> omega
  subst this
  exact ⟨a, cap, he, hb⟩

def gPl : Nat → Nat → Int := fun _ o => match o with | 0 => 10 | 4 => 5 | 6 => 400 | _ => 0
def zTwo (v : Int) : Nat → Int := fun k => match k with | 0 => 0 | _ => v
theorem gPl_in (k o : Nat) : I64 (gPl k o) := by
  unfold I64 gPl
  split <;> omega
theorem zTwo_in (v : Int) (hv : I64 v) (k : Nat) : I64 (zTwo v k) := by
  unfold zTwo
  split
  · unfold I64; omega
  · exact hv
set_option maxRecDepth 100000 in
theorem ex44 : plnE gPl (zTwo 0) 100 1 1 = 0 ∧ plnE gPl (zTwo 0) 101 1 1 = 8 ∧ plnE gPl (zTwo 1000) 0 2 2 = 0 ∧ plnE gPl (zTwo 30) 0 2 2 = 0 ∧
    plnG gPl (zTwo 0) 100 1 1 0 5 = 100 ∧ plnG gPl (zTwo 0) 100 1 1 0 7 = 0 ∧ plnG gPl (zTwo 1000) 0 2 2 0 7 = 100 ∧ plnG gPl (zTwo 1000) 0 2 2 1 5 = 100 ∧ plnG gPl (zTwo 30) 0 2 2 0 7 = 30 ∧
    feasB (plnG gPl (zTwo 1000) 0 2 2) (zTwo 1000) 0 2 2 = true ∧ feasB (plnG gPl (zTwo 1000) 0 2 2) (zTwo 99) 0 2 2 = false ∧ bval gPl 0 = true := by decide
theorem gPl_snd (k : Nat) : bsnd gPl k = true := by show bsnd gPl 0 = true; decide

set_option maxRecDepth 100000 in
set_option maxHeartbeats 8000000 in
theorem law44_plain (w : World) : Calls Try.prog 42 #[] w fun e w' => e = .returned (.agg (blkA gPl 0)) ∧ Below w.heap.size w w' := by
  go_enter Try.func42, Try.ntmps42
  go_wp2
  refine bodyPost_ret (v := .agg (blkA gPl 0)) (by simp [results, Try.results42, go_sem, blkA, gPl]) rfl ⟨rfl, ?_⟩
  (repeat' (first | with_reducible exact Below.refl _ _ | with_reducible refine Below.drew ?_ | with_reducible refine below_drewN ?_ _ | with_reducible refine Below.alloc ?_ ?_ _ | with_reducible refine Below.setCell ?_ ?_ _ | with_reducible refine Below.trans ?_ (Below.mono (by with_reducible assumption) ?_) | (simp; done) | (simp; omega) | omega))

set_option maxRecDepth 100000 in
set_option maxHeartbeats 8000000 in
theorem law44_awake (w : World) : Calls Try.prog 17 #[] w fun e w' => e = .returned (.bool true) ∧ Below w.heap.size w w' := by
  have KPL := Lib.hid law44_plain
  obtain ⟨x1, x2, x3, x4, y1, y2, y3, y4, y5, z1, z2, z3⟩ := ex44
  have KP1 := Lib.hid (fun (w : World) (sl sc : Option Addr) (cl cc : Nat) (hl : BlkS w sl 1 gPl) (hz : IntS w sc 1 (zTwo 0)) => ahead_plan gPl (zTwo 0) 100 sl sc 1 1 cl cc w gPl_in (zTwo_in 0 (by unfold I64; omega)) (by omega) (by omega) hl hz)
  have KP2 := Lib.hid (fun (w : World) (sl sc : Option Addr) (cl cc : Nat) (hl : BlkS w sl 1 gPl) (hz : IntS w sc 1 (zTwo 0)) => ahead_plan gPl (zTwo 0) 101 sl sc 1 1 cl cc w gPl_in (zTwo_in 0 (by unfold I64; omega)) (by omega) (by omega) hl hz)
  have KP3 := Lib.hid (fun (w : World) (sl sc : Option Addr) (cl cc : Nat) (hl : BlkS w sl 2 gPl) (hz : IntS w sc 2 (zTwo 1000)) => ahead_plan gPl (zTwo 1000) 0 sl sc 2 2 cl cc w gPl_in (zTwo_in 1000 (by unfold I64; omega)) (by omega) (by omega) hl hz)
  have KP4 := Lib.hid (fun (w : World) (sl sc : Option Addr) (cl cc : Nat) (hl : BlkS w sl 2 gPl) (hz : IntS w sc 2 (zTwo 30)) => ahead_plan gPl (zTwo 30) 0 sl sc 2 2 cl cc w gPl_in (zTwo_in 30 (by unfold I64; omega)) (by omega) (by omega) hl hz)
  have hgB := plnG_in gPl (zTwo 1000) 0 2 2 gPl_in (zTwo_in 1000 (by unfold I64; omega)) (fun k _ => gPl_snd k) (by omega) (by omega)
  have KF1 := Lib.hid (fun (w : World) (sl sc : Option Addr) (cl cc : Nat) (hl : BlkS w sl 2 (plnG gPl (zTwo 1000) 0 2 2)) (hz : IntS w sc 2 (zTwo 1000)) => ahead_feasible (plnG gPl (zTwo 1000) 0 2 2) (zTwo 1000) 0 sl sc 2 2 cl cc w hgB (by omega) (by omega) hl hz)
  have KF2 := Lib.hid (fun (w : World) (sl sc : Option Addr) (cl cc : Nat) (hl : BlkS w sl 2 (plnG gPl (zTwo 1000) 0 2 2)) (hz : IntS w sc 2 (zTwo 99)) => ahead_feasible (plnG gPl (zTwo 1000) 0 2 2) (zTwo 99) 0 sl sc 2 2 cl cc w hgB (by omega) (by omega) hl hz)
  have KV := Lib.hid (fun w => ahead_valid_g gPl 0 w)
  rw [z1] at KF1
  rw [z2] at KF2
  rw [z3] at KV
  have X1 := Lib.hid x1
  have X2 := Lib.hid x2
  have X3 := Lib.hid x3
  have X4 := Lib.hid x4
  have Y1 := Lib.hid y1
  have Y2 := Lib.hid y2
  have Y3 := Lib.hid y3
  have Y4 := Lib.hid y4
  have Y5 := Lib.hid y5
  clear x1 x2 x3 x4 y1 y2 y3 y4 y5 z1 z2 z3 hgB
  go_enter Try.func17, Try.ntmps17
  go_upto_region 2 with (go_at_call 42; (with_reducible refine (KPL.out _).mono ?_); rintro e w1 ⟨rfl, hb1⟩; have z1 := hb1.size; (try simp at z1))
  refine gen_world (fun wx => ∃ A1, A1 = w1.heap.size ∧ A1 < wx.heap.size ∧ BlkS wx (some ⟨A1, 0, none⟩) 1 gPl ∧ Below w.heap.size w wx) ?_ ?_
  · exact ⟨_, rfl, by simp, live_blkS (live_conv (live_new _ _ rfl) (show _ = arrF (1 * 8) (flat gPl) from rfl)), by (repeat' (first | with_reducible exact Below.refl _ _ | with_reducible refine Below.drew ?_ | with_reducible refine below_drewN ?_ _ | with_reducible refine Below.alloc ?_ ?_ _ | with_reducible refine Below.setCell ?_ ?_ _ | with_reducible refine Below.trans ?_ (Below.mono (by with_reducible assumption) ?_) | (simp; done) | (simp; omega) | omega))⟩
  rintro wa ⟨A1, hA1, hA1', S1, hba⟩
  rw [← hA1]
  clear hA1 hb1 z1
  have zba := hba.size
  go_upto_region 3 with (go_at_call 42; (with_reducible refine (KPL.out _).mono ?_); rintro e w2 ⟨rfl, hb2⟩; have z2 := hb2.size; (try simp at z2))
  refine gen_world (fun wx => ∃ A2, A2 = w2.heap.size ∧ A2 < wx.heap.size ∧ BlkS wx (some ⟨A1, 0, none⟩) 1 gPl ∧ BlkS wx (some ⟨A2, 0, none⟩) 2 gPl ∧ Below w.heap.size w wx) ?_ ?_
  · exact ⟨_, rfl, by simp, blkS_below (w := wa) (B := wa.heap.size) (by (repeat' (first | with_reducible exact Below.refl _ _ | with_reducible refine Below.drew ?_ | with_reducible refine below_drewN ?_ _ | with_reducible refine Below.alloc ?_ ?_ _ | with_reducible refine Below.setCell ?_ ?_ _ | with_reducible refine Below.trans ?_ (Below.mono (by with_reducible assumption) ?_) | (simp; done) | (simp; omega) | omega))) (Nat.le_refl _) S1, live_blkS (live_conv (live_new _ _ rfl) (show _ = arrF (2 * 8) (flat gPl) by kernel_rfl)), by (repeat' (first | with_reducible exact Below.refl _ _ | with_reducible refine Below.drew ?_ | with_reducible refine below_drewN ?_ _ | with_reducible refine Below.alloc ?_ ?_ _ | with_reducible refine Below.setCell ?_ ?_ _ | with_reducible refine Below.trans ?_ (Below.mono (by with_reducible assumption) ?_) | (simp; done) | (simp; omega) | omega))⟩
  clear S1 hb2 z2
  rintro wb ⟨A2, hA2, hA2', S1, S2, hbb⟩
  rw [← hA2]
  clear hA2 hba zba hA1'
  have zbb := hbb.size
  go_upto_region 4 with (go_at_call 21; (with_reducible refine (KP1.out _ _ _ _ _ ?_ ?_).mono ?_); (· exact blkS_below (B := wb.heap.size) (by (repeat' (first | with_reducible exact Below.refl _ _ | with_reducible refine Below.drew ?_ | with_reducible refine below_drewN ?_ _ | with_reducible refine Below.alloc ?_ ?_ _ | with_reducible refine Below.setCell ?_ ?_ _ | with_reducible refine Below.trans ?_ (Below.mono (by with_reducible assumption) ?_) | (simp; done) | (simp; omega) | omega))) (Nat.le_refl _) S1); (· exact live_intS (live_conv (live_new _ _ rfl) (show _ = arrF 1 (zTwo 0) from rfl))); rintro e w1 hp; obtain ⟨b1, off1, cap1, rfl, hc1, hc1', hl1, hB1, S3, hb1⟩ := pln_open hp X1.out (by omega); clear hp)
  refine gen_world (fun wx => BlkS wx (some ⟨A1, 0, none⟩) 1 gPl ∧ BlkS wx (some ⟨A2, 0, none⟩) 2 gPl ∧ BlkS wx (some ⟨b1, off1, none⟩) 1 (plnG gPl (zTwo 0) 100 1 1) ∧ Below w.heap.size w wx) ?_ ?_
  · have hq : Below wb.heap.size wb w1 := by (repeat' (first | with_reducible exact Below.refl _ _ | with_reducible refine Below.drew ?_ | with_reducible refine below_drewN ?_ _ | with_reducible refine Below.alloc ?_ ?_ _ | with_reducible refine Below.setCell ?_ ?_ _ | with_reducible refine Below.trans ?_ (Below.mono (by with_reducible assumption) ?_) | (simp; done) | (simp; omega) | omega))
    exact ⟨blkS_below hq (Nat.le_refl _) S1, blkS_below hq (Nat.le_refl _) S2, S3, by (repeat' (first | with_reducible exact Below.refl _ _ | with_reducible refine Below.drew ?_ | with_reducible refine below_drewN ?_ _ | with_reducible refine Below.alloc ?_ ?_ _ | with_reducible refine Below.setCell ?_ ?_ _ | with_reducible refine Below.trans ?_ (Below.mono (by with_reducible assumption) ?_) | (simp; done) | (simp; omega) | omega))⟩
  clear S1 S2 S3 hb1 hl1 hB1 hbb zbb
  rintro wc ⟨S1, S2, S3, hbc⟩
  have zbc := hbc.size
  go_upto_region 5 with (go_at_call 21; (with_reducible refine (KP2.out _ _ _ _ _ ?_ ?_).mono ?_); (· exact blkS_below (B := wc.heap.size) (by (repeat' (first | with_reducible exact Below.refl _ _ | with_reducible refine Below.drew ?_ | with_reducible refine below_drewN ?_ _ | with_reducible refine Below.alloc ?_ ?_ _ | with_reducible refine Below.setCell ?_ ?_ _ | with_reducible refine Below.trans ?_ (Below.mono (by with_reducible assumption) ?_) | (simp; done) | (simp; omega) | omega))) (Nat.le_refl _) S1); (· exact live_intS (live_conv (live_new _ _ rfl) (show _ = arrF 1 (zTwo 0) from rfl))); rintro e w1 hp; obtain ⟨a2, cap2, rfl, hb1⟩ := pln_open0 hp 8 X2.out (by omega); clear hp)
  refine gen_world (fun wx => BlkS wx (some ⟨A2, 0, none⟩) 2 gPl ∧ BlkS wx (some ⟨b1, off1, none⟩) 1 (plnG gPl (zTwo 0) 100 1 1) ∧ Below w.heap.size w wx) ?_ ?_
  · have hq : Below wc.heap.size wc w1 := by (repeat' (first | with_reducible exact Below.refl _ _ | with_reducible refine Below.drew ?_ | with_reducible refine below_drewN ?_ _ | with_reducible refine Below.alloc ?_ ?_ _ | with_reducible refine Below.setCell ?_ ?_ _ | with_reducible refine Below.trans ?_ (Below.mono (by with_reducible assumption) ?_) | (simp; done) | (simp; omega) | omega))
    exact ⟨blkS_below hq (Nat.le_refl _) S2, blkS_below hq (Nat.le_refl _) S3, by (repeat' (first | with_reducible exact Below.refl _ _ | with_reducible refine Below.drew ?_ | with_reducible refine below_drewN ?_ _ | with_reducible refine Below.alloc ?_ ?_ _ | with_reducible refine Below.setCell ?_ ?_ _ | with_reducible refine Below.trans ?_ (Below.mono (by with_reducible assumption) ?_) | (simp; done) | (simp; omega) | omega))⟩
  clear S1 S2 S3 hb1 hbc zbc
  rintro wd ⟨S2, S3, hbd⟩
  have zbd := hbd.size
  go_upto_region 6 with (go_at_call 21; (with_reducible refine (KP3.out _ _ _ _ _ ?_ ?_).mono ?_); (· exact blkS_below (B := wd.heap.size) (by (repeat' (first | with_reducible exact Below.refl _ _ | with_reducible refine Below.drew ?_ | with_reducible refine below_drewN ?_ _ | with_reducible refine Below.alloc ?_ ?_ _ | with_reducible refine Below.setCell ?_ ?_ _ | with_reducible refine Below.trans ?_ (Below.mono (by with_reducible assumption) ?_) | (simp; done) | (simp; omega) | omega))) (Nat.le_refl _) S2); (· exact live_intS (live_conv (live_new _ _ rfl) (show _ = arrF 2 (zTwo 1000) from rfl))); rintro e w1 hp; obtain ⟨b3, off3, cap3, rfl, hc3, hc3', hl3, hB3, S4, hb1⟩ := pln_open hp X3.out (by omega); clear hp)
  refine gen_world (fun wx => BlkS wx (some ⟨A2, 0, none⟩) 2 gPl ∧ BlkS wx (some ⟨b1, off1, none⟩) 1 (plnG gPl (zTwo 0) 100 1 1) ∧ BlkS wx (some ⟨b3, off3, none⟩) 2 (plnG gPl (zTwo 1000) 0 2 2) ∧ Below w.heap.size w wx) ?_ ?_
  · have hq : Below wd.heap.size wd w1 := by (repeat' (first | with_reducible exact Below.refl _ _ | with_reducible refine Below.drew ?_ | with_reducible refine below_drewN ?_ _ | with_reducible refine Below.alloc ?_ ?_ _ | with_reducible refine Below.setCell ?_ ?_ _ | with_reducible refine Below.trans ?_ (Below.mono (by with_reducible assumption) ?_) | (simp; done) | (simp; omega) | omega))
    exact ⟨blkS_below hq (Nat.le_refl _) S2, blkS_below hq (Nat.le_refl _) S3, S4, by (repeat' (first | with_reducible exact Below.refl _ _ | with_reducible refine Below.drew ?_ | with_reducible refine below_drewN ?_ _ | with_reducible refine Below.alloc ?_ ?_ _ | with_reducible refine Below.setCell ?_ ?_ _ | with_reducible refine Below.trans ?_ (Below.mono (by with_reducible assumption) ?_) | (simp; done) | (simp; omega) | omega))⟩
  clear S2 S3 S4 hb1 hbd zbd hl3 hB3
  rintro we ⟨S2, S3, S4, hbe⟩
  have zbe := hbe.size
  go_upto_region 7 with (go_at_call 21; (with_reducible refine (KP4.out _ _ _ _ _ ?_ ?_).mono ?_); (· exact blkS_below (B := we.heap.size) (by (repeat' (first | with_reducible exact Below.refl _ _ | with_reducible refine Below.drew ?_ | with_reducible refine below_drewN ?_ _ | with_reducible refine Below.alloc ?_ ?_ _ | with_reducible refine Below.setCell ?_ ?_ _ | with_reducible refine Below.trans ?_ (Below.mono (by with_reducible assumption) ?_) | (simp; done) | (simp; omega) | omega))) (Nat.le_refl _) S2); (· exact live_intS (live_conv (live_new _ _ rfl) (show _ = arrF 2 (zTwo 30) from rfl))); rintro e w1 hp; obtain ⟨b4, off4, cap4, rfl, hc4, hc4', hl4, hB4, S5, hb1⟩ := pln_open hp X4.out (by omega); clear hp)
  refine gen_world (fun wx => BlkS wx (some ⟨b1, off1, none⟩) 1 (plnG gPl (zTwo 0) 100 1 1) ∧ BlkS wx (some ⟨b3, off3, none⟩) 2 (plnG gPl (zTwo 1000) 0 2 2) ∧ BlkS wx (some ⟨b4, off4, none⟩) 2 (plnG gPl (zTwo 30) 0 2 2) ∧ Below w.heap.size w wx) ?_ ?_
  · have hq : Below we.heap.size we w1 := by (repeat' (first | with_reducible exact Below.refl _ _ | with_reducible refine Below.drew ?_ | with_reducible refine below_drewN ?_ _ | with_reducible refine Below.alloc ?_ ?_ _ | with_reducible refine Below.setCell ?_ ?_ _ | with_reducible refine Below.trans ?_ (Below.mono (by with_reducible assumption) ?_) | (simp; done) | (simp; omega) | omega))
    exact ⟨blkS_below hq (Nat.le_refl _) S3, blkS_below hq (Nat.le_refl _) S4, S5, by (repeat' (first | with_reducible exact Below.refl _ _ | with_reducible refine Below.drew ?_ | with_reducible refine below_drewN ?_ _ | with_reducible refine Below.alloc ?_ ?_ _ | with_reducible refine Below.setCell ?_ ?_ _ | with_reducible refine Below.trans ?_ (Below.mono (by with_reducible assumption) ?_) | (simp; done) | (simp; omega) | omega))⟩
  clear S2 S3 S4 S5 hb1 hbe zbe hl4 hB4
  rintro wf ⟨S3, S4, S5, hbf⟩
  have zbf := hbf.size
  have c1 := blkS_cell S3 0 5 (by omega) (by omega)
  have c2 := blkS_cell S3 0 7 (by omega) (by omega)
  have c3 := blkS_cell S4 0 7 (by omega) (by omega)
  have c4 := blkS_cell S4 1 5 (by omega) (by omega)
  have c5 := blkS_cell S5 0 7 (by omega) (by omega)
  rw [Y1.out] at c1
  rw [Y2.out] at c2
  rw [Y3.out] at c3
  rw [Y4.out] at c4
  rw [Y5.out] at c5
  simp only [Nat.zero_mul, Nat.one_mul, Nat.add_zero] at c1 c2 c3 c4 c5
  have HS4 := Lib.hid S4
  clear S3 S4 S5
  go_wp2_with (first | (go_at_call 42; (with_reducible refine (KPL.out _).mono ?_); rintro e w9 ⟨rfl, hb9⟩; have z9 := hb9.size; (try simp at z9)) | (go_at_call 15; (with_reducible refine (KV.out _).mono ?_); rintro e w8 ⟨rfl, hb8⟩; have z8 := hb8.size; (try simp at z8)) | (go_at_call 19; (with_reducible refine (KF1.out _ _ _ _ _ ?_ ?_).mono ?_); (· exact blkS_below (B := wf.heap.size) (by (repeat' (first | with_reducible exact Below.refl _ _ | with_reducible refine Below.drew ?_ | with_reducible refine below_drewN ?_ _ | with_reducible refine Below.alloc ?_ ?_ _ | with_reducible refine Below.setCell ?_ ?_ _ | with_reducible refine Below.trans ?_ (Below.mono (by with_reducible assumption) ?_) | (simp; done) | (simp; omega) | omega))) (Nat.le_refl _) HS4.out); (· exact live_intS (live_conv (live_new _ _ rfl) (show _ = arrF 2 (zTwo 1000) from rfl))); rintro e w7 ⟨rfl, hb7⟩; have z7 := hb7.size; (try simp at z7)) | (go_at_call 19; (with_reducible refine (KF2.out _ _ _ _ _ ?_ ?_).mono ?_); (· exact blkS_below (B := wf.heap.size) (by (repeat' (first | with_reducible exact Below.refl _ _ | with_reducible refine Below.drew ?_ | with_reducible refine below_drewN ?_ _ | with_reducible refine Below.alloc ?_ ?_ _ | with_reducible refine Below.setCell ?_ ?_ _ | with_reducible refine Below.trans ?_ (Below.mono (by with_reducible assumption) ?_) | (simp; done) | (simp; omega) | omega))) (Nat.le_refl _) HS4.out); (· exact live_intS (live_conv (live_new _ _ rfl) (show _ = arrF 2 (zTwo 99) from rfl))); rintro e w6 ⟨rfl, hb6⟩; have z6 := hb6.size; (try simp at z6)))
  go_ret
  refine ⟨rfl, ?_⟩
  (repeat' (first | with_reducible exact Below.refl _ _ | with_reducible refine Below.drew ?_ | with_reducible refine below_drewN ?_ _ | with_reducible refine Below.alloc ?_ ?_ _ | with_reducible refine Below.setCell ?_ ?_ _ | with_reducible refine Below.trans ?_ (Below.mono (by with_reducible assumption) ?_) | (simp; done) | (simp; omega) | omega))
end Go.Proofs.Ytleohgnnbpicjaa
