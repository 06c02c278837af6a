/- What Plan of ahead returns -/
import Derived.Deep.DeepCutAuto
import Derived.BigQuiet
import Derived.Deep.QuietTactic
import Derived.IntWalk
import Derived.Deep.RegionHeld3
import Derived.Deep.RegionWith
import Derived.RegionTactic
import Derived.BigRegion
import Derived.Test.YtkiadcgdmeebmaaKit9
namespace Go.Proofs.Ytkiadcgdmeebmaa
open Go.RowKit
set_option linter.unusedVariables false

attribute [local go_sem] cell_past1 cell_past2 cell_past3 cell_past4 froz_past1 froz_past2 froz_past3
attribute [local go_sem ↓] loadB_in

def P1Rel (g : Nat → Nat → Int) (n : Nat) (w : World) (s15 : Value) (wx : World) : Prop := ∃ k : Nat, s15 = .int .i64 k ∧ k ≤ n ∧ allTo (bsnd g) k = true ∧ Below w.heap.size w wx
def P2Rel (g : Nat → Nat → Int) (z : Nat → Int) (en : Int) (n : Nat) (w : World) (SS SO : Nat) (s73 : Value) (wx : World) : Prop :=
  ∃ k : Nat, s73 = .int .i64 k ∧ k ≤ n ∧ allTo (fun i => decide (0 ≤ grt g z en n i)) k = true ∧ Live wx SS (arrF (n + 1) (grt g z en n)) ∧ Live wx SO (arrF (n * 8) (flat (plnG g z en n k))) ∧ Below w.heap.size w wx
theorem pln_E1 (g : Nat → Nat → Int) (z : Nat → Int) (en : Int) (n m k : Nat) (hk : k < n) (h : bsnd g k = false) : plnE g z en n m = 1 := by unfold plnE; rw [if_pos (allTo_false _ hk h)]
theorem pln_E2 (g : Nat → Nat → Int) (z : Nat → Int) (en : Int) (n m : Nat) (h : allTo (bsnd g) n = true) (hne : n ≠ m) : plnE g z en n m = 1 := by unfold plnE; rw [if_neg (by rw [h]; simp), if_pos hne]
theorem pln_E0 (g : Nat → Nat → Int) (z : Nat → Int) (en : Int) : plnE g z en 0 0 = 0 := by unfold plnE; rw [if_neg (by simp [allTo]), if_neg (by simp), if_pos rfl]
theorem pln_E3 (g : Nat → Nat → Int) (z : Nat → Int) (en : Int) (n : Nat) (h : allTo (bsnd g) n = true) (hn : n ≠ 0) (he : en < 0 ∨ g 0 6 < en) : plnE g z en n n = 1 := by
  unfold plnE; rw [if_neg (by rw [h]; simp), if_neg (by simp), if_neg hn, if_pos he]
theorem pln_E4 (g : Nat → Nat → Int) (z : Nat → Int) (en : Int) (n : Nat) (h : allTo (bsnd g) n = true) (hn : n ≠ 0) (he : ¬ (en < 0 ∨ g 0 6 < en)) (h4 : grt g z en n 0 ≠ en ∨ grt g z en n n ≠ 0) : plnE g z en n n = 8 := by
  unfold plnE; rw [if_neg (by rw [h]; simp), if_neg (by simp), if_neg hn, if_neg he, if_pos h4]
theorem pln_E5 (g : Nat → Nat → Int) (z : Nat → Int) (en : Int) (n k : Nat) (h : allTo (bsnd g) n = true) (hn : n ≠ 0) (he : ¬ (en < 0 ∨ g 0 6 < en)) (h4 : ¬ (grt g z en n 0 ≠ en ∨ grt g z en n n ≠ 0)) (hk : k < n) (h5 : grt g z en n k < 0) : plnE g z en n n = 8 := by
  unfold plnE; rw [if_neg (by rw [h]; simp), if_neg (by simp), if_neg hn, if_neg he, if_neg h4, if_neg]
  rw [allTo_false _ hk (by simp; omega)]; simp
theorem pln_E6 (g : Nat → Nat → Int) (z : Nat → Int) (en : Int) (n : Nat) (h : allTo (bsnd g) n = true) (hn : n ≠ 0) (he : ¬ (en < 0 ∨ g 0 6 < en)) (h4 : ¬ (grt g z en n 0 ≠ en ∨ grt g z en n n ≠ 0)) (h5 : allTo (fun i => decide (0 ≤ grt g z en n i)) n = true) : plnE g z en n n = 0 := by
  unfold plnE; rw [if_neg (by rw [h]; simp), if_neg (by simp), if_neg hn, if_neg he, if_neg h4, if_pos h5]
theorem live_k2 {w : World} {SS SO n : Nat} {s t : Nat → Int} {k : Nat} (L : Live w SS (arrF (n + 1) s)) (hk : k < n) : w.cell? ⟨SS, k, none⟩ = some (.int .i64 (s k)) ∧ w.cell? ⟨SS, k + 1, none⟩ = some (.int .i64 (s (k + 1))) := ⟨live_arr_at L k (by omega), live_arr_at L (k + 1) (by omega)⟩

set_option maxRecDepth 100000 in
set_option maxHeartbeats 8000000 in
theorem ahead_plan (g : Nat → Nat → Int) (z : Nat → Int) (en : Int) (sl sc : Option Addr) (n m cl cc : Nat) (w : World) (hg : ∀ k o, I64 (g k o)) (hzi : ∀ k, I64 (z k)) (hn : n ≤ 1000000) (hm : m ≤ 9223372036854775807) (hl : BlkS w sl n g) (hz : IntS w sc m z) :
    Calls Try.prog 21 #[.slice sl n cl, .slice sc m cc, .int .i64 en] w (PlnPost g z en n m w) := by
  have HG := Lib.hid hg
  have HL := Lib.hid hl
  have HZ := Lib.hid hz
  have HZI := Lib.hid hzi
  clear hg hl hz hzi
  go_enter Try.func21, Try.ntmps21
  go_wp2_with fail
  go_loopw [15] (P1Rel g n w) (fun i _ => n - (intOf i).toNat)
  case atStart => exact ⟨0, rfl, Nat.zero_le _, rfl, by (repeat' (first | with_reducible exact Below.refl _ _ | with_reducible refine Below.drew ?_ | with_reducible refine below_drewN ?_ _ | with_reducible refine Below.alloc ?_ ?_ _ | with_reducible refine Below.setCell ?_ ?_ _ | with_reducible refine Below.trans ?_ (Below.mono (by with_reducible assumption) ?_) | (simp; done) | (simp; omega) | omega))⟩
  case round =>
    obtain ⟨k, rfl, hk, hall, hb⟩ := hrel
    by_cases hlt : k < n
    · obtain ⟨b, off, rfl, hbl, _⟩ := HL.out (by omega)
      have HALL := Lib.hid hall
      clear hall
      have KS := Lib.hid (fun w => ahead_sound_g g k w)
      go_upto_region 4 with (first | ((with_reducible refine wpList_load_in (ty := 36) b (off + k * 8) (blkA g k) ?_ (blkS_rng (blkS_below hb (Nat.le_refl _) HL.out) k hlt) Try.underlying36 ?_ ?_ ?_); (· rfl); (· rfl); (· kernel_rfl)) | ((with_reducible refine wpList_store_in (ty := 36) wr.heap.size 0 (blkA g k) ?_ ?_ ?_ ?_ (blkA_one _ _) ?_); (· rfl); (· rfl); (· exact live_there (live_new _ _ rfl) 0 8 (by decide)); (· kernel_rfl)))
      refine gen_world (fun wx => ∃ X, X = wr.heap.size ∧ Live wx X (blkA g k) ∧ Below w.heap.size w wx) ?_ ?_
      · have hbb : Below wr.heap.size wr ((wr.alloc (.cells #[.int .i64 0, .int .i64 0, .int .i64 0, .int .i64 0, .int .i64 0, .int .i64 0, .int .i64 0, .int .i64 0] 36)).setCells wr.heap.size 0 (blkA g k).toList) := below_setCells (Nat.le_refl _) _ _ _ (by (repeat' (first | with_reducible exact Below.refl _ _ | with_reducible refine Below.drew ?_ | with_reducible refine below_drewN ?_ _ | with_reducible refine Below.alloc ?_ ?_ _ | with_reducible refine Below.setCell ?_ ?_ _ | with_reducible refine Below.trans ?_ (Below.mono (by with_reducible assumption) ?_) | (simp; done) | (simp; omega) | omega)))
        exact ⟨_, rfl, live_whole (live_new _ _ rfl) _ rfl, hb.trans (hbb.mono hb.size)⟩
      rintro wx ⟨X, hX, L, hb⟩
      rw [← hX]
      simp only [Act.put]
      clear hX
      have p0 := L.1
      have hbs := hb.size
      have lb := loadB_run (live_rangeAll L)
      cases hv : bsnd g k
      · rw [hv] at KS
        have HE : Hid (plnE g z en n m = 1) := Lib.hid (pln_E1 g z en n m k hlt hv)
        clear hv
        go_wp2_with (go_at_call 37; (with_reducible refine (KS.out _).mono ?_); rintro e w1 ⟨rfl, hb1⟩; have z1 := hb1.size; (try simp at z1))
        exact bodyPost_ret (v := .tuple #[.slice none 0 0, .int .i64 1]) (by simp [results, Try.results21, go_sem]) rfl (pln_none g z en n m w _ 1 HE.out (by omega) (by (repeat' (first | with_reducible exact Below.refl _ _ | with_reducible refine Below.drew ?_ | with_reducible refine below_drewN ?_ _ | with_reducible refine Below.alloc ?_ ?_ _ | with_reducible refine Below.setCell ?_ ?_ _ | with_reducible refine Below.trans ?_ (Below.mono (by with_reducible assumption) ?_) | (simp; done) | (simp; omega) | omega))))
      · rw [hv] at KS
        have HA : Hid (allTo (bsnd g) (k + 1) = true) := Lib.hid (by show (_ && bsnd g k) = true; rw [HALL.out, hv]; rfl)
        clear hv
        go_wp2_with (go_at_call 37; (with_reducible refine (KS.out _).mono ?_); rintro e w1 ⟨rfl, hb1⟩; have z1 := hb1.size; (try simp at z1))
        go_roundw
        case rel => exact ⟨k + 1, by go_num, by omega, HA.out, by (repeat' (first | with_reducible exact Below.refl _ _ | with_reducible refine Below.drew ?_ | with_reducible refine below_drewN ?_ _ | with_reducible refine Below.alloc ?_ ?_ _ | with_reducible refine Below.setCell ?_ ?_ _ | with_reducible refine Below.trans ?_ (Below.mono (by with_reducible assumption) ?_) | (simp; done) | (simp; omega) | omega))⟩
        case measure => first | (simp [intOf]; done) | (simp [intOf]; omega)
    · obtain rfl : n = k := by omega
      have HALL := Lib.hid hall
      clear hall
      by_cases hne : n = m
      case neg =>
        have b1 : ((n : Int) != (m : Int)) = true := bne_iff_ne.2 (by omega)
        have HE : Hid (plnE g z en n m = 1) := Lib.hid (pln_E2 g z en n m HALL.out hne)
        clear hne
        go_wp2_with fail
        exact bodyPost_ret (v := .tuple #[.slice none 0 0, .int .i64 1]) (by simp [results, Try.results21, go_sem]) rfl (pln_none g z en n m w _ 1 HE.out (by omega) (by (repeat' (first | with_reducible exact Below.refl _ _ | with_reducible refine Below.drew ?_ | with_reducible refine below_drewN ?_ _ | with_reducible refine Below.alloc ?_ ?_ _ | with_reducible refine Below.setCell ?_ ?_ _ | with_reducible refine Below.trans ?_ (Below.mono (by with_reducible assumption) ?_) | (simp; done) | (simp; omega) | omega))))
      subst hne
      have b1 : ((n : Int) != (n : Int)) = false := by simp
      by_cases h0 : n = 0
      · subst h0
        have HE : Hid (plnE g z en 0 0 = 0) := Lib.hid (pln_E0 g z en)
        go_wp2_with fail
        exact bodyPost_ret (v := .tuple #[.slice none 0 0, .int .i64 0]) (by simp [results, Try.results21, go_sem]) rfl (pln_none g z en 0 0 w _ 0 HE.out (by omega) (by (repeat' (first | with_reducible exact Below.refl _ _ | with_reducible refine Below.drew ?_ | with_reducible refine below_drewN ?_ _ | with_reducible refine Below.alloc ?_ ?_ _ | with_reducible refine Below.setCell ?_ ?_ _ | with_reducible refine Below.trans ?_ (Below.mono (by with_reducible assumption) ?_) | (simp; done) | (simp; omega) | omega))))
      have b2 : decide ((0 : Int) < (n : Int)) = true := by simp; omega
      have b3 : ((n : Int) == 0) = false := beq_eq_false_iff_ne.2 (by omega)
      obtain ⟨b, off, rfl, hbl, _⟩ := HL.out (by omega)
      have q6 := blkS_cell (blkS_below hb (Nat.le_refl _) HL.out) 0 6 (by omega) (by omega)
      rw [Nat.zero_mul, Nat.add_zero] at q6
      have hbw := hb.size
      have hblr : b < wr.heap.size := by omega
      by_cases c1 : en < 0
      case pos =>
        have b4 : decide (en < 0) = true := by simpa using c1
        have HE : Hid (plnE g z en n n = 1) := Lib.hid (pln_E3 g z en n HALL.out h0 (Or.inl c1))
        clear c1
        go_wp2_with fail
        exact bodyPost_ret (v := .tuple #[.slice none 0 0, .int .i64 1]) (by simp [results, Try.results21, go_sem]) rfl (pln_none g z en n n w _ 1 HE.out (by omega) (by (repeat' (first | with_reducible exact Below.refl _ _ | with_reducible refine Below.drew ?_ | with_reducible refine below_drewN ?_ _ | with_reducible refine Below.alloc ?_ ?_ _ | with_reducible refine Below.setCell ?_ ?_ _ | with_reducible refine Below.trans ?_ (Below.mono (by with_reducible assumption) ?_) | (simp; done) | (simp; omega) | omega))))
      have b4 : decide (en < 0) = false := by simp; omega
      by_cases c2 : g 0 6 < en
      case pos =>
        have b5 : decide (g 0 6 < en) = true := by simpa using c2
        have HE : Hid (plnE g z en n n = 1) := Lib.hid (pln_E3 g z en n HALL.out h0 (Or.inr c2))
        clear c1 c2
        go_wp2_with fail
        exact bodyPost_ret (v := .tuple #[.slice none 0 0, .int .i64 1]) (by simp [results, Try.results21, go_sem]) rfl (pln_none g z en n n w _ 1 HE.out (by omega) (by (repeat' (first | with_reducible exact Below.refl _ _ | with_reducible refine Below.drew ?_ | with_reducible refine below_drewN ?_ _ | with_reducible refine Below.alloc ?_ ?_ _ | with_reducible refine Below.setCell ?_ ?_ _ | with_reducible refine Below.trans ?_ (Below.mono (by with_reducible assumption) ?_) | (simp; done) | (simp; omega) | omega))))
      have b5 : decide (g 0 6 < en) = false := by simp; omega
      have hs := (allTo_iff _ n).1 HALL.out
      have hcr := (bsnd_in g 0 (hs 0 (by omega))).2.1
      have HEN : Hid (¬ (en < 0 ∨ g 0 6 < en)) := Lib.hid (by omega)
      have KG := Lib.hid (fun w hl hz => ahead_greatest g z en (some ⟨b, off, none⟩) sc n cl cc w hs HZI.out (by omega) hn (by omega) (by omega) hl hz)
      have HS := Lib.hid hs
      clear hs hcr c1 c2
      have i0 : (n : Int) < (n : Int) + 1 := by omega
      have i1 : (0 : Int) < (n : Int) + 1 := by omega
      go_upto_region 12 with (go_at_call 38; (with_reducible refine (KG.out _ ?_ ?_).mono ?_); (· exact blkS_below hb (Nat.le_refl _) HL.out); (· exact intS_below hb (Nat.le_refl _) HZ.out); rintro e w1 ⟨SS, rfl, hSS, L1, hb1⟩)
      refine gen_world (fun wx => Live wx SS (arrF (n + 1) (grt g z en n)) ∧ Below w.heap.size w wx ∧ w.heap.size ≤ SS) ?_ ?_
      · exact ⟨L1, hb.trans (hb1.mono hb.size), Nat.le_trans hb.size hSS⟩
      clear L1 hb1 hSS hb q6 hblr hbw KG
      rintro wx ⟨L1, hb, hSS⟩
      have d0 := live_arr_at L1 0 (by omega)
      have dn := live_arr_at L1 n (by omega)
      have p1 := L1.1
      have hbs := hb.size
      by_cases c4 : grt g z en n 0 = en
      case neg =>
        have b6 : (grt g z en n 0 != en) = true := bne_iff_ne.2 c4
        have HE : Hid (plnE g z en n n = 8) := Lib.hid (pln_E4 g z en n HALL.out h0 HEN.out (Or.inl c4))
        clear c4
        go_wp2_with fail
        exact bodyPost_ret (v := .tuple #[.slice none 0 0, .int .i64 8]) (by simp [results, Try.results21, go_sem]) rfl (pln_none g z en n n w _ 8 HE.out (by omega) (by (repeat' (first | with_reducible exact Below.refl _ _ | with_reducible refine Below.drew ?_ | with_reducible refine below_drewN ?_ _ | with_reducible refine Below.alloc ?_ ?_ _ | with_reducible refine Below.setCell ?_ ?_ _ | with_reducible refine Below.trans ?_ (Below.mono (by with_reducible assumption) ?_) | (simp; done) | (simp; omega) | omega))))
      have b6 : (grt g z en n 0 != en) = false := by simpa using c4
      by_cases c5 : grt g z en n n = 0
      case neg =>
        have b7 : (grt g z en n n != 0) = true := bne_iff_ne.2 c5
        have HE : Hid (plnE g z en n n = 8) := Lib.hid (pln_E4 g z en n HALL.out h0 HEN.out (Or.inr c5))
        clear c4 c5
        go_wp2_with fail
        exact bodyPost_ret (v := .tuple #[.slice none 0 0, .int .i64 8]) (by simp [results, Try.results21, go_sem]) rfl (pln_none g z en n n w _ 8 HE.out (by omega) (by (repeat' (first | with_reducible exact Below.refl _ _ | with_reducible refine Below.drew ?_ | with_reducible refine below_drewN ?_ _ | with_reducible refine Below.alloc ?_ ?_ _ | with_reducible refine Below.setCell ?_ ?_ _ | with_reducible refine Below.trans ?_ (Below.mono (by with_reducible assumption) ?_) | (simp; done) | (simp; omega) | omega))))
      have b7 : (grt g z en n n != 0) = false := by simpa using c5
      have H4 : Hid (¬ (grt g z en n 0 ≠ en ∨ grt g z en n n ≠ 0)) := Lib.hid (by simp [c4, c5])
      clear c4 c5
      have hmk := run_make_blks n (by omega)
      go_upto_region 16 with ((with_reducible refine wpList_copy_in 8 36 wx.heap.size 0 n n ⟨b, off, none⟩ n cl (arrF (n * 8) (flat g)).toList ?_ ?_ Try.underlying31 blk_info ?_ ?_ ?_ (arrF_one _ _) ?_); (· rfl); (· rfl); (· rw [Array.length_toList, arrF_size, show Nat.min n n = n from Nat.min_self n]); (· exact blkS_flat (blkS_below (hb.alloc (by omega) _) (Nat.le_refl _) HL.out)); (· exact live_there (live_new _ _ rfl) 0 _ (by rw [Array.length_toList, arrF_size, arrF_size]; omega)))
      refine gen_world (fun wx' => ∃ SO, SO = wx.heap.size ∧ SS ≠ SO ∧ w.heap.size ≤ SO ∧ Live wx' SS (arrF (n + 1) (grt g z en n)) ∧ Live wx' SO (arrF (n * 8) (flat (plnG g z en n 0))) ∧ Below w.heap.size w wx') ?_ ?_
      · refine ⟨_, rfl, by omega, hb.size, ?_, ?_, ?_⟩
        · exact live_cells_other (live_alloc L1 _) _ _ (by omega)
        · exact live_conv (live_whole (live_new _ _ rfl) _ (by rw [arrF_size, arrF_size])) (plnG_zero g z en n _).symm
        · exact below_setCells (by omega) _ _ _ (hb.alloc (by omega) _)
      clear L1 hb d0 dn p1 hbs hmk
      rintro wy ⟨SO, hSO, hne2, hBO, L1, L2, hb⟩
      rw [← hSO]
      simp only [Act.put]
      clear hSO
      go_wp2_with fail
      go_loopw [73] (P2Rel g z en n w SS SO) (fun i _ => n - (intOf i).toNat)
      case atStart => exact ⟨0, rfl, Nat.zero_le _, rfl, L1, L2, hb⟩
      case round =>
        obtain ⟨k, rfl, hk, hall, L1, L2, hb⟩ := hrel
        have hbs := hb.size
        by_cases hlt : k < n
        · have HP := Lib.hid hall
          clear hall
          have p1 := L1.1
          have p2 := L2.1
          have ck := live_arr_at L1 k (by omega)
          have ck1 := live_arr_at L1 (k + 1) (by omega)
          have j1 : (k : Int) < (n : Int) := by omega
          have j2 : (k : Int) < (n : Int) + 1 := by omega
          have j3 : (k : Int) + 1 < (n : Int) + 1 := by omega
          have j4 : IntKind.i64.wrap ((k : Int) + 1) = (k : Int) + 1 := IntWalk.i64_in _ (by omega)
          have j5 : ((k : Int) + 1).toNat = k + 1 := by omega
          have j6 : (0 : Int) ≤ (k : Int) + 1 := by omega
          by_cases c6 : grt g z en n k < 0
          case pos =>
            have b8 : decide (grt g z en n k < 0) = true := by simpa using c6
            have HE : Hid (plnE g z en n n = 8) := Lib.hid (pln_E5 g z en n k HALL.out h0 HEN.out H4.out hlt c6)
            clear c6
            go_wp2_with fail
            exact bodyPost_ret (v := .tuple #[.slice none 0 0, .int .i64 8]) (by simp [results, Try.results21, go_sem]) rfl (pln_none g z en n n w _ 8 HE.out (by omega) (by (repeat' (first | with_reducible exact Below.refl _ _ | with_reducible refine Below.drew ?_ | with_reducible refine below_drewN ?_ _ | with_reducible refine Below.alloc ?_ ?_ _ | with_reducible refine Below.setCell ?_ ?_ _ | with_reducible refine Below.trans ?_ (Below.mono (by with_reducible assumption) ?_) | (simp; done) | (simp; omega) | omega))))
          have b8 : decide (grt g z en n k < 0) = false := by simp; omega
          have HP1 : Hid (allTo (fun i => decide (0 ≤ grt g z en n i)) (k + 1) = true) := Lib.hid (by show (_ && decide (0 ≤ grt g z en n k)) = true; rw [HP.out, decide_eq_true (by omega)]; rfl)
          clear c6
          have e5 := live_arr_at L2 (k * 8 + 5) (by omega)
          have e7 := live_arr_at L2 (k * 8 + 7) (by omega)
          have f5 := L2.2.2 (k * 8 + 5)
          have f7 := L2.2.2 (k * 8 + 7)
          have hne3 : SO ≠ SS := fun h => hne2 h.symm
          go_upto_region 21 with (fail)
          go_region_held3 (fun w' => w'.cell? ⟨SS, k, none⟩ = some (.int .i64 (grt g z en n k)) ∧ w'.cell? ⟨SS, k + 1, none⟩ = some (.int .i64 (grt g z en n (k + 1)))) (go_keep) (fail)
          rename_i hh; clear hh
          go_wp2_with fail
          go_roundw
          case rel => exact ⟨k + 1, by go_num, by omega, HP1.out, live_set_other (live_set_other L1 _ _ _ hne3) _ _ _ hne3, live_conv (live_arr_set (live_arr_set L2 (k * 8 + 5) _ (by omega)) (k * 8 + 7) _ (by omega)) (plnG_upd g z en n k _), by (repeat' (first | with_reducible exact Below.refl _ _ | with_reducible refine Below.drew ?_ | with_reducible refine below_drewN ?_ _ | with_reducible refine Below.alloc ?_ ?_ _ | with_reducible refine Below.setCell ?_ ?_ _ | with_reducible refine Below.trans ?_ (Below.mono (by with_reducible assumption) ?_) | (simp; done) | (simp; omega) | omega))⟩
          case measure => first | (simp [intOf]; done) | (simp [intOf]; omega)
        · obtain rfl : n = k := by omega
          have HE : Hid (plnE g z en n n = 0) := Lib.hid (pln_E6 g z en n HALL.out h0 HEN.out H4.out hall)
          clear hall
          go_wp2_with fail
          exact bodyPost_ret (v := .tuple #[.slice (some ⟨SO, 0, none⟩) n n, .int .i64 0]) (by simp [results, Try.results21, go_sem]) rfl (pln_some g z en n n SO w _ HE.out hBO hn L2 hb)
end Go.Proofs.Ytkiadcgdmeebmaa
