/- What Plan of the reference of chapter 44 returns: what the program's returns -/
import Derived.Deep.DeepCutAuto
import Derived.BigQuiet
import Derived.Deep.QuietTactic
import Derived.IntWalk
import Derived.Deep.RegionHeld3
import Derived.Deep.RegionWith
import Derived.RegionTactic
import Derived.BigRegion
import Derived.Test.YtleohgnnbpicjaaAhdGrtR
import Derived.Test.YtleohgnnbpicjaaAhdPlan
namespace Go.Proofs.Ytleohgnnbpicjaa
open Go.RowKit
set_option linter.unusedVariables false

attribute [local go_sem] cell_past1 cell_past2 cell_past3 cell_past4 froz_past1 froz_past2 froz_past3
attribute [local go_sem ↓] loadB_in

/-- Where the arguments are fine, Choice says of the reference's numbers what the number of the plan says; and then they are greatest's. -/
theorem plan_ref (g : Nat → Nat → Int) (z : Nat → Int) (en : Int) (n : Nat) (s : Nat → Int) (h0 : 0 < n) (hs : ∀ k, k < n → bsnd g k = true) (he : ¬ (en < 0 ∨ g 0 6 < en)) (hi : RInv g z en n (grt g z en n) s) (hf : RFix g n s) (hsi : ∀ i, i ≤ n → -9223372036854775808 ≤ s i ∧ s i ≤ 1099511627776) :
    (choB g z en n s = true → plnE g z en n n = 0) ∧ (plnE g z en n n = 0 → choB g z en n s = true ∧ ∀ i, i ≤ n → s i = grt g z en n i) ∧ (plnE g z en n n = 0 ∨ plnE g z en n n = 8) := by
  have hlow := grt_low g z en n h0 hs
  have key : LowS g z en n s → ∀ i, i ≤ n → s i = grt g z en n i := fun hl i hin => by
    have a := low_le g z en n s hl i hin
    have b := hi.2.2.2 i hin
    omega
  have hcap : ∀ i, 1 ≤ i → i < n → s i ≤ z i ∧ s i ≤ g (i - 1) 6 ∧ s i ≤ g i 6 := fun i h1 h2 => by
    have := hi.2.2.1 i h1 h2
    unfold rcap at this
    omega
  refine ⟨fun h => ?_, fun h => ?_, ?_⟩
  · -- the choice is a lower solution
    unfold choB at h
    rw [Bool.and_eq_true, Bool.and_eq_true, allTo_iff] at h
    obtain ⟨_, ht⟩ := h
    have hpos : ∀ i, i ≤ n → 0 ≤ s i := fun i hin => by
      have := ht i (by omega)
      rw [Bool.and_eq_true] at this
      have hA := this.1
      unfold tstA at hA
      rw [Bool.and_eq_true] at hA
      exact of_decide_eq_true hA.1
    have hgap : ∀ i, i < n → s (i + 1) ≤ s i + rch g i ∧ s i ≤ s (i + 1) + rch g i := fun i hin => by
      have := ht i (by omega)
      rw [Bool.and_eq_true] at this
      have hB := this.2
      unfold tstB at hB
      rw [decide_eq_true hin] at hB
      have hB' : szV (RowKit.wrap64 (s (i + 1) - s i)) ≤ rch g i := by simpa using hB
      have p1 := hpos i (by omega)
      have p2 := hpos (i + 1) (by omega)
      have q1 := hsi i (by omega)
      have q2 := hsi (i + 1) (by omega)
      rw [szV_le _ _ (by omega)] at hB'
      omega
    have hl : LowS g z en n s := ⟨by rw [hi.1]; exact Int.le_refl _, by rw [hi.2.1]; exact Int.le_refl _, hcap, hgap⟩
    have hk := key hl
    refine pln_ok g z en n hs (fun _ => ⟨by omega, by omega, ?_, ?_, fun i hin => ?_⟩)
    · rw [← hk 0 (by omega)]; exact hi.1
    · rw [← hk n (Nat.le_refl _)]; exact hi.2.1
    · rw [← hk i (by omega)]; exact hpos i (by omega)
  · obtain ⟨_, _, hp⟩ := pln_zero g z en n n h
    obtain ⟨a, b, c, d, p⟩ := hp (by omega)
    have hgap : ∀ i, i < n → s (i + 1) ≤ s i + rch g i ∧ s i ≤ s (i + 1) + rch g i := fun i hin => by
      have hr := (bsnd_in g i (hs i hin)).2.2.2
      have t1 := (hlow.2.2.2 i hin).1
      have t2 := (hlow.2.2.2 i hin).2
      have u1 := hi.2.2.2 i (by omega)
      have u2 := hi.2.2.2 (i + 1) (by omega)
      constructor
      · by_cases e : i + 1 = n
        · rw [e, hi.2.1]
          by_cases e0 : i = 0
          · subst e0; rw [hi.1]; omega
          · have := p i (by omega); omega
        · have := hf (i + 1) (by omega) (by omega)
          unfold rmost at this
          rw [Nat.add_sub_cancel] at this
          omega
      · by_cases e0 : i = 0
        · subst e0; rw [hi.1]; omega
        · have := hf i (by omega) hin
          unfold rmost at this
          omega
    have hl : LowS g z en n s := ⟨by rw [hi.1]; exact Int.le_refl _, by rw [hi.2.1]; exact Int.le_refl _, hcap, hgap⟩
    have hk := key hl
    refine ⟨?_, hk⟩
    have hpos : ∀ i, i ≤ n → 0 ≤ s i := fun i hin => by
      rw [hk i hin]
      by_cases e : i = n
      · subst e; omega
      · exact p i (by omega)
    unfold choB
    rw [Bool.and_eq_true, Bool.and_eq_true, allTo_iff]
    refine ⟨⟨by rw [hi.1]; simp, by rw [hi.2.1]; rfl⟩, fun i hin => ?_⟩
    rw [Bool.and_eq_true]
    have p1 := hpos i (by omega)
    have q1 := hsi i (by omega)
    by_cases hlt : i < n
    · have hg := hgap i hlt
      have p2 := hpos (i + 1) (by omega)
      have q2 := hsi (i + 1) (by omega)
      constructor
      · unfold tstA
        by_cases e0 : 0 < i
        · have hc := hcap i (by omega) hlt
          rw [decide_eq_true p1, decide_eq_true hc.1, decide_eq_true hc.2.1, decide_eq_true hc.2.2]; simp
        · obtain rfl : i = 0 := by omega
          rw [decide_eq_true p1, decide_eq_true (show s 0 ≤ g 0 6 by rw [hi.1]; omega)]; simp
      · unfold tstB
        rw [decide_eq_true ((szV_le _ _ (by omega)).2 ⟨by omega, by omega⟩)]; simp
    · obtain rfl : i = n := by omega
      have hcr := (bsnd_in g (i - 1) (hs (i - 1) (by omega))).2.1
      constructor
      · unfold tstA
        rw [decide_eq_true p1, decide_eq_false hlt, decide_eq_true (show s i ≤ g (i - 1) 6 by rw [hi.2.1]; omega)]; simp
      · unfold tstB
        rw [decide_eq_false hlt]; rfl
  · unfold plnE
    rw [if_neg (by rw [(allTo_iff _ n).2 hs]; simp), if_neg (by simp), if_neg (by omega), if_neg he]
    split
    · exact Or.inr rfl
    split
    · exact Or.inl rfl
    · exact Or.inr rfl
theorem intS_grown {w w1 : World} {b off n : Nat} {z : Nat → Int} {row : Option Nat} (h : IntS w (some ⟨b, off, none⟩) n z) (hg : w.grownBy w1 row) (hr : some b ≠ row) : IntS w1 (some ⟨b, off, none⟩) n z := fun h0 => by
  obtain ⟨b2, o2, e, hlt, hc⟩ := h h0
  cases e
  exact ⟨b, off, rfl, Nat.lt_of_lt_of_le hlt hg.size, fun k hk => (World.cell?_of_block (hg.block b hlt hr)).trans (hc k hk)⟩
theorem intS_set {w : World} {b off n o c : Nat} {z : Nat → Int} {v : Value} (h : IntS w (some ⟨b, off, none⟩) n z) (hne : c ≠ b) : IntS (w.setCell ⟨c, o, none⟩ v) (some ⟨b, off, none⟩) n z := fun h0 => by
  obtain ⟨b2, o2, e, hlt, hc⟩ := h h0
  cases e
  exact ⟨b, off, rfl, by simpa [World.setCell] using hlt, fun k hk => by rw [World.cell?_setCell_other w _ _ _ (by intro h2; cases h2; exact hne rfl)]; exact hc k hk⟩
theorem rowS_conv {w : World} {b n : Nat} {s t : Nat → Int} (h : RowS w b n s) (e : ∀ i, s i = t i) : RowS w b n t := ⟨h.1, fun i hi => by rw [h.2.1 i hi, e i], h.2.2⟩
theorem rowS_blkS {w : World} {b n : Nat} {g : Nat → Nat → Int} (h : RowS w b (n * 8) (flat g)) : BlkS w (some ⟨b, 0, none⟩) n g := fun h0 =>
  ⟨b, 0, rfl, h.1, fun k hk o ho => by rw [Nat.zero_add, h.2.1 (k * 8 + o) (by omega), flat_at g k o ho]⟩
theorem owns_rowB {w : World} {base n : Nat} {v : Value} {s : Nat → Int} (h : w.ownsRow base 24 8 v n (arrF (n * 8) s).toList) (hn : 0 < n) : ∃ g cap, v = .slice (some ⟨g, 0, none⟩) n cap ∧ base ≤ g ∧ n ≤ cap ∧ cap ≤ maxLen ∧ RowS w g (n * 8) s := by
  obtain ⟨h1, h2⟩ := h
  rcases h2 with ⟨_, h3⟩ | ⟨g, cap, cur, hv, hg, hh, hnc, hm, hsz, htk⟩
  · omega
  · refine ⟨g, cap, hv, hg, hnc, hm, (Array.getElem?_eq_some_iff.1 hh).1, fun k hk => ?_, fun o => by simp [World.frozen?, hh]⟩
    have h4 : (arrF (n * 8) s).toList[k]? = some (.int .i64 (s k)) := by rw [Array.getElem?_toList, arrF_at _ _ k hk]
    rw [← htk, List.getElem?_take, if_pos hk] at h4
    simp only [World.cell?, hh]
    simpa using h4
theorem plnG_updF (g : Nat → Nat → Int) (z : Nat → Int) (en : Int) (n k : Nat) (j : Nat) : upd (upd (flat (plnG g z en n k)) (k * 8 + 5) (grt g z en n k)) (k * 8 + 7) (grt g z en n (k + 1)) j = flat (plnG g z en n (k + 1)) j := by
  have h := arrF_at (j + 1) (upd (upd (flat (plnG g z en n k)) (k * 8 + 5) (grt g z en n k)) (k * 8 + 7) (grt g z en n (k + 1))) j (by omega)
  rw [plnG_upd, arrF_at _ _ j (by omega)] at h
  simpa using h.symm
def Q2Rel (g : Nat → Nat → Int) (z : Nat → Int) (en : Int) (n : Nat) (w : World) (SS SO : Nat) (s63 : Value) (wx : World) : Prop :=
  ∃ k : Nat, s63 = .int .i64 k ∧ k ≤ n ∧ IntS wx (some ⟨SS, 0, none⟩) (n + 1) (grt g z en n) ∧ SS < wx.heap.size ∧ RowS wx SO (n * 8) (flat (plnG g z en n k)) ∧ Below w.heap.size w wx
theorem blkInfo0 : (Try.prog.info? 24).map (fun i => (i.zero, i.size, i.bytes)) = some (some (.agg #[.int .i64 0, .int .i64 0, .int .i64 0, .int .i64 0, .int .i64 0, .int .i64 0, .int .i64 0, .int .i64 0]), 8, 64) := blk_info2

set_option maxRecDepth 100000 in
set_option maxHeartbeats 8000000 in
theorem ref44_plan (g : Nat → Nat → Int) (z : Nat → Int) (en : Int) (sl sc : Option Addr) (n m cl cc : Nat) (w : World) (hzi : ∀ k, I64 (z k)) (hn : n ≤ 1000000) (hm : m ≤ 9223372036854775807) (hl : BlkS w sl n g) (hz : IntS w sc m z) :
    Calls Try.prog 22 #[.slice sl n cl, .slice sc m cc, .int .i64 en] w (PlnPost g z en n m w) := by
  have HL := Lib.hid hl
  have HZ := Lib.hid hz
  have HZI := Lib.hid hzi
  clear hl hz hzi
  go_enter Try.func22, Try.ntmps22
  go_wp2_with fail
  go_loopw [15] (P1Rel g n w) (fun i _ => n - (intOf i).toNat)
  case atStart => exact ⟨0, rfl, Nat.zero_le _, rfl, by (repeat' (first | with_reducible exact Below.refl _ _ | with_reducible refine Below.drew ?_ | with_reducible refine below_drewN ?_ _ | with_reducible refine Below.alloc ?_ ?_ _ | with_reducible refine Below.setCell ?_ ?_ _ | with_reducible refine Below.trans ?_ (Below.mono (by with_reducible assumption) ?_) | (simp; done) | (simp; omega) | omega))⟩
  case round =>
    obtain ⟨k, rfl, hk, hall, hb⟩ := hrel
    by_cases hlt : k < n
    · obtain ⟨b, off, rfl, hbl, _⟩ := HL.out (by omega)
      have HALL := Lib.hid hall
      clear hall
      have KS := Lib.hid (fun w => ref44_sound_g g k w)
      go_upto_region 4 with (first | ((with_reducible refine wpList_load_in (ty := 24) b (off + k * 8) (blkA g k) ?_ (blkS_rng (blkS_below hb (Nat.le_refl _) HL.out) k hlt) Try.underlying24 ?_ ?_ ?_); (· rfl); (· rfl); (· kernel_rfl)) | ((with_reducible refine wpList_store_in (ty := 24) wr.heap.size 0 (blkA g k) ?_ ?_ ?_ ?_ (blkA_one _ _) ?_); (· rfl); (· rfl); (· exact live_there (live_new _ _ rfl) 0 8 (by decide)); (· kernel_rfl)))
      refine gen_world (fun wx => ∃ X, X = wr.heap.size ∧ Live wx X (blkA g k) ∧ Below w.heap.size w wx) ?_ ?_
      · have hbb : Below wr.heap.size wr ((wr.alloc (.cells #[.int .i64 0, .int .i64 0, .int .i64 0, .int .i64 0, .int .i64 0, .int .i64 0, .int .i64 0, .int .i64 0] 24)).setCells wr.heap.size 0 (blkA g k).toList) := below_setCells (Nat.le_refl _) _ _ _ (by (repeat' (first | with_reducible exact Below.refl _ _ | with_reducible refine Below.drew ?_ | with_reducible refine below_drewN ?_ _ | with_reducible refine Below.alloc ?_ ?_ _ | with_reducible refine Below.setCell ?_ ?_ _ | with_reducible refine Below.trans ?_ (Below.mono (by with_reducible assumption) ?_) | (simp; done) | (simp; omega) | omega)))
        exact ⟨_, rfl, live_whole (live_new _ _ rfl) _ rfl, hb.trans (hbb.mono hb.size)⟩
      rintro wx ⟨X, hX, L, hb⟩
      rw [← hX]
      simp only [Act.put]
      clear hX
      have p0 := L.1
      have hbs := hb.size
      have lb := loadB_run (live_rangeAll L)
      cases hv : bsnd g k
      · rw [hv] at KS
        have HE : Hid (plnE g z en n m = 1) := Lib.hid (pln_E1 g z en n m k hlt hv)
        clear hv
        go_wp2_with (go_at_call 41; (with_reducible refine (KS.out _).mono ?_); rintro e w1 ⟨rfl, hb1⟩; have z1 := hb1.size; (try simp at z1))
        exact bodyPost_ret (v := .tuple #[.slice none 0 0, .int .i64 1]) (by simp [results, Try.results22, go_sem]) rfl (pln_none g z en n m w _ 1 HE.out (by omega) (by (repeat' (first | with_reducible exact Below.refl _ _ | with_reducible refine Below.drew ?_ | with_reducible refine below_drewN ?_ _ | with_reducible refine Below.alloc ?_ ?_ _ | with_reducible refine Below.setCell ?_ ?_ _ | with_reducible refine Below.trans ?_ (Below.mono (by with_reducible assumption) ?_) | (simp; done) | (simp; omega) | omega))))
      · rw [hv] at KS
        have HA : Hid (allTo (bsnd g) (k + 1) = true) := Lib.hid (by show (_ && bsnd g k) = true; rw [HALL.out, hv]; rfl)
        clear hv
        go_wp2_with (go_at_call 41; (with_reducible refine (KS.out _).mono ?_); rintro e w1 ⟨rfl, hb1⟩; have z1 := hb1.size; (try simp at z1))
        go_roundw
        case rel => exact ⟨k + 1, by go_num, by omega, HA.out, by (repeat' (first | with_reducible exact Below.refl _ _ | with_reducible refine Below.drew ?_ | with_reducible refine below_drewN ?_ _ | with_reducible refine Below.alloc ?_ ?_ _ | with_reducible refine Below.setCell ?_ ?_ _ | with_reducible refine Below.trans ?_ (Below.mono (by with_reducible assumption) ?_) | (simp; done) | (simp; omega) | omega))⟩
        case measure => first | (simp [intOf]; done) | (simp [intOf]; omega)
    · obtain rfl : n = k := by omega
      have HALL := Lib.hid hall
      clear hall
      by_cases hne : n = m
      case neg =>
        have b1 : ((m : Int) != (n : Int)) = true := bne_iff_ne.2 (by omega)
        have HE : Hid (plnE g z en n m = 1) := Lib.hid (pln_E2 g z en n m HALL.out hne)
        clear hne
        go_wp2_with fail
        exact bodyPost_ret (v := .tuple #[.slice none 0 0, .int .i64 1]) (by simp [results, Try.results22, go_sem]) rfl (pln_none g z en n m w _ 1 HE.out (by omega) (by (repeat' (first | with_reducible exact Below.refl _ _ | with_reducible refine Below.drew ?_ | with_reducible refine below_drewN ?_ _ | with_reducible refine Below.alloc ?_ ?_ _ | with_reducible refine Below.setCell ?_ ?_ _ | with_reducible refine Below.trans ?_ (Below.mono (by with_reducible assumption) ?_) | (simp; done) | (simp; omega) | omega))))
      subst hne
      have b1 : ((n : Int) != (n : Int)) = false := by simp
      by_cases h0 : n = 0
      · subst h0
        have HE : Hid (plnE g z en 0 0 = 0) := Lib.hid (pln_E0 g z en)
        go_wp2_with fail
        exact bodyPost_ret (v := .tuple #[.slice none 0 0, .int .i64 0]) (by simp [results, Try.results22, go_sem]) rfl (pln_none g z en 0 0 w _ 0 HE.out (by omega) (by (repeat' (first | with_reducible exact Below.refl _ _ | with_reducible refine Below.drew ?_ | with_reducible refine below_drewN ?_ _ | with_reducible refine Below.alloc ?_ ?_ _ | with_reducible refine Below.setCell ?_ ?_ _ | with_reducible refine Below.trans ?_ (Below.mono (by with_reducible assumption) ?_) | (simp; done) | (simp; omega) | omega))))
      have b2 : decide ((0 : Int) < (n : Int)) = true := by simp; omega
      have b3 : ((n : Int) == 0) = false := beq_eq_false_iff_ne.2 (by omega)
      obtain ⟨b, off, rfl, hbl, _⟩ := HL.out (by omega)
      have q6 := blkS_cell (blkS_below hb (Nat.le_refl _) HL.out) 0 6 (by omega) (by omega)
      rw [Nat.zero_mul, Nat.add_zero] at q6
      have hbw := hb.size
      have hblr : b < wr.heap.size := by omega
      by_cases c1 : en < 0
      case pos =>
        have b4 : decide (en < 0) = true := by simpa using c1
        have HE : Hid (plnE g z en n n = 1) := Lib.hid (pln_E3 g z en n HALL.out h0 (Or.inl c1))
        clear c1
        go_wp2_with fail
        exact bodyPost_ret (v := .tuple #[.slice none 0 0, .int .i64 1]) (by simp [results, Try.results22, go_sem]) rfl (pln_none g z en n n w _ 1 HE.out (by omega) (by (repeat' (first | with_reducible exact Below.refl _ _ | with_reducible refine Below.drew ?_ | with_reducible refine below_drewN ?_ _ | with_reducible refine Below.alloc ?_ ?_ _ | with_reducible refine Below.setCell ?_ ?_ _ | with_reducible refine Below.trans ?_ (Below.mono (by with_reducible assumption) ?_) | (simp; done) | (simp; omega) | omega))))
      have b4 : decide (en < 0) = false := by simp; omega
      by_cases c2 : g 0 6 < en
      case pos =>
        have b5 : decide (g 0 6 < en) = true := by simpa using c2
        have HE : Hid (plnE g z en n n = 1) := Lib.hid (pln_E3 g z en n HALL.out h0 (Or.inr c2))
        clear c1 c2
        go_wp2_with fail
        exact bodyPost_ret (v := .tuple #[.slice none 0 0, .int .i64 1]) (by simp [results, Try.results22, go_sem]) rfl (pln_none g z en n n w _ 1 HE.out (by omega) (by (repeat' (first | with_reducible exact Below.refl _ _ | with_reducible refine Below.drew ?_ | with_reducible refine below_drewN ?_ _ | with_reducible refine Below.alloc ?_ ?_ _ | with_reducible refine Below.setCell ?_ ?_ _ | with_reducible refine Below.trans ?_ (Below.mono (by with_reducible assumption) ?_) | (simp; done) | (simp; omega) | omega))))
      have b5 : decide (g 0 6 < en) = false := by simp; omega
      have hs := (allTo_iff _ n).1 HALL.out
      have hcr := (bsnd_in g 0 (hs 0 (by omega))).2.1
      have HEN : Hid (¬ (en < 0 ∨ g 0 6 < en)) := Lib.hid (by omega)
      have hgi := grt_in g z en n HZI.out hs (by omega) (by omega)
      have HGI := Lib.hid hgi
      have KG := Lib.hid (fun w hl hz => ref44_greatest g z en (grt g z en n) (some ⟨b, off, none⟩) sc n cl cc w hs (grt_low g z en n (by omega) hs) (fun i => (hgi i).1) (by omega) hn (by omega) hl hz)
      have KCH := Lib.hid (fun (SS cap : Nat) (s : Nat → Int) w hl hz hc => ref44_choice g z s en (some ⟨b, off, none⟩) sc (some ⟨SS, 0, none⟩) n cl cc cap w (by omega) hn hs hl hz hc)
      have hREF := fun s hi hf => plan_ref g z en n s (by omega) hs HEN.out hi hf (rinv_in g z en n _ s hi (fun i => (hgi i).1) hs (by omega))
      have HREF := Lib.hid hREF
      have HS := Lib.hid hs
      clear hs hcr c1 c2 hgi hREF
      go_upto_region 12 with (go_at_call 46; (with_reducible refine (KG.out _ ?_ ?_).mono ?_); (· exact blkS_below hb (Nat.le_refl _) HL.out); (· exact intS_below hb (Nat.le_refl _) HZ.out); rintro e w1 ⟨SS, cap, s, rfl, hS1, hSl, hSS, hinv, hfix, hb1⟩)
      obtain ⟨r1, r2, r3⟩ := HREF.out s hinv hfix
      have HSS := Lib.hid hS1
      refine gen_world (fun wx => IntS wx (some ⟨SS, 0, none⟩) (n + 1) s ∧ SS < wx.heap.size ∧ Below w.heap.size w wx ∧ w.heap.size ≤ SS) ?_ ?_
      · exact ⟨HSS.out, hSl, hb.trans (hb1.mono hb.size), Nat.le_trans hb.size hSS⟩
      clear HSS hS1 hSl hb1 hSS hb q6 hblr hbw KG hinv hfix HREF
      rintro wx ⟨hS1, hSl, hb, hSS⟩
      have HS1 := Lib.hid hS1
      clear hS1
      have hbs := hb.size
      have KC := Lib.hid (fun w hl hz hc => KCH.out SS cap s w hl hz hc)
      by_cases hE : plnE g z en n n = 0
      case neg =>
        have hc : choB g z en n s = false := by
          rw [← Bool.not_eq_true]
          intro h
          exact hE (r1 h)
        have HE : Hid (plnE g z en n n = 8) := Lib.hid (by omega)
        rw [hc] at KC
        clear hc hE r1 r2 r3 KCH
        go_wp2_with (go_at_call 44; (with_reducible refine (KC.out _ ?_ ?_ ?_).mono ?_); (· exact blkS_below hb (Nat.le_refl _) HL.out); (· exact intS_below hb (Nat.le_refl _) HZ.out); (· exact HS1.out); rintro e w1 ⟨rfl, hb1⟩; have z1 := hb1.size; (try simp at z1))
        exact bodyPost_ret (v := .tuple #[.slice none 0 0, .int .i64 8]) (by simp [results, Try.results22, go_sem]) rfl (pln_none g z en n n w _ 8 HE.out (by omega) (by (repeat' (first | with_reducible exact Below.refl _ _ | with_reducible refine Below.drew ?_ | with_reducible refine below_drewN ?_ _ | with_reducible refine Below.alloc ?_ ?_ _ | with_reducible refine Below.setCell ?_ ?_ _ | with_reducible refine Below.trans ?_ (Below.mono (by with_reducible assumption) ?_) | (simp; done) | (simp; omega) | omega))))
      obtain ⟨hc, hsg⟩ := r2 hE
      have HE := Lib.hid hE
      have HSG := Lib.hid hsg
      rw [hc] at KC
      clear hc hE r1 r2 r3 hsg KCH
      obtain ⟨i0, hi, hz0, hz1, hz2⟩ := info_parts blkInfo0
      go_upto_region 14 with (go_at_call 44; (with_reducible refine (KC.out _ ?_ ?_ ?_).mono ?_); (· exact blkS_below hb (Nat.le_refl _) HL.out); (· exact intS_below hb (Nat.le_refl _) HZ.out); (· exact HS1.out); rintro e w1 ⟨rfl, hb1⟩; have z1 := hb1.size; (try simp at z1))
      refine gen_world (fun wx => IntS wx (some ⟨SS, 0, none⟩) (n + 1) (grt g z en n) ∧ SS < wx.heap.size ∧ Below w.heap.size w wx) ?_ ?_
      · have hh : IntS w1 (some ⟨SS, 0, none⟩) (n + 1) s := intS_below hb1 (Nat.le_refl _) HS1.out
        refine ⟨fun h => ?_, by omega, by (repeat' (first | with_reducible exact Below.refl _ _ | with_reducible refine Below.drew ?_ | with_reducible refine below_drewN ?_ _ | with_reducible refine Below.alloc ?_ ?_ _ | with_reducible refine Below.setCell ?_ ?_ _ | with_reducible refine Below.trans ?_ (Below.mono (by with_reducible assumption) ?_) | (simp; done) | (simp; omega) | omega))⟩
        obtain ⟨b3, o3, e3, hl3, hc3⟩ := hh h
        exact ⟨b3, o3, e3, hl3, fun k hk => by rw [hc3 k hk, HSG.out k (by omega)]⟩
      clear HS1 hb1 z1 hSl hb hbs KC
      rintro wy ⟨hS1, hSl, hb⟩
      have hbs0 := hb.size
      have HS1 := Lib.hid hS1
      clear hS1
      have hbs := hb.size
      have hlit := World.ownsRow_lit (e := 24) (size := 8) (base := wy.heap.size) wy #[] 0 (Nat.le_refl _) (by unfold maxLen; omega) rfl
      go_upto_region 15 with (first | (at_builtin; refine wpList_append_own _ rfl _ _ 27 rfl wy.heap.size 24 i0 _ 8 64 Try.underlying27 hi hz0 hz1 hz2 rfl (by decide) _ 0 [] rfl hlit ⟨b, off, none⟩ n cl (arrF (n * 8) (flat g)).toList rfl (by rw [Array.length_toList, arrF_size]) ?_ (arrF_one _ _) ?_ ?_ ?_ ?_; (· exact blkS_flat (blkS_below (hb.alloc hbs _) (Nat.le_refl _) HL.out)); (· unfold maxLen; omega); (· omega); (· simp); intro v' w2 hown' hgrow _))
      have hb2 : Below w.heap.size w w2 := Below.grown (by refine Below.trans hb ?_; (repeat' (first | with_reducible exact Below.refl _ _ | with_reducible refine Below.drew ?_ | with_reducible refine below_drewN ?_ _ | with_reducible refine Below.alloc ?_ ?_ _ | with_reducible refine Below.setCell ?_ ?_ _ | with_reducible refine Below.trans ?_ (Below.mono (by with_reducible assumption) ?_) | (simp; done) | (simp; omega) | omega))) hgrow (by simp; omega) (fun j hj => by have := (hlit.lt j hj).1; omega)
      have hs2 := intS_grown (n := n + 1) (w1 := w2) (show IntS (wy.alloc _) (some ⟨SS, 0, none⟩) (n + 1) (grt g z en n) from intS_below (B := wy.heap.size) (by (repeat' (first | with_reducible exact Below.refl _ _ | with_reducible refine Below.drew ?_ | with_reducible refine below_drewN ?_ _ | with_reducible refine Below.alloc ?_ ?_ _ | with_reducible refine Below.setCell ?_ ?_ _ | with_reducible refine Below.trans ?_ (Below.mono (by with_reducible assumption) ?_) | (simp; done) | (simp; omega) | omega))) (Nat.le_refl _) HS1.out) hgrow (fun h => by have := (hlit.lt SS h.symm).1; omega)
      have hl2 : SS < w2.heap.size := by have := hgrow.size; simp at this; omega
      rw [List.nil_append, Nat.zero_add] at hown'
      obtain ⟨SO, cap2, rfl, hSO, hc1, hc2, hrow⟩ := owns_rowB hown' (by omega)
      clear hgrow hown' HS1 hb
      have hne : SO ≠ SS := by omega
      have hrow0 : RowS w2 SO (n * 8) (flat (plnG g z en n 0)) := ⟨hrow.1, fun i hi => by rw [hrow.2.1 i hi]; unfold flat plnG; rw [if_neg (by omega), if_neg (by omega)], hrow.2.2⟩
      clear hrow
      go_wp2_with fail
      go_loopw [63] (Q2Rel g z en n w SS SO) (fun i _ => n - (intOf i).toNat)
      case atStart => exact ⟨0, rfl, Nat.zero_le _, hs2, hl2, hrow0, hb2⟩
      case round =>
        clear hs2 hl2 hrow0 hb2
        obtain ⟨k, rfl, hk, hs2, hl2, hrow, hb⟩ := hrel
        have hbs := hb.size
        by_cases hlt : k < n
        · have p1 := hrow.1
          have ck := intS_cell hs2 k (by omega)
          have ck1 := intS_cell hs2 (k + 1) (by omega)
          rw [Nat.zero_add] at ck ck1
          have HS2 := Lib.hid hs2
          clear hs2
          have e5 := hrow.2.1 (k * 8 + 5) (by omega)
          have e7 := hrow.2.1 (k * 8 + 7) (by omega)
          have f5 := hrow.2.2 (k * 8 + 5)
          have f7 := hrow.2.2 (k * 8 + 7)
          have j1 : (k : Int) < (n : Int) := by omega
          have j2 : (k : Int) < (n : Int) + 1 := by omega
          have j3 : (k : Int) + 1 < (n : Int) + 1 := by omega
          have j4 : IntKind.i64.wrap ((k : Int) + 1) = (k : Int) + 1 := IntWalk.i64_in _ (by omega)
          have j5 : ((k : Int) + 1).toNat = k + 1 := by omega
          have j6 : (0 : Int) ≤ (k : Int) + 1 := by omega
          go_wp2_with fail
          go_roundw
          case rel => exact ⟨k + 1, by go_num, by omega, intS_set (intS_set HS2.out hne) hne, by simpa [World.setCell] using hl2, rowS_conv (rowS_set (rowS_set hrow (k * 8 + 5) _ (by omega)) (k * 8 + 7) _ (by omega)) (plnG_updF g z en n k), by (repeat' (first | with_reducible exact Below.refl _ _ | with_reducible refine Below.drew ?_ | with_reducible refine below_drewN ?_ _ | with_reducible refine Below.alloc ?_ ?_ _ | with_reducible refine Below.setCell ?_ ?_ _ | with_reducible refine Below.trans ?_ (Below.mono (by with_reducible assumption) ?_) | (simp; done) | (simp; omega) | omega))⟩
          case measure => first | (simp [intOf]; done) | (simp [intOf]; omega)
        · obtain rfl : n = k := by omega
          go_wp2_with fail
          exact bodyPost_ret (v := .tuple #[.slice (some ⟨SO, 0, none⟩) n cap2, .int .i64 0]) (by simp [results, Try.results22, go_sem]) rfl ⟨some ⟨SO, 0, none⟩, n, cap2, by rw [HE.out], by rw [HE.out, if_pos rfl], hc1, by unfold maxLen at hc2; omega, rowS_blkS hrow, fun p h => by cases h; exact Nat.le_trans hbs0 hSO, hb⟩
end Go.Proofs.Ytleohgnnbpicjaa
