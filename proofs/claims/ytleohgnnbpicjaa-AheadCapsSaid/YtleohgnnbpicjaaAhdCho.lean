/- What Choice of the reference of chapter 44 returns -/
import Derived.Deep.DeepCutAuto
import Derived.BigQuiet
import Derived.Deep.QuietTactic
import Derived.IntWalk
import Derived.Deep.RegionHeld3
import Derived.Deep.RegionWith
import Derived.RegionTactic
import Derived.BigRegion
import Derived.Test.YtleohgnnbpicjaaAhdLow
namespace Go.Proofs.Ytleohgnnbpicjaa
open Go.RowKit
set_option linter.unusedVariables false

attribute [local go_sem] cell_past1 cell_past2 cell_past3 cell_past4 froz_past1 froz_past2 froz_past3
attribute [local go_sem ↓] loadB_in

def szV (n : Int) : Int := max n (RowKit.wrap64 (-n))
theorem ref44_size (n : Int) (w : World) : Calls Try.prog 61 #[.int .i64 n] w fun e w' => e = .returned (.int .i64 (szV n)) ∧ w = w' := by
  have hmx := @run_max2 Try.prog
  go_enter Try.func61, Try.ntmps61
  go_wp2
  all_goals go_ret
  all_goals exact ⟨rfl, rfl⟩
def tstA (g : Nat → Nat → Int) (z c : Nat → Int) (n k : Nat) : Bool :=
  decide (0 ≤ c k) && ((!decide (k < n) || decide (c k ≤ g k 6)) && ((!decide (0 < k) || decide (c k ≤ g (k - 1) 6)) && (!(decide (0 < k) && decide (k < n)) || decide (c k ≤ z k))))
def tstB (g : Nat → Nat → Int) (c : Nat → Int) (n k : Nat) : Bool := !decide (k < n) || decide (szV (RowKit.wrap64 (c (k + 1) - c k)) ≤ rch g k)
def choB (g : Nat → Nat → Int) (z : Nat → Int) (en : Int) (n : Nat) (c : Nat → Int) : Bool := (c 0 == en && c n == 0) && allTo (fun k => tstA g z c n k && tstB g c n k) (n + 1)
theorem cho_bad (g : Nat → Nat → Int) (z : Nat → Int) (en : Int) (n : Nat) (c : Nat → Int) (k : Nat) (hk : k ≤ n) (h : tstA g z c n k = false ∨ tstB g c n k = false) : choB g z en n c = false := by
  unfold choB
  rw [allTo_false _ (show k < n + 1 by omega) (by rcases h with h | h <;> rw [h] <;> simp)]
  simp
theorem cho_ends (g : Nat → Nat → Int) (z : Nat → Int) (en : Int) (n : Nat) (c : Nat → Int) (h : c 0 ≠ en ∨ c n ≠ 0) : choB g z en n c = false := by
  unfold choB
  rcases h with h | h
  · rw [beq_eq_false_iff_ne.2 h]; rfl
  · rw [beq_eq_false_iff_ne.2 h]; simp
theorem cho_good (g : Nat → Nat → Int) (z : Nat → Int) (en : Int) (n : Nat) (c : Nat → Int) (h0 : c 0 = en) (hn : c n = 0) (h : allTo (fun k => tstA g z c n k && tstB g c n k) (n + 1) = true) : choB g z en n c = true := by
  unfold choB
  rw [h, h0, hn]; simp
def ChRel (g : Nat → Nat → Int) (z c : Nat → Int) (n : Nat) (w : World) (s10 : Value) (wx : World) : Prop := ∃ k : Nat, s10 = .int .i64 k ∧ k ≤ n + 1 ∧ allTo (fun k => tstA g z c n k && tstB g c n k) k = true ∧ Below w.heap.size w wx
theorem keep9 {w wx : World} {b off bs os n : Nat} {g : Nat → Nat → Int} {c : Nat → Int} {k : Nat} (hl : BlkS w (some ⟨b, off, none⟩) n g) (hc : IntS w (some ⟨bs, os, none⟩) (n + 1) c) (hk : k < n) (hb : Below w.heap.size w wx) :
    wx.rangeAt b (off + k * 8) (blkA g k).toList ∧ wx.cell? ⟨bs, os + (k + 1), none⟩ = some (.int .i64 (c (k + 1))) ∧ wx.cell? ⟨bs, os + k, none⟩ = some (.int .i64 (c k)) :=
  have hl' := blkS_below hb (Nat.le_refl _) hl
  have hc' := intS_below hb (Nat.le_refl _) hc
  ⟨blkS_rng hl' _ hk, intS_cell hc' _ (by omega), intS_cell hc' _ (by omega)⟩

set_option maxRecDepth 100000 in
set_option maxHeartbeats 8000000 in
theorem ref44_choice (g : Nat → Nat → Int) (z c : Nat → Int) (en : Int) (sl sc ss : Option Addr) (n cl cc cs : Nat) (w : World) (h0 : 0 < n) (hn : n ≤ 1000000) (hs : ∀ k, k < n → bsnd g k = true) (hl : BlkS w sl n g) (hz : IntS w sc n z) (hc : IntS w ss (n + 1) c) :
    Calls Try.prog 44 #[.slice sl n cl, .slice sc n cc, .int .i64 en, .slice ss (n + 1) cs] w fun e w' => e = .returned (.bool (choB g z en n c)) ∧ Below w.heap.size w w' := by
  obtain ⟨b, off, rfl, hbl, _⟩ := hl h0
  obtain ⟨b', off', rfl, hbl', _⟩ := hz h0
  obtain ⟨bs, os, rfl, hbls, _⟩ := hc (by omega)
  have HL := Lib.hid hl
  have HZ := Lib.hid hz
  have HC := Lib.hid hc
  have HS := Lib.hid hs
  clear hs
  have i0 : (n : Int) < (n : Int) + 1 := by omega
  have i1 : (0 : Int) < (n : Int) + 1 := by omega
  have q0 := intS_cell hc 0 (by omega)
  have qn := intS_cell hc n (by omega)
  simp only [Nat.add_zero] at q0
  clear hl hz hc
  by_cases c1 : c 0 = en
  case neg =>
    have b1 : (c 0 != en) = true := bne_iff_ne.2 c1
    have HF : Hid (choB g z en n c = false) := Lib.hid (cho_ends g z en n c (Or.inl c1))
    clear c1
    go_enter Try.func44, Try.ntmps44
    go_wp2_with fail
    go_ret
    exact ⟨ret_bool HF.out.symm, by (repeat' (first | with_reducible exact Below.refl _ _ | with_reducible refine Below.drew ?_ | with_reducible refine below_drewN ?_ _ | with_reducible refine Below.alloc ?_ ?_ _ | with_reducible refine Below.setCell ?_ ?_ _ | with_reducible refine Below.trans ?_ (Below.mono (by with_reducible assumption) ?_) | (simp; done) | (simp; omega) | omega))⟩
  have b1 : (c 0 != en) = false := by simpa using c1
  by_cases c2 : c n = 0
  case neg =>
    have b2 : (c n != 0) = true := bne_iff_ne.2 c2
    have HF : Hid (choB g z en n c = false) := Lib.hid (cho_ends g z en n c (Or.inr c2))
    clear c1 c2
    go_enter Try.func44, Try.ntmps44
    go_wp2_with fail
    go_ret
    exact ⟨ret_bool HF.out.symm, by (repeat' (first | with_reducible exact Below.refl _ _ | with_reducible refine Below.drew ?_ | with_reducible refine below_drewN ?_ _ | with_reducible refine Below.alloc ?_ ?_ _ | with_reducible refine Below.setCell ?_ ?_ _ | with_reducible refine Below.trans ?_ (Below.mono (by with_reducible assumption) ?_) | (simp; done) | (simp; omega) | omega))⟩
  have b2 : (c n != 0) = false := by simpa using c2
  have C1 := Lib.hid c1
  have C2 := Lib.hid c2
  clear c1 c2
  go_enter Try.func44, Try.ntmps44
  go_wp2_with fail
  go_loopw [10] (ChRel g z c n w) (fun i _ => n + 1 - (intOf i).toNat)
  case atStart => exact ⟨0, rfl, Nat.zero_le _, rfl, by (repeat' (first | with_reducible exact Below.refl _ _ | with_reducible refine Below.drew ?_ | with_reducible refine below_drewN ?_ _ | with_reducible refine Below.alloc ?_ ?_ _ | with_reducible refine Below.setCell ?_ ?_ _ | with_reducible refine Below.trans ?_ (Below.mono (by with_reducible assumption) ?_) | (simp; done) | (simp; omega) | omega))⟩
  case round =>
    obtain ⟨k, rfl, hk, hall, hb⟩ := hrel
    clear b1 b2 q0 qn i1
    have HALL := Lib.hid hall
    clear hall
    have hbs := hb.size
    by_cases hlast : k = n + 1
    · subst hlast
      have b9 : decide (((n + 1 : Nat) : Int) ≤ (n : Int)) = false := decide_eq_false (by omega)
      have HF : Hid (choB g z en n c = true) := Lib.hid (cho_good g z en n c C1.out C2.out HALL.out)
      go_wp2_with fail
      go_ret
      exact ⟨ret_bool HF.out.symm, hb⟩
    have hkn : k ≤ n := by omega
    have b9 : decide ((k : Int) ≤ (n : Int)) = true := by simp; omega
    have j0 : (k : Int) < (n : Int) + 1 := by omega
    have qk := intS_cell (intS_below hb (Nat.le_refl _) HC.out) k (by omega)
    have hb1 : bs < wr.heap.size := by omega
    have hb2 : b < wr.heap.size := by omega
    have hb3 : b' < wr.heap.size := by omega
    go_upto_region 7 with (fail)
    by_cases t0 : c k < 0
    case pos =>
      have e0 : decide (c k < 0) = true := by simpa using t0
      have HF : Hid (choB g z en n c = false) := Lib.hid (cho_bad g z en n c k hkn (Or.inl (by unfold tstA; rw [decide_eq_false (show ¬ 0 ≤ c k by omega)]; rfl)))
      clear t0
      go_quiet (fail)
      all_goals (try go_wp2_with fail)
      all_goals go_ret
      all_goals refine ⟨ret_bool HF.out.symm, ?_⟩
      all_goals (repeat' (first | with_reducible exact Below.refl _ _ | with_reducible refine Below.drew ?_ | with_reducible refine below_drewN ?_ _ | with_reducible refine Below.alloc ?_ ?_ _ | with_reducible refine Below.setCell ?_ ?_ _ | with_reducible refine Below.trans ?_ (Below.mono (by with_reducible assumption) ?_) | (simp; done) | (simp; omega) | omega))
    have e0 : decide (c k < 0) = false := by simp; omega
    have T0 : Hid (decide (0 ≤ c k) = true) := Lib.hid (decide_eq_true (by omega))
    clear t0
    by_cases hlt : k < n
    case pos =>
      have j1 : decide ((k : Int) < (n : Int)) = true := by simp; omega
      have j1' : (k : Int) < (n : Int) := by omega
      have g6 := blkS_cell (blkS_below hb (Nat.le_refl _) HL.out) k 6 hlt (by omega)
      by_cases t1 : g k 6 < c k
      case pos =>
        have e1 : decide (g k 6 < c k) = true := by simpa using t1
        have HF : Hid (choB g z en n c = false) := Lib.hid (cho_bad g z en n c k hkn (Or.inl (by unfold tstA; rw [T0.out, decide_eq_true hlt, decide_eq_false (show ¬ c k ≤ g k 6 by omega)]; rfl)))
        clear t1
        go_quiet (fail)
        all_goals (try go_wp2_with fail)
        all_goals go_ret
        all_goals refine ⟨ret_bool HF.out.symm, ?_⟩
        all_goals (repeat' (first | with_reducible exact Below.refl _ _ | with_reducible refine Below.drew ?_ | with_reducible refine below_drewN ?_ _ | with_reducible refine Below.alloc ?_ ?_ _ | with_reducible refine Below.setCell ?_ ?_ _ | with_reducible refine Below.trans ?_ (Below.mono (by with_reducible assumption) ?_) | (simp; done) | (simp; omega) | omega))
      have e1 : decide (g k 6 < c k) = false := by simp; omega
      have T1 : Hid (decide (c k ≤ g k 6) = true) := Lib.hid (decide_eq_true (by omega))
      clear t1
      have HAk : Hid ((0 < k → c k ≤ g (k - 1) 6 ∧ c k ≤ z k) → tstA g z c n k = true) := Lib.hid (fun h => by
        unfold tstA
        rw [T0.out, T1.out, decide_eq_true hlt]
        by_cases h0 : 0 < k
        · rw [decide_eq_true h0, decide_eq_true (h h0).1, decide_eq_true (h h0).2]; rfl
        · rw [decide_eq_false h0]; rfl)
      have KZ := Lib.hid (fun w => ref44_size (RowKit.wrap64 (c (k + 1) - c k)) w)
      have KR := Lib.hid (fun w => ref44_reach g k w (HS.out k hlt))
      have v1 : IntKind.i64.wrap (c (k + 1) - c k) = RowKit.wrap64 (c (k + 1) - c k) := by rw [IntKind.wrap_i64]; unfold RowKit.wrap64; omega
      have j3 : IntKind.i64.wrap ((k : Int) + 1) = (k : Int) + 1 := IntWalk.i64_in _ (by omega)
      have j4 : ((k : Int) + 1).toNat = k + 1 := by omega
      have j5 : (0 : Int) ≤ (k : Int) + 1 := by omega
      have j6 : (k : Int) + 1 < (n : Int) + 1 := by omega
      have qk1 := intS_cell (intS_below hb (Nat.le_refl _) HC.out) (k + 1) (by omega)
      have hld : ∀ w' : World, w'.rangeAt b (off + k * 8) (blkA g k).toList → (loadB (.pointer (some ⟨b, off + k * 8, none⟩))).run Try.prog w' = .ok (.agg (blkA g k)) w' := fun w' h => loadB_run h
      have HB : Hid (tstB g c n k = decide (szV (RowKit.wrap64 (c (k + 1) - c k)) ≤ rch g k)) := Lib.hid (by unfold tstB; rw [decide_eq_true hlt]; rfl)
      by_cases hk0 : 0 < k
      case neg =>
        have j2 : decide ((0 : Int) < (k : Int)) = false := by simp; omega
        have HA : Hid (tstA g z c n k = true) := Lib.hid (HAk.out (fun h => absurd h hk0))
        go_quiet (fail)
        go_upto_region 9 with (fail)
        by_cases t4 : szV (RowKit.wrap64 (c (k + 1) - c k)) ≤ rch g k
        case neg =>
          have e4 : decide (rch g k < szV (RowKit.wrap64 (c (k + 1) - c k))) = true := by simp; omega
          have HF : Hid (choB g z en n c = false) := Lib.hid (cho_bad g z en n c k hkn (Or.inr (by rw [HB.out, decide_eq_false t4])))
          clear t4
          go_region_held3 (fun w' => w'.rangeAt b (off + k * 8) (blkA g k).toList ∧ w'.cell? ⟨bs, os + (k + 1), none⟩ = some (.int .i64 (c (k + 1))) ∧ w'.cell? ⟨bs, os + k, none⟩ = some (.int .i64 (c k))) (first | (focus (((with_reducible apply keep9 HL.out HC.out hlt) <;> ((repeat' (first | with_reducible exact Below.refl _ _ | with_reducible refine Below.drew ?_ | with_reducible refine below_drewN ?_ _ | with_reducible refine Below.alloc ?_ ?_ _ | with_reducible refine Below.setCell ?_ ?_ _ | with_reducible refine Below.trans ?_ (Below.mono (by with_reducible assumption) ?_) | (simp; done) | (simp; omega) | omega)))); done)) | go_keep)
            (first | (go_at_call 61; (with_reducible refine (KZ.out _).mono ?_); rintro e w1 ⟨rfl, rfl⟩) | (go_at_call 24; (with_reducible refine (KR.out _).mono ?_); rintro e w1 ⟨rfl, hb1⟩; have z1 := hb1.size; (try simp at z1)))
          all_goals (try go_wp2_with fail)
          all_goals go_ret
          all_goals refine ⟨ret_bool HF.out.symm, ?_⟩
          all_goals (repeat' (first | with_reducible exact Below.refl _ _ | with_reducible refine Below.drew ?_ | with_reducible refine below_drewN ?_ _ | with_reducible refine Below.alloc ?_ ?_ _ | with_reducible refine Below.setCell ?_ ?_ _ | with_reducible refine Below.trans ?_ (Below.mono (by with_reducible assumption) ?_) | (simp; done) | (simp; omega) | omega))
        have e4 : decide (rch g k < szV (RowKit.wrap64 (c (k + 1) - c k))) = false := by simp; omega
        have HN : Hid (allTo (fun k => tstA g z c n k && tstB g c n k) (k + 1) = true) := Lib.hid (by
          show (_ && (tstA g z c n k && tstB g c n k)) = true
          rw [HALL.out, HA.out, HB.out, decide_eq_true t4]; rfl)
        clear t4
        go_region_held3 (fun w' => w'.rangeAt b (off + k * 8) (blkA g k).toList ∧ w'.cell? ⟨bs, os + (k + 1), none⟩ = some (.int .i64 (c (k + 1))) ∧ w'.cell? ⟨bs, os + k, none⟩ = some (.int .i64 (c k))) (first | (focus (((with_reducible apply keep9 HL.out HC.out hlt) <;> ((repeat' (first | with_reducible exact Below.refl _ _ | with_reducible refine Below.drew ?_ | with_reducible refine below_drewN ?_ _ | with_reducible refine Below.alloc ?_ ?_ _ | with_reducible refine Below.setCell ?_ ?_ _ | with_reducible refine Below.trans ?_ (Below.mono (by with_reducible assumption) ?_) | (simp; done) | (simp; omega) | omega)))); done)) | go_keep)
          (first | (go_at_call 61; (with_reducible refine (KZ.out _).mono ?_); rintro e w1 ⟨rfl, rfl⟩) | (go_at_call 24; (with_reducible refine (KR.out _).mono ?_); rintro e w1 ⟨rfl, hb1⟩; have z1 := hb1.size; (try simp at z1)))
        rename_i hh; clear hh
        go_wp2_with fail
        go_roundw
        case rel => exact ⟨k + 1, by go_num, by omega, HN.out, by (repeat' (first | with_reducible exact Below.refl _ _ | with_reducible refine Below.drew ?_ | with_reducible refine below_drewN ?_ _ | with_reducible refine Below.alloc ?_ ?_ _ | with_reducible refine Below.setCell ?_ ?_ _ | with_reducible refine Below.trans ?_ (Below.mono (by with_reducible assumption) ?_) | (simp; done) | (simp; omega) | omega))⟩
        case measure => first | (simp [intOf]; done) | (simp [intOf]; omega)

      have j2 : decide ((0 : Int) < (k : Int)) = true := by simp; omega
      have j2' : (0 : Int) < (k : Int) := by omega
      have i3 : IntKind.i64.wrap ((k : Int) - 1) = (k : Int) - 1 := IntWalk.i64_in _ (by omega)
      have i4 : ((k : Int) - 1).toNat = k - 1 := by omega
      have i5 : 0 ≤ (k : Int) - 1 := by omega
      have i5' : (1 : Int) ≤ (k : Int) := by omega
      have i6 : (k : Int) - 1 < (n : Int) := by omega
      have g5 := blkS_cell (blkS_below hb (Nat.le_refl _) HL.out) (k - 1) 6 (by omega) (by omega)
      have zk := intS_cell (intS_below hb (Nat.le_refl _) HZ.out) k hlt
      by_cases t2 : g (k - 1) 6 < c k
      case pos =>
        have e2 : decide (g (k - 1) 6 < c k) = true := by simpa using t2
        have HF : Hid (choB g z en n c = false) := Lib.hid (cho_bad g z en n c k hkn (Or.inl (by unfold tstA; rw [T0.out, decide_eq_true hlt, T1.out, decide_eq_true hk0, decide_eq_false (show ¬ c k ≤ g (k - 1) 6 by omega)]; rfl)))
        clear t2
        go_quiet (fail)
        all_goals (try go_wp2_with fail)
        all_goals go_ret
        all_goals refine ⟨ret_bool HF.out.symm, ?_⟩
        all_goals (repeat' (first | with_reducible exact Below.refl _ _ | with_reducible refine Below.drew ?_ | with_reducible refine below_drewN ?_ _ | with_reducible refine Below.alloc ?_ ?_ _ | with_reducible refine Below.setCell ?_ ?_ _ | with_reducible refine Below.trans ?_ (Below.mono (by with_reducible assumption) ?_) | (simp; done) | (simp; omega) | omega))
      have e2 : decide (g (k - 1) 6 < c k) = false := by simp; omega
      by_cases t3 : z k < c k
      case pos =>
        have e3 : decide (z k < c k) = true := by simpa using t3
        have HF : Hid (choB g z en n c = false) := Lib.hid (cho_bad g z en n c k hkn (Or.inl (by unfold tstA; rw [T0.out, decide_eq_true hlt, T1.out, decide_eq_true hk0, decide_eq_true (show c k ≤ g (k - 1) 6 by omega), decide_eq_false (show ¬ c k ≤ z k by omega)]; rfl)))
        clear t2 t3
        go_quiet (fail)
        all_goals (try go_wp2_with fail)
        all_goals go_ret
        all_goals refine ⟨ret_bool HF.out.symm, ?_⟩
        all_goals (repeat' (first | with_reducible exact Below.refl _ _ | with_reducible refine Below.drew ?_ | with_reducible refine below_drewN ?_ _ | with_reducible refine Below.alloc ?_ ?_ _ | with_reducible refine Below.setCell ?_ ?_ _ | with_reducible refine Below.trans ?_ (Below.mono (by with_reducible assumption) ?_) | (simp; done) | (simp; omega) | omega))
      have e3 : decide (z k < c k) = false := by simp; omega
      have HA : Hid (tstA g z c n k = true) := Lib.hid (HAk.out (fun h => ⟨by omega, by omega⟩))
      clear t2 t3
      go_quiet (fail)
      go_upto_region 9 with (fail)
      by_cases t4 : szV (RowKit.wrap64 (c (k + 1) - c k)) ≤ rch g k
      case neg =>
        have e4 : decide (rch g k < szV (RowKit.wrap64 (c (k + 1) - c k))) = true := by simp; omega
        have HF : Hid (choB g z en n c = false) := Lib.hid (cho_bad g z en n c k hkn (Or.inr (by rw [HB.out, decide_eq_false t4])))
        clear t4
        go_region_held3 (fun w' => w'.rangeAt b (off + k * 8) (blkA g k).toList ∧ w'.cell? ⟨bs, os + (k + 1), none⟩ = some (.int .i64 (c (k + 1))) ∧ w'.cell? ⟨bs, os + k, none⟩ = some (.int .i64 (c k))) (first | (focus (((with_reducible apply keep9 HL.out HC.out hlt) <;> ((repeat' (first | with_reducible exact Below.refl _ _ | with_reducible refine Below.drew ?_ | with_reducible refine below_drewN ?_ _ | with_reducible refine Below.alloc ?_ ?_ _ | with_reducible refine Below.setCell ?_ ?_ _ | with_reducible refine Below.trans ?_ (Below.mono (by with_reducible assumption) ?_) | (simp; done) | (simp; omega) | omega)))); done)) | go_keep)
          (first | (go_at_call 61; (with_reducible refine (KZ.out _).mono ?_); rintro e w1 ⟨rfl, rfl⟩) | (go_at_call 24; (with_reducible refine (KR.out _).mono ?_); rintro e w1 ⟨rfl, hb1⟩; have z1 := hb1.size; (try simp at z1)))
        all_goals (try go_wp2_with fail)
        all_goals go_ret
        all_goals refine ⟨ret_bool HF.out.symm, ?_⟩
        all_goals (repeat' (first | with_reducible exact Below.refl _ _ | with_reducible refine Below.drew ?_ | with_reducible refine below_drewN ?_ _ | with_reducible refine Below.alloc ?_ ?_ _ | with_reducible refine Below.setCell ?_ ?_ _ | with_reducible refine Below.trans ?_ (Below.mono (by with_reducible assumption) ?_) | (simp; done) | (simp; omega) | omega))
      have e4 : decide (rch g k < szV (RowKit.wrap64 (c (k + 1) - c k))) = false := by simp; omega
      have HN : Hid (allTo (fun k => tstA g z c n k && tstB g c n k) (k + 1) = true) := Lib.hid (by
        show (_ && (tstA g z c n k && tstB g c n k)) = true
        rw [HALL.out, HA.out, HB.out, decide_eq_true t4]; rfl)
      clear t4
      go_region_held3 (fun w' => w'.rangeAt b (off + k * 8) (blkA g k).toList ∧ w'.cell? ⟨bs, os + (k + 1), none⟩ = some (.int .i64 (c (k + 1))) ∧ w'.cell? ⟨bs, os + k, none⟩ = some (.int .i64 (c k))) (first | (focus (((with_reducible apply keep9 HL.out HC.out hlt) <;> ((repeat' (first | with_reducible exact Below.refl _ _ | with_reducible refine Below.drew ?_ | with_reducible refine below_drewN ?_ _ | with_reducible refine Below.alloc ?_ ?_ _ | with_reducible refine Below.setCell ?_ ?_ _ | with_reducible refine Below.trans ?_ (Below.mono (by with_reducible assumption) ?_) | (simp; done) | (simp; omega) | omega)))); done)) | go_keep)
        (first | (go_at_call 61; (with_reducible refine (KZ.out _).mono ?_); rintro e w1 ⟨rfl, rfl⟩) | (go_at_call 24; (with_reducible refine (KR.out _).mono ?_); rintro e w1 ⟨rfl, hb1⟩; have z1 := hb1.size; (try simp at z1)))
      rename_i hh; clear hh
      go_wp2_with fail
      go_roundw
      case rel => exact ⟨k + 1, by go_num, by omega, HN.out, by (repeat' (first | with_reducible exact Below.refl _ _ | with_reducible refine Below.drew ?_ | with_reducible refine below_drewN ?_ _ | with_reducible refine Below.alloc ?_ ?_ _ | with_reducible refine Below.setCell ?_ ?_ _ | with_reducible refine Below.trans ?_ (Below.mono (by with_reducible assumption) ?_) | (simp; done) | (simp; omega) | omega))⟩
      case measure => first | (simp [intOf]; done) | (simp [intOf]; omega)
    case neg =>
      obtain rfl : n = k := by omega
      have j1 : decide ((n : Int) < (n : Int)) = false := by simp
      have hk0 : 0 < n := h0
      have j2 : decide ((0 : Int) < (n : Int)) = true := by simp; omega
      have j2' : (0 : Int) < (n : Int) := by omega
      have i3 : IntKind.i64.wrap ((n : Int) - 1) = (n : Int) - 1 := IntWalk.i64_in _ (by omega)
      have i4 : ((n : Int) - 1).toNat = n - 1 := by omega
      have i5 : 0 ≤ (n : Int) - 1 := by omega
      have i5' : (1 : Int) ≤ (n : Int) := by omega
      have i6 : (n : Int) - 1 < (n : Int) := by omega
      have g6 := blkS_cell (blkS_below hb (Nat.le_refl _) HL.out) (n - 1) 6 (by omega) (by omega)
      by_cases t2 : g (n - 1) 6 < c n
      case pos =>
        have e2 : decide (g (n - 1) 6 < c n) = true := by simpa using t2
        have HF : Hid (choB g z en n c = false) := Lib.hid (cho_bad g z en n c n hkn (Or.inl (by unfold tstA; rw [T0.out, decide_eq_false hlt, decide_eq_true hk0, decide_eq_false (show ¬ c n ≤ g (n - 1) 6 by omega)]; rfl)))
        clear t2
        go_quiet (fail)
        all_goals (try go_wp2_with fail)
        all_goals go_ret
        all_goals refine ⟨ret_bool HF.out.symm, ?_⟩
        all_goals (repeat' (first | with_reducible exact Below.refl _ _ | with_reducible refine Below.drew ?_ | with_reducible refine below_drewN ?_ _ | with_reducible refine Below.alloc ?_ ?_ _ | with_reducible refine Below.setCell ?_ ?_ _ | with_reducible refine Below.trans ?_ (Below.mono (by with_reducible assumption) ?_) | (simp; done) | (simp; omega) | omega))
      have e2 : decide (g (n - 1) 6 < c n) = false := by simp; omega
      have HA : Hid (allTo (fun k => tstA g z c n k && tstB g c n k) (n + 1) = true) := Lib.hid (by
        show (_ && (tstA g z c n n && tstB g c n n)) = true
        rw [HALL.out]
        unfold tstA tstB
        rw [T0.out, decide_eq_false hlt, decide_eq_true hk0, decide_eq_true (show c n ≤ g (n - 1) 6 by omega)]; rfl)
      clear t2
      go_quiet (fail)
      go_upto_region 9 with (fail)
      go_quiet (fail)
      go_wp2_with fail
      go_roundw
      case rel => exact ⟨n + 1, by go_num, by omega, HA.out, by (repeat' (first | with_reducible exact Below.refl _ _ | with_reducible refine Below.drew ?_ | with_reducible refine below_drewN ?_ _ | with_reducible refine Below.alloc ?_ ?_ _ | with_reducible refine Below.setCell ?_ ?_ _ | with_reducible refine Below.trans ?_ (Below.mono (by with_reducible assumption) ?_) | (simp; done) | (simp; omega) | omega))⟩
      case measure => first | (simp [intOf]; done) | (simp [intOf]; omega)
end Go.Proofs.Ytleohgnnbpicjaa
