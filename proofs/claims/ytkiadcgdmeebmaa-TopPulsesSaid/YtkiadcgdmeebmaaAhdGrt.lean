/- What greatest of ahead returns -/
import Derived.Deep.DeepCutAuto
import Derived.BigQuiet
import Derived.Deep.QuietTactic
import Derived.IntWalk
import Derived.Deep.RegionHeld3
import Derived.Deep.RegionWith
import Derived.RegionTactic
import Derived.BigRegion
import Derived.Test.YtkiadcgdmeebmaaKit8
namespace Go.Proofs.Ytkiadcgdmeebmaa
open Go.RowKit
set_option linter.unusedVariables false

attribute [local go_sem] cell_past1 cell_past2 cell_past3 cell_past4 froz_past1 froz_past2 froz_past3
attribute [local go_sem ↓] loadB_in

theorem cell_drew {w : World} {a : Addr} {x : Value} (h : w.cell? a = some x) : w.drew.cell? a = some x := h
theorem blkS_cell {w : World} {b off n : Nat} {g : Nat → Nat → Int} (h : BlkS w (some ⟨b, off, none⟩) n g) (k o : Nat) (hk : k < n) (ho : o < 8) : w.cell? ⟨b, off + k * 8 + o, none⟩ = some (.int .i64 (g k o)) := by
  obtain ⟨b2, off2, e, _, hc⟩ := h (by omega)
  cases e
  exact hc k hk o ho
theorem intS_cell {w : World} {b off n : Nat} {z : Nat → Int} (h : IntS w (some ⟨b, off, none⟩) n z) (k : Nat) (hk : k < n) : w.cell? ⟨b, off + k, none⟩ = some (.int .i64 (z k)) := by
  obtain ⟨b2, off2, e, _, hc⟩ := h (by omega)
  cases e
  exact hc k hk
theorem blkS_rng {w : World} {b off n : Nat} {g : Nat → Nat → Int} (h : BlkS w (some ⟨b, off, none⟩) n g) (k : Nat) (hk : k < n) : w.rangeAt b (off + k * 8) (blkA g k).toList := by
  obtain ⟨b2, off2, e, _, hc⟩ := h (by omega)
  cases e
  exact blk_range hc k hk
/- what the loops' rounds read, in any world that leaves the old memory alone -/
theorem keep7 {w wx : World} {b off b' off' n : Nat} {g : Nat → Nat → Int} {z : Nat → Int} {SB : Nat} {F : Int} {k : Nat} (hl : BlkS w (some ⟨b, off, none⟩) n g) (hz : IntS w (some ⟨b', off', none⟩) n z) (hk1 : 0 < k) (hk : k < n) (hb : Below w.heap.size w wx) (hc : wx.cell? ⟨SB, k - 1, none⟩ = some (.int .i64 F)) :
    wx.rangeAt b (off + (k - 1) * 8) (blkA g (k - 1)).toList ∧ wx.cell? ⟨b', off' + k, none⟩ = some (.int .i64 (z k)) ∧ wx.cell? ⟨b, off + (k - 1) * 8 + 6, none⟩ = some (.int .i64 (g (k - 1) 6)) ∧ wx.cell? ⟨b, off + k * 8 + 6, none⟩ = some (.int .i64 (g k 6)) ∧ wx.cell? ⟨SB, k - 1, none⟩ = some (.int .i64 F) :=
  have hl' := blkS_below hb (Nat.le_refl _) hl
  have hz' := intS_below hb (Nat.le_refl _) hz
  ⟨blkS_rng hl' _ (by omega), intS_cell hz' k hk, blkS_cell hl' _ _ (by omega) (by omega), blkS_cell hl' _ _ hk (by omega), hc⟩
theorem keep8 {w wx : World} {b off n : Nat} {g : Nat → Nat → Int} {SB : Nat} {F : Int} (hl : BlkS w (some ⟨b, off, none⟩) n g) (hn : 0 < n) (hb : Below w.heap.size w wx) (hc : wx.cell? ⟨SB, n - 1, none⟩ = some (.int .i64 F)) :
    wx.rangeAt b (off + (n - 1) * 8) (blkA g (n - 1)).toList ∧ wx.cell? ⟨SB, n - 1, none⟩ = some (.int .i64 F) :=
  have hl' := blkS_below hb (Nat.le_refl _) hl
  ⟨blkS_rng hl' _ (by omega), hc⟩
theorem keep12 {w wx : World} {b off n : Nat} {g : Nat → Nat → Int} {SB i : Nat} {F : Int} (hl : BlkS w (some ⟨b, off, none⟩) n g) (hi : i < n) (hb : Below w.heap.size w wx) (hc : wx.cell? ⟨SB, i + 1, none⟩ = some (.int .i64 F)) :
    wx.rangeAt b (off + i * 8) (blkA g i).toList ∧ wx.cell? ⟨SB, i + 1, none⟩ = some (.int .i64 F) :=
  have hl' := blkS_below hb (Nat.le_refl _) hl
  ⟨blkS_rng hl' _ hi, hc⟩

def cur1 (g : Nat → Nat → Int) (z : Nat → Int) (en : Int) (n k : Nat) : Nat → Int := fun j => if j < k then fwd g z en n j else 0
def cur2 (g : Nat → Nat → Int) (z : Nat → Int) (en : Int) (n k : Nat) : Nat → Int := fun j => if j < k then fwd g z en n j else grt g z en n j
theorem cur1_upd (g : Nat → Nat → Int) (z : Nat → Int) (en : Int) (n k : Nat) (V : Int) (h : V = fwd g z en n k) (N : Nat) : arrF N (upd (cur1 g z en n k) k V) = arrF N (cur1 g z en n (k + 1)) :=
  arrF_congr (fun j _ => by
    unfold upd cur1
    by_cases e : j = k
    · subst e; rw [if_pos rfl, if_pos (by omega), h]
    · rw [if_neg e]
      by_cases h1 : j < k
      · rw [if_pos h1, if_pos (by omega)]
      · rw [if_neg h1, if_neg (by omega)])
theorem cur2_upd (g : Nat → Nat → Int) (z : Nat → Int) (en : Int) (n k : Nat) (V : Int) (h : V = grt g z en n k) (N : Nat) : arrF N (upd (cur2 g z en n (k + 1)) k V) = arrF N (cur2 g z en n k) :=
  arrF_congr (fun j _ => by
    unfold upd cur2
    by_cases e : j = k
    · subst e; rw [if_pos rfl, if_neg (by omega), h]
    · rw [if_neg e]
      by_cases h1 : j < k
      · rw [if_pos h1, if_pos (by omega)]
      · rw [if_neg h1, if_neg (by omega)])
theorem cur12 (g : Nat → Nat → Int) (z : Nat → Int) (en : Int) (n : Nat) : arrF (n + 1) (cur1 g z en n (n + 1)) = arrF (n + 1) (cur2 g z en n n) :=
  arrF_congr (fun j hj => by
    unfold cur1 cur2
    rw [if_pos hj]
    by_cases h : j < n
    · rw [if_pos h]
    · rw [if_neg h, show j = n by omega, grt_end])
theorem cur2_end (g : Nat → Nat → Int) (z : Nat → Int) (en : Int) (n N : Nat) : arrF N (cur2 g z en n 0) = arrF N (grt g z en n) := arrF_congr (fun j _ => by unfold cur2; rw [if_neg (by omega)])

def G1Rel (g : Nat → Nat → Int) (z : Nat → Int) (en : Int) (n : Nat) (w : World) (SB : Nat) (s9 : Value) (wx : World) : Prop :=
  ∃ k : Nat, s9 = .int .i64 k ∧ 1 ≤ k ∧ k ≤ n ∧ Live wx SB (arrF (n + 1) (cur1 g z en n k)) ∧ Below w.heap.size w wx
def G2Rel (g : Nat → Nat → Int) (z : Nat → Int) (en : Int) (n : Nat) (w : World) (SB : Nat) (s10 : Value) (wx : World) : Prop :=
  ∃ k : Nat, s10 = .int .i64 ((k : Int) - 1) ∧ k ≤ n ∧ Live wx SB (arrF (n + 1) (cur2 g z en n k)) ∧ Below w.heap.size w wx
def GrtPost (g : Nat → Nat → Int) (z : Nat → Int) (en : Int) (n : Nat) (w : World) (e : Ending) (w' : World) : Prop :=
  ∃ SB : Nat, e = .returned (.slice (some ⟨SB, 0, none⟩) (n + 1) (n + 1)) ∧ w.heap.size ≤ SB ∧ Live w' SB (arrF (n + 1) (grt g z en n)) ∧ Below w.heap.size w w'

set_option maxRecDepth 100000 in
set_option maxHeartbeats 8000000 in
theorem ahead_greatest (g : Nat → Nat → Int) (z : Nat → Int) (en : Int) (sl sc : Option Addr) (n cl cc : Nat) (w : World) (hs : ∀ k, k < n → bsnd g k = true) (hzi : ∀ k, I64 (z k)) (h0 : 0 < n) (hn : n ≤ 1000000) (he : 0 ≤ en) (he1 : en ≤ 1099511627776) (hl : BlkS w sl n g) (hz : IntS w sc n z) :
    Calls Try.prog 38 #[.slice sl n cl, .slice sc n cc, .int .i64 en] w (GrtPost g z en n w) := by
  obtain ⟨b, off, rfl, hbl, _⟩ := hl h0
  obtain ⟨b', off', rfl, hbl', _⟩ := hz h0
  have HL := Lib.hid hl
  have HZ := Lib.hid hz
  have HS := Lib.hid hs
  have HFI := Lib.hid (fwd_in g z en n hzi hs he he1)
  have HGI := Lib.hid (grt_in g z en n hzi hs he he1)
  clear hl hz hzi hs he he1
  have hm2 := @run_min2 Try.prog
  have hm4 := @run_min4 Try.prog
  have hmk := run_make_ints (n + 1) (by omega)
  have e1 : ((n + 1 : Nat) : Int) = (n : Int) + 1 := by omega
  rw [e1] at hmk
  clear e1
  have i0 : IntKind.i64.wrap ((n : Int) + 1) = (n : Int) + 1 := IntWalk.i64_in _ (by omega)
  go_enter Try.func38, Try.ntmps38
  go_upto_region 3 with (fail)
  refine gen_world (fun wx => wx.heap.size = w.heap.size + 1 ∧ Live wx w.heap.size (arrF (n + 1) (fun _ => 0)) ∧ Below w.heap.size w wx) ?_ ?_
  · exact ⟨by simp, live_new _ _ rfl, by (repeat' (first | with_reducible exact Below.refl _ _ | with_reducible refine Below.drew ?_ | with_reducible refine below_drewN ?_ _ | with_reducible refine Below.alloc ?_ ?_ _ | with_reducible refine Below.setCell ?_ ?_ _ | with_reducible refine Below.trans ?_ (Below.mono (by with_reducible assumption) ?_) | (simp; done) | (simp; omega) | omega))⟩
  rintro wx ⟨_, L, hb⟩
  have c0 := live_arr_at L 0 (by omega)
  have f0 := L.2.2 0
  have p0 := L.1
  go_upto_region 5 with (fail)
  refine gen_world (fun wx => Live wx w.heap.size (arrF (n + 1) (cur1 g z en n 1)) ∧ Below w.heap.size w wx) ?_ ?_
  · refine ⟨live_conv (live_arr_set L 0 en (by omega)) ?_, hb.setCell (Nat.le_refl _) _⟩
    exact arrF_congr (fun j _ => by
      unfold upd cur1
      by_cases e : j = 0
      · subst e; rfl
      · rw [if_neg e, if_neg (by omega)])
  clear L hb c0 f0 p0 hmk
  rintro wx ⟨L, hb⟩
  go_wp2_with fail
  go_loopw [9] (G1Rel g z en n w w.heap.size) (fun i _ => n - (intOf i).toNat)
  case atStart => exact ⟨1, rfl, by omega, by omega, L, hb⟩
  case round =>
    obtain ⟨k, rfl, hk1, hk, L, hb⟩ := hrel
    by_cases hlt : k < n
    · have hk0 : 0 < k := by omega
      have p0 := L.1
      have f0 := L.2.2 k
      have i1 : IntKind.i64.wrap ((k : Int) - 1) = (k : Int) - 1 := IntWalk.i64_in _ (by omega)
      have i2 : ((k : Int) - 1).toNat = k - 1 := by omega
      have i3 : 0 ≤ (k : Int) - 1 := by omega
      have i3' : (1 : Int) ≤ (k : Int) := by omega
      have i4 : (k : Int) - 1 < (n : Int) := by omega
      have i4' : (k : Int) ≤ (n : Int) := by omega
      have i4a : (k : Int) < (n : Int) + 1 := by omega
      have i4b : (k : Int) - 1 < (n : Int) + 1 := by omega
      have i5 : (k : Int) < (n : Int) := by omega
      have i6 : (k : Int) - 1 < (n : Int) + 1 := by omega
      have i7 : (k : Int) < (n : Int) + 1 := by omega
      have c0 := live_arr_at L (k - 1) (by omega)
      have ck := live_arr_at L k (by omega)
      have hfi := HFI.out (k - 1) (by omega)
      have hri := (bsnd_in g (k - 1) (HS.out _ (by omega))).2.2.2
      have KR := Lib.hid (fun w => ahead_reach g (k - 1) w (HS.out _ (by omega)))
      have hF : cur1 g z en n k (k - 1) = fwd g z en n (k - 1) := by unfold cur1; rw [if_pos (by omega)]
      have hV : fwd g z en n k = min (min (min (z k) (g (k - 1) 6)) (g k 6)) (fwd g z en n (k - 1) + rch g (k - 1)) := by
        obtain ⟨j, rfl⟩ : ∃ j, k = j + 1 := ⟨k - 1, by omega⟩
        rw [fwd, if_pos hlt]; rfl
      have HV := Lib.hid hV
      have HF := Lib.hid hF
      have x1 : RowKit.wrap64 (cur1 g z en n k (k - 1) + rch g (k - 1)) = cur1 g z en n k (k - 1) + rch g (k - 1) := by rw [hF]; unfold RowKit.wrap64; omega
      have v1 : IntKind.i64.wrap (cur1 g z en n k (k - 1) + rch g (k - 1)) = cur1 g z en n k (k - 1) + rch g (k - 1) := by rw [hF]; exact IntWalk.i64_in _ (by omega)
      have hld : ∀ w' : World, w'.rangeAt b (off + (k - 1) * 8) (blkA g (k - 1)).toList → (loadB (.pointer (some ⟨b, off + (k - 1) * 8, none⟩))).run Try.prog w' = .ok (.agg (blkA g (k - 1))) w' := fun w' h => loadB_run h
      clear hfi hri hF hV
      generalize cur1 g z en n k (k - 1) = F at *
      generalize rch g (k - 1) = R at *
      go_upto_region 7 with (fail)
      go_region_held3 (fun w' => w'.rangeAt b (off + (k - 1) * 8) (blkA g (k - 1)).toList ∧ w'.cell? ⟨b', off' + k, none⟩ = some (.int .i64 (z k)) ∧ w'.cell? ⟨b, off + (k - 1) * 8 + 6, none⟩ = some (.int .i64 (g (k - 1) 6)) ∧ w'.cell? ⟨b, off + k * 8 + 6, none⟩ = some (.int .i64 (g k 6)) ∧ w'.cell? ⟨w.heap.size, k - 1, none⟩ = some (.int .i64 F)) ((first | (focus (((with_reducible apply keep7 HL.out HZ.out hk0 hlt) <;> (first | (first | with_reducible assumption | ((with_reducible apply cell_drew); with_reducible assumption) | ((with_reducible apply cell_set_off) <;> (first | with_reducible assumption | omega))) | (repeat' (first | with_reducible exact Below.refl _ _ | with_reducible refine Below.drew ?_ | with_reducible refine below_drewN ?_ _ | with_reducible refine Below.alloc ?_ ?_ _ | with_reducible refine Below.setCell ?_ ?_ _ | with_reducible refine Below.trans ?_ (Below.mono (by with_reducible assumption) ?_) | (simp; done) | (simp; omega) | omega)))); done)) | go_keep))
        ((go_at_call 49; (with_reducible refine (KR.out _).mono ?_); rintro e w1 ⟨rfl, hb1⟩; have z1 := hb1.size; (try simp at z1); have L1a := live_below hb1 (b := w.heap.size) (by (repeat (first | with_reducible assumption | ((with_reducible apply live_new) <;> (first | with_reducible rfl | (focus (simp; done)))) | with_reducible apply live_alloc | with_reducible apply live_drew | with_reducible apply live_drewN | ((with_reducible apply live_set_other); (case hb => first | omega | (simp; done))) | with_reducible apply live_set_same | (focus (simp; done))))); obtain ⟨p1a, e1a, f1a⟩ := id L1a; clear e1a; have c1 := (hb1.cell (p := ⟨w.heap.size, (k - 1), none⟩) p0).trans c0; have d1 := (hb1.cell (p := ⟨w.heap.size, k, none⟩) p0).trans ck))
      rename_i hh; clear hh
      go_wp2_with fail
      go_roundw
      case rel => exact ⟨k + 1, by go_num, by omega, by omega, live_conv (live_arr_set L1a k _ (by omega)) (cur1_upd g z en n k _ (by rw [HV.out, HF.out]; omega) _), by (repeat' (first | with_reducible exact Below.refl _ _ | with_reducible refine Below.drew ?_ | with_reducible refine below_drewN ?_ _ | with_reducible refine Below.alloc ?_ ?_ _ | with_reducible refine Below.setCell ?_ ?_ _ | with_reducible refine Below.trans ?_ (Below.mono (by with_reducible assumption) ?_) | (simp; done) | (simp; omega) | omega))⟩
      case measure => first | (simp [intOf]; done) | (simp [intOf]; omega)
    · obtain rfl : n = k := by omega
      have p0 := L.1
      have f0 := L.2.2 n
      have i1 : IntKind.i64.wrap ((n : Int) - 1) = (n : Int) - 1 := IntWalk.i64_in _ (by omega)
      have i1' : RowKit.wrap64 ((n : Int) - 1) = (n : Int) - 1 := by unfold RowKit.wrap64; omega
      have i2 : ((n : Int) - 1).toNat = n - 1 := by omega
      have i3 : 0 ≤ (n : Int) - 1 := by omega
      have i3' : (1 : Int) ≤ (n : Int) := by omega
      have i4 : (n : Int) - 1 < (n : Int) := by omega
      have i4b : (n : Int) - 1 < (n : Int) + 1 := by omega
      have i5 : (n : Int) < (n : Int) + 1 := by omega
      have c0 := live_arr_at L (n - 1) (by omega)
      have ck := live_arr_at L n (by omega)
      have hfi := HFI.out (n - 1) (by omega)
      have hri := (bsnd_in g (n - 1) (HS.out _ (by omega))).2.2.2
      have KR := Lib.hid (fun w => ahead_reach g (n - 1) w (HS.out _ (by omega)))
      have hF : cur1 g z en n n (n - 1) = fwd g z en n (n - 1) := by unfold cur1; rw [if_pos (by omega)]
      have hV : fwd g z en n n = min 0 (fwd g z en n (n - 1) + rch g (n - 1)) := by
        obtain ⟨j, rfl⟩ : ∃ j, n = j + 1 := ⟨n - 1, by omega⟩
        rw [fwd, if_neg (by omega)]; rfl
      have HV := Lib.hid hV
      have HF := Lib.hid hF
      have x1 : RowKit.wrap64 (cur1 g z en n n (n - 1) + rch g (n - 1)) = cur1 g z en n n (n - 1) + rch g (n - 1) := by rw [hF]; unfold RowKit.wrap64; omega
      have v1 : IntKind.i64.wrap (cur1 g z en n n (n - 1) + rch g (n - 1)) = cur1 g z en n n (n - 1) + rch g (n - 1) := by rw [hF]; exact IntWalk.i64_in _ (by omega)
      have hld : ∀ w' : World, w'.rangeAt b (off + (n - 1) * 8) (blkA g (n - 1)).toList → (loadB (.pointer (some ⟨b, off + (n - 1) * 8, none⟩))).run Try.prog w' = .ok (.agg (blkA g (n - 1))) w' := fun w' h => loadB_run h
      clear hfi hri hF hV
      generalize cur1 g z en n n (n - 1) = F at *
      generalize rch g (n - 1) = R at *
      go_upto_region 8 with (fail)
      go_region_held3 (fun w' => w'.rangeAt b (off + (n - 1) * 8) (blkA g (n - 1)).toList ∧ w'.cell? ⟨w.heap.size, n - 1, none⟩ = some (.int .i64 F)) ((first | (focus (((with_reducible apply keep8 HL.out h0) <;> (first | (first | with_reducible assumption | ((with_reducible apply cell_drew); with_reducible assumption) | ((with_reducible apply cell_set_off) <;> (first | with_reducible assumption | omega))) | (repeat' (first | with_reducible exact Below.refl _ _ | with_reducible refine Below.drew ?_ | with_reducible refine below_drewN ?_ _ | with_reducible refine Below.alloc ?_ ?_ _ | with_reducible refine Below.setCell ?_ ?_ _ | with_reducible refine Below.trans ?_ (Below.mono (by with_reducible assumption) ?_) | (simp; done) | (simp; omega) | omega)))); done)) | go_keep))
        ((go_at_call 49; (with_reducible refine (KR.out _).mono ?_); rintro e w1 ⟨rfl, hb1⟩; have z1 := hb1.size; (try simp at z1); have L1a := live_below hb1 (b := w.heap.size) (by (repeat (first | with_reducible assumption | ((with_reducible apply live_new) <;> (first | with_reducible rfl | (focus (simp; done)))) | with_reducible apply live_alloc | with_reducible apply live_drew | with_reducible apply live_drewN | ((with_reducible apply live_set_other); (case hb => first | omega | (simp; done))) | with_reducible apply live_set_same | (focus (simp; done))))); obtain ⟨p1a, e1a, f1a⟩ := id L1a; clear e1a; have c1 := (hb1.cell (p := ⟨w.heap.size, (n - 1), none⟩) p0).trans c0; have d1 := (hb1.cell (p := ⟨w.heap.size, n, none⟩) p0).trans ck))
      rename_i hh; clear hh
      refine gen_world (fun wx => Live wx w.heap.size (arrF (n + 1) (cur2 g z en n n)) ∧ Below w.heap.size w wx) ?_ ?_
      · exact ⟨live_conv (live_conv (live_arr_set L1a n _ (by omega)) (cur1_upd g z en n n _ (by rw [HV.out, HF.out]) _)) (cur12 g z en n), by (repeat' (first | with_reducible exact Below.refl _ _ | with_reducible refine Below.drew ?_ | with_reducible refine below_drewN ?_ _ | with_reducible refine Below.alloc ?_ ?_ _ | with_reducible refine Below.setCell ?_ ?_ _ | with_reducible refine Below.trans ?_ (Below.mono (by with_reducible assumption) ?_) | (simp; done) | (simp; omega) | omega))⟩
      clear L hb c0 ck p0 f0 KR HV HF x1 v1 hld
      rintro wx ⟨L, hb⟩
      go_wp2_with fail
      go_loopw [10] (G2Rel g z en n w w.heap.size) (fun i _ => (intOf i + 1).toNat)
      case atStart => exact ⟨n, rfl, by omega, L, hb⟩
      case round =>
        obtain ⟨k, rfl, hk, L, hb⟩ := hrel
        by_cases hk0 : k = 0
        · subst hk0
          go_wp2_with fail
          go_ret
          exact ⟨_, rfl, Nat.le_refl _, live_conv L (cur2_end g z en n _), hb⟩
        · obtain ⟨i, rfl⟩ : ∃ i, k = i + 1 := ⟨k - 1, by omega⟩
          have hii : ((i + 1 : Nat) : Int) - 1 = (i : Int) := by omega
          rw [hii]
          clear hii hk0
          have hi : i < n := by omega
          have p0 := L.1
          have f0 := L.2.2 i
          have j1 : IntKind.i64.wrap ((i : Int) + 1) = (i : Int) + 1 := IntWalk.i64_in _ (by omega)
          have j2 : ((i : Int) + 1).toNat = i + 1 := by omega
          have j3 : (i : Int) < (n : Int) := by omega
          have j4 : (i : Int) < (n : Int) + 1 := by omega
          have j5 : (i : Int) + 1 < (n : Int) + 1 := by omega
          have j6 : (0 : Int) ≤ (i : Int) + 1 := by omega
          have j7 : RowKit.wrap64 ((i : Int) - 1) = (i : Int) - 1 := by unfold RowKit.wrap64; omega
          have j8 : decide ((0 : Int) ≤ (i : Int)) = true := by simp
          have c0 := live_arr_at L (i + 1) (by omega)
          have ck := live_arr_at L i (by omega)
          have hgi := HGI.out (i + 1)
          have hri := (bsnd_in g i (HS.out _ hi)).2.2.2
          have KR := Lib.hid (fun w => ahead_reach g i w (HS.out _ hi))
          have hF : cur2 g z en n (i + 1) (i + 1) = grt g z en n (i + 1) := by unfold cur2; rw [if_neg (by omega)]
          have hG : cur2 g z en n (i + 1) i = fwd g z en n i := by unfold cur2; rw [if_pos (by omega)]
          have hV := grt_step g z en n i hi
          have HV := Lib.hid hV
          have HF := Lib.hid hF
          have HG := Lib.hid hG
          have x1 : RowKit.wrap64 (cur2 g z en n (i + 1) (i + 1) + rch g i) = cur2 g z en n (i + 1) (i + 1) + rch g i := by rw [hF]; unfold RowKit.wrap64; omega
          have v1 : IntKind.i64.wrap (cur2 g z en n (i + 1) (i + 1) + rch g i) = cur2 g z en n (i + 1) (i + 1) + rch g i := by rw [hF]; exact IntWalk.i64_in _ (by omega)
          have hld : ∀ w' : World, w'.rangeAt b (off + i * 8) (blkA g i).toList → (loadB (.pointer (some ⟨b, off + i * 8, none⟩))).run Try.prog w' = .ok (.agg (blkA g i)) w' := fun w' h => loadB_run h
          clear hgi hri hF hV hG
          generalize cur2 g z en n (i + 1) (i + 1) = F at *
          generalize cur2 g z en n (i + 1) i = G at *
          generalize rch g i = R at *
          go_upto_region 12 with (fail)
          refine wp_region_noPanic ?_
          refine wp_region_held_drew (S := (fun w' => w'.rangeAt b (off + i * 8) (blkA g i).toList ∧ w'.cell? ⟨w.heap.size, i + 1, none⟩ = some (.int .i64 F))) (by kernel_rfl) ?_ (fun hHeld => ?_)
          · (try dsimp only); (first | (focus (((with_reducible apply keep12 HL.out hi) <;> (first | (first | with_reducible assumption | ((with_reducible apply cell_drew); with_reducible assumption) | ((with_reducible apply cell_set_off) <;> (first | with_reducible assumption | omega))) | (repeat' (first | with_reducible exact Below.refl _ _ | with_reducible refine Below.drew ?_ | with_reducible refine below_drewN ?_ _ | with_reducible refine Below.alloc ?_ ?_ _ | with_reducible refine Below.setCell ?_ ?_ _ | with_reducible refine Below.trans ?_ (Below.mono (by with_reducible assumption) ?_) | (simp; done) | (simp; omega) | omega)))); done)) | go_keep)
          refine wpAnyH_take (i := 0) (oi := ?z1oi) (v := ?z1v) ?z1hi (by kernel_rfl) (by kernel_rfl) (by kernel_rfl) (fun _ _ _ h => h) (Or.inl ⟨?z1hw, ?z1hy⟩) hHeld ?z1rest
          case z1hi => (simp only [List.getElem?_toArray, List.getElem?_cons_zero]; exact rfl)
          case z1hw => rfl
          case z1hy => (intro w hSw; (try dsimp only at hSw); go_simp; (try with_reducible rfl))
          (try simp only [Act.put, List.setIfInBounds_toArray, List.set_cons_zero, List.set_cons_succ])
          refine wpAnyH_take (i := 1) (oi := ?z2oi) (v := ?z2v) ?z2hi (by kernel_rfl) (by kernel_rfl) (by kernel_rfl) (fun _ _ _ h => h) (Or.inl ⟨?z2hw, ?z2hy⟩) hHeld ?z2rest
          case z2hi => (simp only [List.getElem?_toArray, List.getElem?_cons_succ, List.getElem?_cons_zero]; exact rfl)
          case z2hw => rfl
          case z2hy => (intro w hSw; (try dsimp only at hSw); go_simp; (try with_reducible rfl))
          (try simp only [Act.put, List.setIfInBounds_toArray, List.set_cons_zero, List.set_cons_succ])
          refine wpAnyH_take (i := 2) (oi := ?z3oi) (v := ?z3v) ?z3hi (by kernel_rfl) (by kernel_rfl) (by kernel_rfl) (fun _ _ _ h => h) (Or.inl ⟨?z3hw, ?z3hy⟩) hHeld ?z3rest
          case z3hi => (simp only [List.getElem?_toArray, List.getElem?_cons_succ, List.getElem?_cons_zero]; exact rfl)
          case z3hw => rfl
          case z3hy => (intro w hSw; (try dsimp only at hSw); go_simp; (try with_reducible rfl))
          (try simp only [Act.put, List.setIfInBounds_toArray, List.set_cons_zero, List.set_cons_succ])
          refine wpAnyH_take (i := 3) (oi := ?z4oi) (v := ?z4v) ?z4hi (by kernel_rfl) (by kernel_rfl) (by kernel_rfl) (fun _ _ _ h => h) (Or.inl ⟨?z4hw, ?z4hy⟩) hHeld ?z4rest
          case z4hi => (simp only [List.getElem?_toArray, List.getElem?_cons_succ, List.getElem?_cons_zero]; exact rfl)
          case z4hw => rfl
          case z4hy => (intro w hSw; (try dsimp only at hSw); go_simp; (try with_reducible rfl))
          (try simp only [Act.put, List.setIfInBounds_toArray, List.set_cons_zero, List.set_cons_succ])
          refine wpAnyH_take (i := 4) (oi := ?z5oi) (v := ?z5v) ?z5hi (by kernel_rfl) (by kernel_rfl) (by kernel_rfl) (fun _ _ _ h => h) (Or.inl ⟨?z5hw, ?z5hy⟩) hHeld ?z5rest
          case z5hi => (simp only [List.getElem?_toArray, List.getElem?_cons_succ, List.getElem?_cons_zero]; exact rfl)
          case z5hw => rfl
          case z5hy => (intro w hSw; (try dsimp only at hSw); go_simp; (try with_reducible rfl))
          (try simp only [Act.put, List.setIfInBounds_toArray, List.set_cons_zero, List.set_cons_succ])
          refine wpAnyH_take (i := 6) (oi := ?z6oi) (v := ?z6v) ?z6hi (by kernel_rfl) (by kernel_rfl) (by kernel_rfl) (fun _ _ _ h => h) (Or.inl ⟨?z6hw, ?z6hy⟩) hHeld ?z6rest
          case z6hi => (simp only [List.getElem?_toArray, List.getElem?_cons_succ, List.getElem?_cons_zero]; exact rfl)
          case z6hw => rfl
          case z6hy => (intro w hSw; (try dsimp only at hSw); go_simp; (try with_reducible rfl))
          (try simp only [Act.put, List.setIfInBounds_toArray, List.set_cons_zero, List.set_cons_succ])
          refine wpAnyH_take (i := 7) (oi := ?z7oi) (v := ?z7v) ?z7hi (by kernel_rfl) (by kernel_rfl) (by kernel_rfl) (fun _ _ _ h => h) (Or.inl ⟨?z7hw, ?z7hy⟩) hHeld ?z7rest
          case z7hi => (simp only [List.getElem?_toArray, List.getElem?_cons_succ, List.getElem?_cons_zero]; exact rfl)
          case z7hw => rfl
          case z7hy => (intro w hSw; (try dsimp only at hSw); go_simp; (try with_reducible rfl))
          (try simp only [Act.put, List.setIfInBounds_toArray, List.set_cons_zero, List.set_cons_succ])
          refine wpAnyH_take (i := 8) (oi := ?z8oi) (v := ?z8v) ?z8hi (by kernel_rfl) (by kernel_rfl) (by kernel_rfl) (fun _ _ _ h => h) (Or.inl ⟨?z8hw, ?z8hy⟩) hHeld ?z8rest
          case z8hi => (simp only [List.getElem?_toArray, List.getElem?_cons_succ, List.getElem?_cons_zero]; exact rfl)
          case z8hw => rfl
          case z8hy => (intro w hSw; (try dsimp only at hSw); go_simp; (try with_reducible rfl))
          (try simp only [Act.put, List.setIfInBounds_toArray, List.set_cons_zero, List.set_cons_succ])
          refine wpAnyH_take (i := 9) (oi := ?z9oi) (v := ?z9v) ?z9hi (by kernel_rfl) (by kernel_rfl) (by kernel_rfl) (fun _ _ _ h => h) (Or.inl ⟨?z9hw, ?z9hy⟩) hHeld ?z9rest
          case z9hi => (simp only [List.getElem?_toArray, List.getElem?_cons_succ, List.getElem?_cons_zero]; exact rfl)
          case z9hw => rfl
          case z9hy => (intro w hSw; (try dsimp only at hSw); go_simp; (try with_reducible rfl))
          (try simp only [Act.put, List.setIfInBounds_toArray, List.set_cons_zero, List.set_cons_succ])
          refine wpAnyH_take (i := 10) (oi := ?z10oi) (v := ?z10v) ?z10hi (by kernel_rfl) (by kernel_rfl) (by kernel_rfl) (fun _ _ _ h => h) (Or.inl ⟨?z10hw, ?z10hy⟩) hHeld ?z10rest
          case z10hi => (simp only [List.getElem?_toArray, List.getElem?_cons_succ, List.getElem?_cons_zero]; exact rfl)
          case z10hw => rfl
          case z10hy => (intro w hSw; (try dsimp only at hSw); go_simp; (try with_reducible rfl))
          (try simp only [Act.put, List.setIfInBounds_toArray, List.set_cons_zero, List.set_cons_succ])
          refine wpAnyH_take (i := 11) (oi := ?z11oi) (v := ?z11v) ?z11hi (by kernel_rfl) (by kernel_rfl) (by kernel_rfl) (fun _ _ _ h => h) (Or.inl ⟨?z11hw, ?z11hy⟩) hHeld ?z11rest
          case z11hi => (simp only [List.getElem?_toArray, List.getElem?_cons_succ, List.getElem?_cons_zero]; exact rfl)
          case z11hw => rfl
          case z11hy => (intro w hSw; (try dsimp only at hSw); go_simp; (try with_reducible rfl))
          (try simp only [Act.put, List.setIfInBounds_toArray, List.set_cons_zero, List.set_cons_succ])
          refine wpAnyH_take (i := 12) (oi := ?z12oi) (v := ?z12v) ?z12hi (by kernel_rfl) (by kernel_rfl) (by kernel_rfl) (fun _ _ _ h => h) (Or.inl ⟨?z12hw, ?z12hy⟩) hHeld ?z12rest
          case z12hi => (simp only [List.getElem?_toArray, List.getElem?_cons_succ, List.getElem?_cons_zero]; exact rfl)
          case z12hw => rfl
          case z12hy => (intro w hSw; (try dsimp only at hSw); go_simp; (try with_reducible rfl))
          (try simp only [Act.put, List.setIfInBounds_toArray, List.set_cons_zero, List.set_cons_succ])
          refine wpAnyH_take (i := 13) (oi := ?z13oi) (v := ?z13v) ?z13hi (by kernel_rfl) (by kernel_rfl) (by kernel_rfl) (fun _ _ _ h => h) (Or.inl ⟨?z13hw, ?z13hy⟩) hHeld ?z13rest
          case z13hi => (simp only [List.getElem?_toArray, List.getElem?_cons_succ, List.getElem?_cons_zero]; exact rfl)
          case z13hw => rfl
          case z13hy => (intro w hSw; (try dsimp only at hSw); go_simp; (try with_reducible rfl))
          (try simp only [Act.put, List.setIfInBounds_toArray, List.set_cons_zero, List.set_cons_succ])
          refine wpAnyH_take (i := 14) (oi := ?z14oi) (v := ?z14v) ?z14hi (by kernel_rfl) (by kernel_rfl) (by kernel_rfl) (fun _ _ _ h => h) (Or.inl ⟨?z14hw, ?z14hy⟩) hHeld ?z14rest
          case z14hi => (simp only [List.getElem?_toArray, List.getElem?_cons_succ, List.getElem?_cons_zero]; exact rfl)
          case z14hw => rfl
          case z14hy => (intro w hSw; (try dsimp only at hSw); go_simp; (try with_reducible rfl))
          (try simp only [Act.put, List.setIfInBounds_toArray, List.set_cons_zero, List.set_cons_succ])
          refine wpAnyH_ready (rs := [5, 15]) (by kernel_rfl) (by simp) ?_
          refine AllReadyH.cons (o := ?z15oi) ?z15hi (fun K hK => ?_) ?_
          case z15hi => (simp only [List.getElem?_toArray, List.getElem?_cons_succ, List.getElem?_cons_zero]; exact rfl)
          · go_simp
            skip
            refine hK.out _ _ ?_ (fun hHeld => ?_)
            · (try dsimp only); (first | (focus (((with_reducible apply keep12 HL.out hi) <;> (first | (first | with_reducible assumption | ((with_reducible apply cell_drew); with_reducible assumption) | ((with_reducible apply cell_set_off) <;> (first | with_reducible assumption | omega))) | (repeat' (first | with_reducible exact Below.refl _ _ | with_reducible refine Below.drew ?_ | with_reducible refine below_drewN ?_ _ | with_reducible refine Below.alloc ?_ ?_ _ | with_reducible refine Below.setCell ?_ ?_ _ | with_reducible refine Below.trans ?_ (Below.mono (by with_reducible assumption) ?_) | (simp; done) | (simp; omega) | omega)))); done)) | go_keep)
            clear hK K
            (try simp only [Act.put, List.setIfInBounds_toArray, List.set_cons_zero, List.set_cons_succ])
            refine wpAnyH_ready (rs := [15]) (by kernel_rfl) (by simp) ?_
            refine AllReadyH.cons (o := ?z16oi) ?z16hi (fun K hK => ?_) AllReadyH.nil
            case z16hi => (simp only [List.getElem?_toArray, List.getElem?_cons_succ, List.getElem?_cons_zero]; exact rfl)
            go_simp
            (go_at_call 49; (with_reducible refine (KR.out _).mono ?_); rintro e w1 ⟨rfl, hb1⟩; have z1 := hb1.size; (try simp at z1); have L1a := live_below hb1 (b := w.heap.size) (by (repeat (first | with_reducible assumption | ((with_reducible apply live_new) <;> (first | with_reducible rfl | (focus (simp; done)))) | with_reducible apply live_alloc | with_reducible apply live_drew | with_reducible apply live_drewN | ((with_reducible apply live_set_other); (case hb => first | omega | (simp; done))) | with_reducible apply live_set_same | (focus (simp; done))))); obtain ⟨p1a, e1a, f1a⟩ := id L1a; clear e1a; have c1 := (hb1.cell (p := ⟨w.heap.size, (i + 1), none⟩) p0).trans c0; have d1 := (hb1.cell (p := ⟨w.heap.size, i, none⟩) p0).trans ck)
            refine hK.out _ _ ?_ (fun hHeld => ?_)
            · (try dsimp only); (first | (focus (((with_reducible apply keep12 HL.out hi) <;> (first | (first | with_reducible assumption | ((with_reducible apply cell_drew); with_reducible assumption) | ((with_reducible apply cell_set_off) <;> (first | with_reducible assumption | omega))) | (repeat' (first | with_reducible exact Below.refl _ _ | with_reducible refine Below.drew ?_ | with_reducible refine below_drewN ?_ _ | with_reducible refine Below.alloc ?_ ?_ _ | with_reducible refine Below.setCell ?_ ?_ _ | with_reducible refine Below.trans ?_ (Below.mono (by with_reducible assumption) ?_) | (simp; done) | (simp; omega) | omega)))); done)) | go_keep)
            clear hK K
            (try simp only [Act.put, List.setIfInBounds_toArray, List.set_cons_zero, List.set_cons_succ])
            refine wpAnyH_take (i := 16) (oi := ?z17oi) (v := ?z17v) ?z17hi (by kernel_rfl) (by kernel_rfl) (by kernel_rfl) (fun _ _ _ h => h) (Or.inl ⟨?z17hw, ?z17hy⟩) hHeld ?z17rest
            case z17hi => (simp only [List.getElem?_toArray, List.getElem?_cons_succ, List.getElem?_cons_zero]; exact rfl)
            case z17hw => rfl
            case z17hy => (intro w hSw; (try dsimp only at hSw); go_simp; (try with_reducible rfl))
            (try simp only [Act.put, List.setIfInBounds_toArray, List.set_cons_zero, List.set_cons_succ])
            refine wpAnyH_ready (rs := [17]) (by kernel_rfl) (by simp) ?_
            refine AllReadyH.cons (o := ?z18oi) ?z18hi (fun K hK => ?_) AllReadyH.nil
            case z18hi => (simp only [List.getElem?_toArray, List.getElem?_cons_succ, List.getElem?_cons_zero]; exact rfl)
            go_simp
            skip
            refine hK.out _ _ ?_ (fun hHeld => ?_)
            · (try dsimp only); (first | (focus (((with_reducible apply keep12 HL.out hi) <;> (first | (first | with_reducible assumption | ((with_reducible apply cell_drew); with_reducible assumption) | ((with_reducible apply cell_set_off) <;> (first | with_reducible assumption | omega))) | (repeat' (first | with_reducible exact Below.refl _ _ | with_reducible refine Below.drew ?_ | with_reducible refine below_drewN ?_ _ | with_reducible refine Below.alloc ?_ ?_ _ | with_reducible refine Below.setCell ?_ ?_ _ | with_reducible refine Below.trans ?_ (Below.mono (by with_reducible assumption) ?_) | (simp; done) | (simp; omega) | omega)))); done)) | go_keep)
            clear hK K
            (try simp only [Act.put, List.setIfInBounds_toArray, List.set_cons_zero, List.set_cons_succ])
            refine wpAnyH_take (i := 18) (oi := ?z19oi) (v := ?z19v) ?z19hi (by kernel_rfl) (by kernel_rfl) (by kernel_rfl) (fun _ _ _ h => h) (Or.inl ⟨?z19hw, ?z19hy⟩) hHeld ?z19rest
            case z19hi => (simp only [List.getElem?_toArray, List.getElem?_cons_succ, List.getElem?_cons_zero]; exact rfl)
            case z19hw => rfl
            case z19hy => (intro w hSw; (try dsimp only at hSw); go_simp; (try with_reducible rfl))
            (try simp only [Act.put, List.setIfInBounds_toArray, List.set_cons_zero, List.set_cons_succ])
            refine wpAnyH_ready (rs := [19]) (by kernel_rfl) (by simp) ?_
            refine AllReadyH.cons (o := ?z20oi) ?z20hi (fun K hK => ?_) AllReadyH.nil
            case z20hi => (simp only [List.getElem?_toArray, List.getElem?_cons_succ, List.getElem?_cons_zero]; exact rfl)
            go_simp
            skip
            refine hK.out _ _ ?_ (fun hHeld => ?_)
            · (try dsimp only); (first | (focus (((with_reducible apply keep12 HL.out hi) <;> (first | (first | with_reducible assumption | ((with_reducible apply cell_drew); with_reducible assumption) | ((with_reducible apply cell_set_off) <;> (first | with_reducible assumption | omega))) | (repeat' (first | with_reducible exact Below.refl _ _ | with_reducible refine Below.drew ?_ | with_reducible refine below_drewN ?_ _ | with_reducible refine Below.alloc ?_ ?_ _ | with_reducible refine Below.setCell ?_ ?_ _ | with_reducible refine Below.trans ?_ (Below.mono (by with_reducible assumption) ?_) | (simp; done) | (simp; omega) | omega)))); done)) | go_keep)
            clear hK K
            (try simp only [Act.put, List.setIfInBounds_toArray, List.set_cons_zero, List.set_cons_succ])
            refine wpAnyH_done (by kernel_rfl) ?_ _
            refine NoPanic.normal ?_
            go_wp2_with fail
            go_roundw
            case rel => exact ⟨i, by go_num, by omega, live_conv (live_arr_set L1a i _ (by omega)) (cur2_upd g z en n i _ (by rw [HV.out, HG.out, HF.out]) _), by (repeat' (first | with_reducible exact Below.refl _ _ | with_reducible refine Below.drew ?_ | with_reducible refine below_drewN ?_ _ | with_reducible refine Below.alloc ?_ ?_ _ | with_reducible refine Below.setCell ?_ ?_ _ | with_reducible refine Below.trans ?_ (Below.mono (by with_reducible assumption) ?_) | (simp; done) | (simp; omega) | omega))⟩
            case measure => first | (simp [intOf]; done) | (simp [intOf]; omega)
          refine AllReadyH.cons (o := ?z21oi) ?z21hi (fun K hK => ?_) AllReadyH.nil
          case z21hi => (simp only [List.getElem?_toArray, List.getElem?_cons_succ, List.getElem?_cons_zero]; exact rfl)
          go_simp
          (go_at_call 49; (with_reducible refine (KR.out _).mono ?_); rintro e w1 ⟨rfl, hb1⟩; have z1 := hb1.size; (try simp at z1); have L1a := live_below hb1 (b := w.heap.size) (by (repeat (first | with_reducible assumption | ((with_reducible apply live_new) <;> (first | with_reducible rfl | (focus (simp; done)))) | with_reducible apply live_alloc | with_reducible apply live_drew | with_reducible apply live_drewN | ((with_reducible apply live_set_other); (case hb => first | omega | (simp; done))) | with_reducible apply live_set_same | (focus (simp; done))))); obtain ⟨p1a, e1a, f1a⟩ := id L1a; clear e1a; have c1 := (hb1.cell (p := ⟨w.heap.size, (i + 1), none⟩) p0).trans c0; have d1 := (hb1.cell (p := ⟨w.heap.size, i, none⟩) p0).trans ck)
          refine hK.out _ _ ?_ (fun hHeld => ?_)
          · (try dsimp only); (first | (focus (((with_reducible apply keep12 HL.out hi) <;> (first | (first | with_reducible assumption | ((with_reducible apply cell_drew); with_reducible assumption) | ((with_reducible apply cell_set_off) <;> (first | with_reducible assumption | omega))) | (repeat' (first | with_reducible exact Below.refl _ _ | with_reducible refine Below.drew ?_ | with_reducible refine below_drewN ?_ _ | with_reducible refine Below.alloc ?_ ?_ _ | with_reducible refine Below.setCell ?_ ?_ _ | with_reducible refine Below.trans ?_ (Below.mono (by with_reducible assumption) ?_) | (simp; done) | (simp; omega) | omega)))); done)) | go_keep)
          clear hK K
          (try simp only [Act.put, List.setIfInBounds_toArray, List.set_cons_zero, List.set_cons_succ])
          refine wpAnyH_take (i := 16) (oi := ?z22oi) (v := ?z22v) ?z22hi (by kernel_rfl) (by kernel_rfl) (by kernel_rfl) (fun _ _ _ h => h) (Or.inl ⟨?z22hw, ?z22hy⟩) hHeld ?z22rest
          case z22hi => (simp only [List.getElem?_toArray, List.getElem?_cons_succ, List.getElem?_cons_zero]; exact rfl)
          case z22hw => rfl
          case z22hy => (intro w hSw; (try dsimp only at hSw); go_simp; (try with_reducible rfl))
          (try simp only [Act.put, List.setIfInBounds_toArray, List.set_cons_zero, List.set_cons_succ])
          refine wpAnyH_ready (rs := [5]) (by kernel_rfl) (by simp) ?_
          refine AllReadyH.cons (o := ?z23oi) ?z23hi (fun K hK => ?_) AllReadyH.nil
          case z23hi => (simp only [List.getElem?_toArray, List.getElem?_cons_succ, List.getElem?_cons_zero]; exact rfl)
          go_simp
          skip
          refine hK.out _ _ ?_ (fun hHeld => ?_)
          · (try dsimp only); (first | (focus (((with_reducible apply keep12 HL.out hi) <;> (first | (first | with_reducible assumption | ((with_reducible apply cell_drew); with_reducible assumption) | ((with_reducible apply cell_set_off) <;> (first | with_reducible assumption | omega))) | (repeat' (first | with_reducible exact Below.refl _ _ | with_reducible refine Below.drew ?_ | with_reducible refine below_drewN ?_ _ | with_reducible refine Below.alloc ?_ ?_ _ | with_reducible refine Below.setCell ?_ ?_ _ | with_reducible refine Below.trans ?_ (Below.mono (by with_reducible assumption) ?_) | (simp; done) | (simp; omega) | omega)))); done)) | go_keep)
          clear hK K
          (try simp only [Act.put, List.setIfInBounds_toArray, List.set_cons_zero, List.set_cons_succ])
          refine wpAnyH_ready (rs := [17]) (by kernel_rfl) (by simp) ?_
          refine AllReadyH.cons (o := ?z24oi) ?z24hi (fun K hK => ?_) AllReadyH.nil
          case z24hi => (simp only [List.getElem?_toArray, List.getElem?_cons_succ, List.getElem?_cons_zero]; exact rfl)
          go_simp
          skip
          refine hK.out _ _ ?_ (fun hHeld => ?_)
          · (try dsimp only); (first | (focus (((with_reducible apply keep12 HL.out hi) <;> (first | (first | with_reducible assumption | ((with_reducible apply cell_drew); with_reducible assumption) | ((with_reducible apply cell_set_off) <;> (first | with_reducible assumption | omega))) | (repeat' (first | with_reducible exact Below.refl _ _ | with_reducible refine Below.drew ?_ | with_reducible refine below_drewN ?_ _ | with_reducible refine Below.alloc ?_ ?_ _ | with_reducible refine Below.setCell ?_ ?_ _ | with_reducible refine Below.trans ?_ (Below.mono (by with_reducible assumption) ?_) | (simp; done) | (simp; omega) | omega)))); done)) | go_keep)
          clear hK K
          (try simp only [Act.put, List.setIfInBounds_toArray, List.set_cons_zero, List.set_cons_succ])
          refine wpAnyH_take (i := 18) (oi := ?z25oi) (v := ?z25v) ?z25hi (by kernel_rfl) (by kernel_rfl) (by kernel_rfl) (fun _ _ _ h => h) (Or.inl ⟨?z25hw, ?z25hy⟩) hHeld ?z25rest
          case z25hi => (simp only [List.getElem?_toArray, List.getElem?_cons_succ, List.getElem?_cons_zero]; exact rfl)
          case z25hw => rfl
          case z25hy => (intro w hSw; (try dsimp only at hSw); go_simp; (try with_reducible rfl))
          (try simp only [Act.put, List.setIfInBounds_toArray, List.set_cons_zero, List.set_cons_succ])
          refine wpAnyH_ready (rs := [19]) (by kernel_rfl) (by simp) ?_
          refine AllReadyH.cons (o := ?z26oi) ?z26hi (fun K hK => ?_) AllReadyH.nil
          case z26hi => (simp only [List.getElem?_toArray, List.getElem?_cons_succ, List.getElem?_cons_zero]; exact rfl)
          go_simp
          skip
          refine hK.out _ _ ?_ (fun hHeld => ?_)
          · (try dsimp only); (first | (focus (((with_reducible apply keep12 HL.out hi) <;> (first | (first | with_reducible assumption | ((with_reducible apply cell_drew); with_reducible assumption) | ((with_reducible apply cell_set_off) <;> (first | with_reducible assumption | omega))) | (repeat' (first | with_reducible exact Below.refl _ _ | with_reducible refine Below.drew ?_ | with_reducible refine below_drewN ?_ _ | with_reducible refine Below.alloc ?_ ?_ _ | with_reducible refine Below.setCell ?_ ?_ _ | with_reducible refine Below.trans ?_ (Below.mono (by with_reducible assumption) ?_) | (simp; done) | (simp; omega) | omega)))); done)) | go_keep)
          clear hK K
          (try simp only [Act.put, List.setIfInBounds_toArray, List.set_cons_zero, List.set_cons_succ])
          refine wpAnyH_done (by kernel_rfl) ?_ _
          refine NoPanic.normal ?_
          go_wp2_with fail
          go_roundw
          case rel => exact ⟨i, by go_num, by omega, live_conv (live_arr_set L1a i _ (by omega)) (cur2_upd g z en n i _ (by rw [HV.out, HG.out, HF.out]) _), by (repeat' (first | with_reducible exact Below.refl _ _ | with_reducible refine Below.drew ?_ | with_reducible refine below_drewN ?_ _ | with_reducible refine Below.alloc ?_ ?_ _ | with_reducible refine Below.setCell ?_ ?_ _ | with_reducible refine Below.trans ?_ (Below.mono (by with_reducible assumption) ?_) | (simp; done) | (simp; omega) | omega))⟩
          case measure => first | (simp [intOf]; done) | (simp [intOf]; omega)
end Go.Proofs.Ytkiadcgdmeebmaa
