/- What Feasible of the reference of chapter 44 returns: what the program's returns -/
import Derived.Deep.DeepCutAuto
import Derived.BigQuiet
import Derived.Deep.QuietTactic
import Derived.IntWalk
import Derived.Deep.RegionHeld3
import Derived.Deep.RegionWith
import Derived.RegionTactic
import Derived.BigRegion
import Derived.Laws.OwnMore
import Derived.Test.YtleohgnnbpicjaaAhdCho
namespace Go.Proofs.Ytleohgnnbpicjaa
open Go.RowKit
set_option linter.unusedVariables false

attribute [local go_sem] cell_past1 cell_past2 cell_past3 cell_past4 froz_past1 froz_past2 froz_past3
attribute [local go_sem ↓] loadB_in

theorem owns_below {w w1 : World} {base : Nat} {e : TypeId} {size : Nat} {v : Value} {n : Nat} {xs : List Value} (h : w.ownsRow base e size v n xs) (hb : Below w.heap.size w w1) : w1.ownsRow base e size v n xs := by
  obtain ⟨h1, h2⟩ := h
  refine ⟨h1, ?_⟩
  rcases h2 with h2 | ⟨g, cap, cur, hv, hg, hh, rest⟩
  · exact Or.inl h2
  · have hlt : g < w.heap.size := (Array.getElem?_eq_some_iff.1 hh).1
    exact Or.inr ⟨g, cap, cur, hv, hg, (hb.block g hlt).trans hh, rest⟩
def listF (n : Nat) (s : Nat → Int) : List Value := (List.range n).map fun i => Value.int .i64 (s i)
theorem listF_succ (n : Nat) (s : Nat → Int) : listF (n + 1) s = listF n s ++ [.int .i64 (s n)] := by unfold listF; rw [List.range_succ, List.map_append]; rfl
theorem listF_at (n : Nat) (s : Nat → Int) (k : Nat) (h : k < n) : (listF n s)[k]? = some (.int .i64 (s k)) := by simp [listF, h]
theorem owns_intS {w : World} {base n : Nat} {v : Value} {s : Nat → Int} (h : w.ownsRow base 3 1 v n (listF n s)) (hn : 0 < n) : ∃ g cap, v = .slice (some ⟨g, 0, none⟩) n cap ∧ base ≤ g ∧ n ≤ cap ∧ cap ≤ maxLen ∧ IntS w (some ⟨g, 0, none⟩) n s := by
  obtain ⟨h1, h2⟩ := h
  rcases h2 with ⟨_, h3⟩ | ⟨g, cap, cur, hv, hg, hh, hnc, hm, hsz, htk⟩
  · omega
  · refine ⟨g, cap, hv, hg, hnc, hm, fun _ => ⟨g, 0, rfl, (Array.getElem?_eq_some_iff.1 hh).1, fun k hk => ?_⟩⟩
    have h4 := listF_at n s k hk
    rw [← htk, List.getElem?_take, if_pos (by omega)] at h4
    rw [Nat.zero_add]
    simp only [World.cell?, hh]
    simpa using h4

def vst (g : Nat → Nat → Int) (k : Nat) : Bool := bval g k && (decide (k = 0) || decide (g k 5 = g (k - 1) 7))
def RFRel (g : Nat → Nat → Int) (n : Nat) (w : World) (s7 s25 : Value) (wx : World) : Prop :=
  ∃ k : Nat, s25 = .int .i64 k ∧ k ≤ n ∧ allTo (vst g) k = true ∧ wx.ownsRow w.heap.size 3 1 s7 (k + 1) (listF (k + 1) (ch g)) ∧ Below w.heap.size w wx

theorem szV_le (x r : Int) (hx : -4611686018427387904 ≤ x ∧ x ≤ 4611686018427387904) : szV (RowKit.wrap64 x) ≤ r ↔ x ≤ r ∧ -x ≤ r := by
  unfold szV RowKit.wrap64
  omega
/-- Where all blocks are valid and joined, what Choice says of their numbers is what Feasible says. -/
theorem feas_ref (g : Nat → Nat → Int) (z : Nat → Int) (en : Int) (n : Nat) (h0 : n ≠ 0) (h : allTo (vst g) n = true) : choB g z en n (ch g) = feasB g z en n n := by
  have hv := (allTo_iff _ n).1 h
  have hb : ∀ k, k < n → bval g k = true ∧ (k ≠ 0 → g k 5 = g (k - 1) 7) := fun k hk => by
    have := hv k hk
    unfold vst at this
    rw [Bool.and_eq_true, Bool.or_eq_true] at this
    refine ⟨this.1, fun e => ?_⟩
    rcases this.2 with h | h
    · exact absurd (of_decide_eq_true h) e
    · exact of_decide_eq_true h
  have hc : ∀ k, k < n → ch g k = g k 5 ∧ ch g (k + 1) = g k 7 := fun k hk => by
    refine ⟨?_, by unfold ch; rw [if_neg (by omega), Nat.add_sub_cancel]⟩
    unfold ch
    by_cases e : k = 0
    · subst e; rw [if_pos rfl]
    · rw [if_neg e]; exact ((hb k hk).2 e).symm
  have hcn : ch g n = g (n - 1) 7 := by unfold ch; rw [if_neg h0]
  have hin : ∀ k, k < n → 0 ≤ g k 5 ∧ g k 5 ≤ g k 6 ∧ 0 ≤ g k 7 ∧ g k 7 ≤ g k 6 ∧ g k 6 ≤ 1099511627776 := fun k hk => by
    have h1 := bval_in g k (hb k hk).1
    have h2 := (bsnd_in g k h1.1).2.1
    omega
  rw [Bool.eq_iff_iff]
  unfold choB feasB
  rw [decide_eq_true rfl, Bool.true_and, Bool.and_eq_true, Bool.and_eq_true, Bool.and_eq_true, allTo_iff, allTo_iff]
  constructor
  · rintro ⟨⟨e1, e2⟩, e3⟩
    have e1' : ch g 0 = en := by simpa using e1
    have e2' : ch g n = 0 := by simpa using e2
    refine ⟨fun k hk => ?_, by rw [Bool.or_eq_true]; right; rw [← hcn]; simpa using e2'⟩
    have h3 := e3 k (by omega)
    rw [Bool.and_eq_true] at h3
    obtain ⟨hA, hB⟩ := h3
    unfold tstB at hB
    rw [decide_eq_true hk, (hc k hk).1, (hc k hk).2] at hB
    have hB' : szV (RowKit.wrap64 (g k 7 - g k 5)) ≤ rch g k := by simpa using hB
    have hi := hin k hk
    rw [szV_le _ _ (by omega)] at hB'
    unfold fst1
    rw [(hb k hk).1, decide_eq_true hB'.1, decide_eq_true (by omega)]
    by_cases e : k = 0
    · subst e
      rw [if_pos rfl, ← (hc 0 hk).1, decide_eq_true e1']; rfl
    · rw [if_neg e, decide_eq_true ((hb k hk).2 e)]
      unfold tstA at hA
      rw [decide_eq_true hk, decide_eq_true (show 0 < k by omega), (hc k hk).1] at hA
      have : g k 5 ≤ z k := by
        simp at hA
        exact hA.2.2.2
      rw [decide_eq_true this]; rfl
  · rintro ⟨e1, e2⟩
    have e2' : g (n - 1) 7 = 0 := by
      rw [Bool.or_eq_true] at e2
      rcases e2 with e | e
      · exact absurd (by simpa using e) h0
      · simpa using e
    have f0 := fst1_open g z en 0 (e1 0 (by omega))
    refine ⟨⟨by rw [(hc 0 (by omega)).1, f0.2.2.2.1 rfl]; simp, by rw [hcn, e2']; rfl⟩, fun k hk => ?_⟩
    rw [Bool.and_eq_true]
    by_cases hkn : k < n
    · have hi := hin k hkn
      have f1 := fst1_open g z en k (e1 k hkn)
      constructor
      · unfold tstA
        rw [(hc k hkn).1, decide_eq_true hi.1, decide_eq_true hi.2.1]
        by_cases e : 0 < k
        · have hi2 := hin (k - 1) (by omega)
          have h5 := (hb k hkn).2 (by omega)
          rw [decide_eq_true (show g k 5 ≤ g (k - 1) 6 by omega), decide_eq_true (f1.2.2.2.2 (by omega)).2]
          simp
        · rw [decide_eq_false e]; simp
      · unfold tstB
        rw [(hc k hkn).1, (hc k hkn).2, decide_eq_true ((szV_le _ _ (by omega)).2 ⟨f1.2.1, by omega⟩)]
        simp
    · obtain rfl : k = n := by omega
      have hi := hin (k - 1) (by omega)
      constructor
      · unfold tstA
        rw [hcn, e2', decide_eq_false hkn, decide_eq_true (show 0 ≤ g (k - 1) 6 by omega)]
        simp
      · unfold tstB
        rw [decide_eq_false hkn]; rfl
theorem feas_bad' (g : Nat → Nat → Int) (z : Nat → Int) (en : Int) (n k : Nat) (hk : k < n) (h : fst1 g z en k = false) : feasB g z en n n = false := by
  unfold feasB; rw [allTo_false _ hk h]; simp
theorem vst_bad (g : Nat → Nat → Int) (z : Nat → Int) (en : Int) (n k : Nat) (hk : k < n) (h : vst g k = false) : feasB g z en n n = false := by
  refine feas_bad' g z en n k hk ?_
  rw [← Bool.not_eq_true]
  intro hf
  have := fst1_open g z en k hf
  unfold vst at h
  rw [this.1] at h
  by_cases e : k = 0
  · rw [decide_eq_true e] at h; simp at h
  · rw [decide_eq_true (this.2.2.2.2 e).1] at h; simp at h
theorem keepF {w wx : World} {b off n X : Nat} {g : Nat → Nat → Int} {k : Nat} (hl : BlkS w (some ⟨b, off, none⟩) n g) (hk0 : 0 < k) (hk : k < n) (hb : Below w.heap.size w wx) (L : Live wx X (blkA g k)) :
    wx.rangeAt X 0 (blkA g k).toList ∧ wx.cell? ⟨X, 5, none⟩ = some (.int .i64 (g k 5)) ∧ wx.cell? ⟨b, off + (k - 1) * 8 + 7, none⟩ = some (.int .i64 (g (k - 1) 7)) :=
  ⟨live_rangeAll L, L.2.1 5, blkS_cell (blkS_below hb (Nat.le_refl _) hl) _ _ (by omega) (by omega)⟩

set_option maxRecDepth 100000 in
set_option maxHeartbeats 8000000 in
theorem ref44_feasible (g : Nat → Nat → Int) (z : Nat → Int) (en : Int) (sl sc : Option Addr) (n m cl cc : Nat) (w : World) (hn : n ≤ 1000000) (hm : m ≤ 9223372036854775807) (hl : BlkS w sl n g) (hz : IntS w sc m z) :
    Calls Try.prog 20 #[.slice sl n cl, .slice sc m cc, .int .i64 en] w fun e w' => e = .returned (.bool (feasB g z en n m)) ∧ Below w.heap.size w w' := by
  obtain ⟨i0, hi, hz0, hz1, hz2⟩ := info_parts int_info2
  have HL := Lib.hid hl
  have HZ := Lib.hid hz
  clear hl hz
  by_cases hne : n = m
  case neg =>
    have b1 : ((m : Int) != (n : Int)) = true := bne_iff_ne.2 (by omega)
    have HF : Hid (feasB g z en n m = false) := Lib.hid (by unfold feasB; simp [hne])
    clear hne
    go_enter Try.func20, Try.ntmps20
    go_wp2
    go_ret
    exact ⟨ret_bool HF.out.symm, by (repeat' (first | with_reducible exact Below.refl _ _ | with_reducible refine Below.drew ?_ | with_reducible refine below_drewN ?_ _ | with_reducible refine Below.alloc ?_ ?_ _ | with_reducible refine Below.setCell ?_ ?_ _ | with_reducible refine Below.trans ?_ (Below.mono (by with_reducible assumption) ?_) | (simp; done) | (simp; omega) | omega))⟩
  subst hne
  have hnn : ((n : Int) != (n : Int)) = false := by simp
  by_cases h0 : n = 0
  · subst h0
    go_enter Try.func20, Try.ntmps20
    go_wp2
    go_ret
    exact ⟨ret_bool rfl, by (repeat' (first | with_reducible exact Below.refl _ _ | with_reducible refine Below.drew ?_ | with_reducible refine below_drewN ?_ _ | with_reducible refine Below.alloc ?_ ?_ _ | with_reducible refine Below.setCell ?_ ?_ _ | with_reducible refine Below.trans ?_ (Below.mono (by with_reducible assumption) ?_) | (simp; done) | (simp; omega) | omega))⟩
  have b0 : ((n : Int) == 0) = false := beq_eq_false_iff_ne.2 (by omega)
  obtain ⟨b, off, rfl, hbl, _⟩ := HL.out (by omega)
  have q5 := blkS_cell HL.out 0 5 (by omega) (by omega)
  simp only [Nat.zero_mul, Nat.add_zero] at q5
  have j1 : (0 : Int) < (n : Int) := by omega
  go_enter Try.func20, Try.ntmps20
  go_wp2_with fail
  go_loopw [7, 25] (RFRel g n w) (fun _ i _ => n - (intOf i).toNat)
  case atStart => exact ⟨0, rfl, Nat.zero_le _, rfl, World.ownsRow_lit w #[.int .i64 (g 0 5)] 1 (Nat.le_refl _) (by unfold maxLen; omega) rfl, by (repeat' (first | with_reducible exact Below.refl _ _ | with_reducible refine Below.drew ?_ | with_reducible refine below_drewN ?_ _ | with_reducible refine Below.alloc ?_ ?_ _ | with_reducible refine Below.setCell ?_ ?_ _ | with_reducible refine Below.trans ?_ (Below.mono (by with_reducible assumption) ?_) | (simp; done) | (simp; omega) | omega))⟩
  case round =>
    obtain ⟨k, rfl, hk, hall, hown, hb⟩ := hrel
    clear q5
    have hbs := hb.size
    have HALL := Lib.hid hall
    have HO := Lib.hid hown
    clear hall hown
    by_cases hlt : k < n
    · have KV := Lib.hid (fun w => ref44_valid_g g k w)
      have HCH : Hid (ch g (k + 1) = g k 7) := Lib.hid (by unfold ch; rw [if_neg (by omega), Nat.add_sub_cancel])
      go_upto_region 9 with (first | ((with_reducible refine wpList_load_in (ty := 24) b (off + k * 8) (blkA g k) ?_ (blkS_rng (blkS_below hb (Nat.le_refl _) HL.out) k hlt) Try.underlying24 ?_ ?_ ?_); (· rfl); (· rfl); (· kernel_rfl)) | ((with_reducible refine wpList_store_in (ty := 24) wr.heap.size 0 (blkA g k) ?_ ?_ ?_ ?_ (blkA_one _ _) ?_); (· rfl); (· rfl); (· exact live_there (live_new _ _ rfl) 0 8 (by decide)); (· kernel_rfl)))
      refine gen_world (fun wx => ∃ X, X = wr.heap.size ∧ Live wx X (blkA g k) ∧ wx.ownsRow w.heap.size 3 1 u7 (k + 1) (listF (k + 1) (ch g)) ∧ Below w.heap.size w wx) ?_ ?_
      · have hbb : Below wr.heap.size wr ((wr.alloc (.cells #[.int .i64 0, .int .i64 0, .int .i64 0, .int .i64 0, .int .i64 0, .int .i64 0, .int .i64 0, .int .i64 0] 24)).setCells wr.heap.size 0 (blkA g k).toList) := below_setCells (Nat.le_refl _) _ _ _ (by (repeat' (first | with_reducible exact Below.refl _ _ | with_reducible refine Below.drew ?_ | with_reducible refine below_drewN ?_ _ | with_reducible refine Below.alloc ?_ ?_ _ | with_reducible refine Below.setCell ?_ ?_ _ | with_reducible refine Below.trans ?_ (Below.mono (by with_reducible assumption) ?_) | (simp; done) | (simp; omega) | omega)))
        exact ⟨_, rfl, live_whole (live_new _ _ rfl) _ rfl, owns_below HO.out hbb, hb.trans (hbb.mono hb.size)⟩
      clear HO hb
      rintro wx ⟨X, hX, L, hown, hb⟩
      rw [← hX]
      simp only [Act.put]
      clear hX
      have p0 := L.1
      have hbs := hb.size
      have HO := Lib.hid hown
      clear hown
      have hblx : b < wx.heap.size := by omega
      have q5 := L.2.1 5
      rw [blkA_at g k 5 (by omega)] at q5
      have hld : ∀ w' : World, w'.rangeAt X 0 (blkA g k).toList → (loadB (.pointer (some ⟨X, 0, none⟩))).run Try.prog w' = .ok (.agg (blkA g k)) w' := fun w' h => loadB_run h
      cases hv : bval g k
      · rw [hv] at KV
        have HF : Hid (feasB g z en n n = false) := Lib.hid (vst_bad g z en n k hlt (by unfold vst; rw [hv]; rfl))
        clear hv
        refine wp_region_noPanic ?_
        refine wp_region_held_drew (S := (fun w' => w'.rangeAt X 0 (blkA g k).toList)) (by kernel_rfl) ?_ (fun hHeld => ?_)
        · (try dsimp only); (first | (focus (((with_reducible apply live_rangeAll) <;> ((repeat (first | with_reducible assumption | ((with_reducible apply live_new) <;> (first | with_reducible rfl | (focus (simp; done)))) | with_reducible apply live_alloc | with_reducible apply live_drew | with_reducible apply live_drewN | ((with_reducible apply live_set_other); (case hb => first | omega | (simp; done))) | with_reducible apply live_set_same | (focus (simp; done)))))); done)) | go_keep)
        refine wpAnyH_take (i := 0) (oi := ?z1oi) (v := ?z1v) ?z1hi (by kernel_rfl) (by kernel_rfl) (by kernel_rfl) (fun _ _ _ h => h) (Or.inl ⟨?z1hw, ?z1hy⟩) hHeld ?z1rest
        case z1hi => (simp only [List.getElem?_toArray, List.getElem?_cons_zero]; exact rfl)
        case z1hw => rfl
        case z1hy => (intro w hSw; (try dsimp only at hSw); go_simp; (try with_reducible rfl))
        (try simp only [Act.put, List.setIfInBounds_toArray, List.set_cons_zero, List.set_cons_succ])
        refine wpAnyH_ready (rs := [1]) (by kernel_rfl) (by simp) ?_
        refine AllReadyH.cons (o := ?z2oi) ?z2hi (fun K hK => ?_) AllReadyH.nil
        case z2hi => (simp only [List.getElem?_toArray, List.getElem?_cons_succ, List.getElem?_cons_zero]; exact rfl)
        go_simp
        (go_at_call 16; (with_reducible refine (KV.out _).mono ?_); rintro e w1 ⟨rfl, hb1⟩; have z1 := hb1.size; (try simp at z1); have L1a := live_below hb1 (b := X) (by (repeat (first | with_reducible assumption | ((with_reducible apply live_new) <;> (first | with_reducible rfl | (focus (simp; done)))) | with_reducible apply live_alloc | with_reducible apply live_drew | with_reducible apply live_drewN | ((with_reducible apply live_set_other); (case hb => first | omega | (simp; done))) | with_reducible apply live_set_same | (focus (simp; done))))); obtain ⟨p1a, e1a, f1a⟩ := id L1a; clear e1a)
        refine hK.out _ _ ?_ (fun hHeld => ?_)
        · (try dsimp only); (first | (focus (((with_reducible apply live_rangeAll) <;> ((repeat (first | with_reducible assumption | ((with_reducible apply live_new) <;> (first | with_reducible rfl | (focus (simp; done)))) | with_reducible apply live_alloc | with_reducible apply live_drew | with_reducible apply live_drewN | ((with_reducible apply live_set_other); (case hb => first | omega | (simp; done))) | with_reducible apply live_set_same | (focus (simp; done)))))); done)) | go_keep)
        clear hK K
        (try simp only [Act.put, List.setIfInBounds_toArray, List.set_cons_zero, List.set_cons_succ])
        refine wpAnyH_take (i := 2) (oi := ?z3oi) (v := ?z3v) ?z3hi (by kernel_rfl) (by kernel_rfl) (by kernel_rfl) (fun _ _ _ h => h) (Or.inl ⟨?z3hw, ?z3hy⟩) hHeld ?z3rest
        case z3hi => (simp only [List.getElem?_toArray, List.getElem?_cons_succ, List.getElem?_cons_zero]; exact rfl)
        case z3hw => rfl
        case z3hy => (intro w hSw; (try dsimp only at hSw); go_simp; (try with_reducible rfl))
        (try simp only [Act.put, List.setIfInBounds_toArray, List.set_cons_zero, List.set_cons_succ])
        refine wpAnyH_take (i := 3) (oi := ?z4oi) (v := ?z4v) ?z4hi (by kernel_rfl) (by kernel_rfl) (by kernel_rfl) (fun _ _ _ h => h) (Or.inl ⟨?z4hw, ?z4hy⟩) hHeld ?z4rest
        case z4hi => (simp only [List.getElem?_toArray, List.getElem?_cons_succ, List.getElem?_cons_zero]; exact rfl)
        case z4hw => rfl
        case z4hy => (intro w hSw; (try dsimp only at hSw); go_simp; (try with_reducible rfl))
        (try simp only [Act.put, List.setIfInBounds_toArray, List.set_cons_zero, List.set_cons_succ])
        refine wpAnyH_take (i := 4) (oi := ?z5oi) (v := undef) ?z5hi (by kernel_rfl) (by kernel_rfl) (by kernel_rfl) (fun _ _ _ h => h) (Or.inr ⟨?z5hw, rfl⟩) hHeld ?z5rest
        case z5hi => (simp only [List.getElem?_toArray, List.getElem?_cons_succ, List.getElem?_cons_zero]; exact rfl)
        case z5hw => rfl
        (try simp only [Act.put, List.setIfInBounds_toArray, List.set_cons_zero, List.set_cons_succ])
        refine wpAnyH_take (i := 5) (oi := ?z6oi) (v := undef) ?z6hi (by kernel_rfl) (by kernel_rfl) (by kernel_rfl) (fun _ _ _ h => h) (Or.inr ⟨?z6hw, rfl⟩) hHeld ?z6rest
        case z6hi => (simp only [List.getElem?_toArray, List.getElem?_cons_succ, List.getElem?_cons_zero]; exact rfl)
        case z6hw => rfl
        (try simp only [Act.put, List.setIfInBounds_toArray, List.set_cons_zero, List.set_cons_succ])
        refine wpAnyH_take (i := 6) (oi := ?z7oi) (v := undef) ?z7hi (by kernel_rfl) (by kernel_rfl) (by kernel_rfl) (fun _ _ _ h => h) (Or.inr ⟨?z7hw, rfl⟩) hHeld ?z7rest
        case z7hi => (simp only [List.getElem?_toArray, List.getElem?_cons_succ, List.getElem?_cons_zero]; exact rfl)
        case z7hw => rfl
        (try simp only [Act.put, List.setIfInBounds_toArray, List.set_cons_zero, List.set_cons_succ])
        refine wpAnyH_take (i := 7) (oi := ?z8oi) (v := undef) ?z8hi (by kernel_rfl) (by kernel_rfl) (by kernel_rfl) (fun _ _ _ h => h) (Or.inr ⟨?z8hw, rfl⟩) hHeld ?z8rest
        case z8hi => (simp only [List.getElem?_toArray, List.getElem?_cons_succ, List.getElem?_cons_zero]; exact rfl)
        case z8hw => rfl
        (try simp only [Act.put, List.setIfInBounds_toArray, List.set_cons_zero, List.set_cons_succ])
        refine wpAnyH_take (i := 8) (oi := ?z9oi) (v := undef) ?z9hi (by kernel_rfl) (by kernel_rfl) (by kernel_rfl) (fun _ _ _ h => h) (Or.inr ⟨?z9hw, rfl⟩) hHeld ?z9rest
        case z9hi => (simp only [List.getElem?_toArray, List.getElem?_cons_succ, List.getElem?_cons_zero]; exact rfl)
        case z9hw => rfl
        (try simp only [Act.put, List.setIfInBounds_toArray, List.set_cons_zero, List.set_cons_succ])
        refine wpAnyH_take (i := 9) (oi := ?z10oi) (v := undef) ?z10hi (by kernel_rfl) (by kernel_rfl) (by kernel_rfl) (fun _ _ _ h => h) (Or.inr ⟨?z10hw, rfl⟩) hHeld ?z10rest
        case z10hi => (simp only [List.getElem?_toArray, List.getElem?_cons_succ, List.getElem?_cons_zero]; exact rfl)
        case z10hw => rfl
        (try simp only [Act.put, List.setIfInBounds_toArray, List.set_cons_zero, List.set_cons_succ])
        refine wpAnyH_take (i := 10) (oi := ?z11oi) (v := undef) ?z11hi (by kernel_rfl) (by kernel_rfl) (by kernel_rfl) (fun _ _ _ h => h) (Or.inr ⟨?z11hw, rfl⟩) hHeld ?z11rest
        case z11hi => (simp only [List.getElem?_toArray, List.getElem?_cons_succ, List.getElem?_cons_zero]; exact rfl)
        case z11hw => rfl
        (try simp only [Act.put, List.setIfInBounds_toArray, List.set_cons_zero, List.set_cons_succ])
        refine wpAnyH_take (i := 11) (oi := ?z12oi) (v := undef) ?z12hi (by kernel_rfl) (by kernel_rfl) (by kernel_rfl) (fun _ _ _ h => h) (Or.inr ⟨?z12hw, rfl⟩) hHeld ?z12rest
        case z12hi => (simp only [List.getElem?_toArray, List.getElem?_cons_succ, List.getElem?_cons_zero]; exact rfl)
        case z12hw => rfl
        (try simp only [Act.put, List.setIfInBounds_toArray, List.set_cons_zero, List.set_cons_succ])
        refine wpAnyH_take (i := 12) (oi := ?z13oi) (v := undef) ?z13hi (by kernel_rfl) (by kernel_rfl) (by kernel_rfl) (fun _ _ _ h => h) (Or.inr ⟨?z13hw, rfl⟩) hHeld ?z13rest
        case z13hi => (simp only [List.getElem?_toArray, List.getElem?_cons_succ, List.getElem?_cons_zero]; exact rfl)
        case z13hw => rfl
        (try simp only [Act.put, List.setIfInBounds_toArray, List.set_cons_zero, List.set_cons_succ])
        refine wpAnyH_take (i := 13) (oi := ?z14oi) (v := undef) ?z14hi (by kernel_rfl) (by kernel_rfl) (by kernel_rfl) (fun _ _ _ h => h) (Or.inr ⟨?z14hw, rfl⟩) hHeld ?z14rest
        case z14hi => (simp only [List.getElem?_toArray, List.getElem?_cons_succ, List.getElem?_cons_zero]; exact rfl)
        case z14hw => rfl
        (try simp only [Act.put, List.setIfInBounds_toArray, List.set_cons_zero, List.set_cons_succ])
        refine wpAnyH_take (i := 14) (oi := ?z15oi) (v := undef) ?z15hi (by kernel_rfl) (by kernel_rfl) (by kernel_rfl) (fun _ _ _ h => h) (Or.inr ⟨?z15hw, rfl⟩) hHeld ?z15rest
        case z15hi => (simp only [List.getElem?_toArray, List.getElem?_cons_succ, List.getElem?_cons_zero]; exact rfl)
        case z15hw => rfl
        (try simp only [Act.put, List.setIfInBounds_toArray, List.set_cons_zero, List.set_cons_succ])
        refine wpAnyH_take (i := 15) (oi := ?z16oi) (v := undef) ?z16hi (by kernel_rfl) (by kernel_rfl) (by kernel_rfl) (fun _ _ _ h => h) (Or.inr ⟨?z16hw, rfl⟩) hHeld ?z16rest
        case z16hi => (simp only [List.getElem?_toArray, List.getElem?_cons_succ, List.getElem?_cons_zero]; exact rfl)
        case z16hw => rfl
        (try simp only [Act.put, List.setIfInBounds_toArray, List.set_cons_zero, List.set_cons_succ])
        refine wpAnyH_take (i := 16) (oi := ?z17oi) (v := undef) ?z17hi (by kernel_rfl) (by kernel_rfl) (by kernel_rfl) (fun _ _ _ h => h) (Or.inr ⟨?z17hw, rfl⟩) hHeld ?z17rest
        case z17hi => (simp only [List.getElem?_toArray, List.getElem?_cons_succ, List.getElem?_cons_zero]; exact rfl)
        case z17hw => rfl
        (try simp only [Act.put, List.setIfInBounds_toArray, List.set_cons_zero, List.set_cons_succ])
        refine wpAnyH_take (i := 17) (oi := ?z18oi) (v := ?z18v) ?z18hi (by kernel_rfl) (by kernel_rfl) (by kernel_rfl) (fun _ _ _ h => h) (Or.inl ⟨?z18hw, ?z18hy⟩) hHeld ?z18rest
        case z18hi => (simp only [List.getElem?_toArray, List.getElem?_cons_succ, List.getElem?_cons_zero]; exact rfl)
        case z18hw => rfl
        case z18hy => (intro w hSw; (try dsimp only at hSw); go_simp; (try with_reducible rfl))
        (try simp only [Act.put, List.setIfInBounds_toArray, List.set_cons_zero, List.set_cons_succ])
        refine wpAnyH_done (by kernel_rfl) ?_ _
        refine NoPanic.normal ?_
        all_goals (try go_wp2_with fail)
        all_goals go_ret
        all_goals refine ⟨ret_bool HF.out.symm, ?_⟩
        all_goals (repeat' (first | with_reducible exact Below.refl _ _ | with_reducible refine Below.drew ?_ | with_reducible refine below_drewN ?_ _ | with_reducible refine Below.alloc ?_ ?_ _ | with_reducible refine Below.setCell ?_ ?_ _ | with_reducible refine Below.trans ?_ (Below.mono (by with_reducible assumption) ?_) | (simp; done) | (simp; omega) | omega))
      rw [hv] at KV
      by_cases hk0 : k = 0
      · subst hk0
        have HA : Hid (allTo (vst g) (0 + 1) = true) := Lib.hid (by show (_ && vst g 0) = true; rw [HALL.out]; unfold vst; rw [hv]; rfl)
        clear hv
        refine wp_region_noPanic ?_
        refine wp_region_held_drew (S := (fun w' => w'.rangeAt X 0 (blkA g 0).toList)) (by kernel_rfl) ?_ (fun hHeld => ?_)
        · (try dsimp only); (first | (focus (((with_reducible apply live_rangeAll) <;> ((repeat (first | with_reducible assumption | ((with_reducible apply live_new) <;> (first | with_reducible rfl | (focus (simp; done)))) | with_reducible apply live_alloc | with_reducible apply live_drew | with_reducible apply live_drewN | ((with_reducible apply live_set_other); (case hb => first | omega | (simp; done))) | with_reducible apply live_set_same | (focus (simp; done)))))); done)) | go_keep)
        refine wpAnyH_take (i := 0) (oi := ?z19oi) (v := ?z19v) ?z19hi (by kernel_rfl) (by kernel_rfl) (by kernel_rfl) (fun _ _ _ h => h) (Or.inl ⟨?z19hw, ?z19hy⟩) hHeld ?z19rest
        case z19hi => (simp only [List.getElem?_toArray, List.getElem?_cons_zero]; exact rfl)
        case z19hw => rfl
        case z19hy => (intro w hSw; (try dsimp only at hSw); go_simp; (try with_reducible rfl))
        (try simp only [Act.put, List.setIfInBounds_toArray, List.set_cons_zero, List.set_cons_succ])
        refine wpAnyH_ready (rs := [1]) (by kernel_rfl) (by simp) ?_
        refine AllReadyH.cons (o := ?z20oi) ?z20hi (fun K hK => ?_) AllReadyH.nil
        case z20hi => (simp only [List.getElem?_toArray, List.getElem?_cons_succ, List.getElem?_cons_zero]; exact rfl)
        go_simp
        (go_at_call 16; (with_reducible refine (KV.out _).mono ?_); rintro e w1 ⟨rfl, hb1⟩; have z1 := hb1.size; (try simp at z1); have L1a := live_below hb1 (b := X) (by (repeat (first | with_reducible assumption | ((with_reducible apply live_new) <;> (first | with_reducible rfl | (focus (simp; done)))) | with_reducible apply live_alloc | with_reducible apply live_drew | with_reducible apply live_drewN | ((with_reducible apply live_set_other); (case hb => first | omega | (simp; done))) | with_reducible apply live_set_same | (focus (simp; done))))); obtain ⟨p1a, e1a, f1a⟩ := id L1a; clear e1a)
        refine hK.out _ _ ?_ (fun hHeld => ?_)
        · (try dsimp only); (first | (focus (((with_reducible apply live_rangeAll) <;> ((repeat (first | with_reducible assumption | ((with_reducible apply live_new) <;> (first | with_reducible rfl | (focus (simp; done)))) | with_reducible apply live_alloc | with_reducible apply live_drew | with_reducible apply live_drewN | ((with_reducible apply live_set_other); (case hb => first | omega | (simp; done))) | with_reducible apply live_set_same | (focus (simp; done)))))); done)) | go_keep)
        clear hK K
        (try simp only [Act.put, List.setIfInBounds_toArray, List.set_cons_zero, List.set_cons_succ])
        refine wpAnyH_take (i := 2) (oi := ?z21oi) (v := ?z21v) ?z21hi (by kernel_rfl) (by kernel_rfl) (by kernel_rfl) (fun _ _ _ h => h) (Or.inl ⟨?z21hw, ?z21hy⟩) hHeld ?z21rest
        case z21hi => (simp only [List.getElem?_toArray, List.getElem?_cons_succ, List.getElem?_cons_zero]; exact rfl)
        case z21hw => rfl
        case z21hy => (intro w hSw; (try dsimp only at hSw); go_simp; (try with_reducible rfl))
        (try simp only [Act.put, List.setIfInBounds_toArray, List.set_cons_zero, List.set_cons_succ])
        refine wpAnyH_take (i := 3) (oi := ?z22oi) (v := ?z22v) ?z22hi (by kernel_rfl) (by kernel_rfl) (by kernel_rfl) (fun _ _ _ h => h) (Or.inl ⟨?z22hw, ?z22hy⟩) hHeld ?z22rest
        case z22hi => (simp only [List.getElem?_toArray, List.getElem?_cons_succ, List.getElem?_cons_zero]; exact rfl)
        case z22hw => rfl
        case z22hy => (intro w hSw; (try dsimp only at hSw); go_simp; (try with_reducible rfl))
        (try simp only [Act.put, List.setIfInBounds_toArray, List.set_cons_zero, List.set_cons_succ])
        refine wpAnyH_take (i := 4) (oi := ?z23oi) (v := ?z23v) ?z23hi (by kernel_rfl) (by kernel_rfl) (by kernel_rfl) (fun _ _ _ h => h) (Or.inl ⟨?z23hw, ?z23hy⟩) hHeld ?z23rest
        case z23hi => (simp only [List.getElem?_toArray, List.getElem?_cons_succ, List.getElem?_cons_zero]; exact rfl)
        case z23hw => rfl
        case z23hy => (intro w hSw; (try dsimp only at hSw); go_simp; (try with_reducible rfl))
        (try simp only [Act.put, List.setIfInBounds_toArray, List.set_cons_zero, List.set_cons_succ])
        refine wpAnyH_take (i := 5) (oi := ?z24oi) (v := ?z24v) ?z24hi (by kernel_rfl) (by kernel_rfl) (by kernel_rfl) (fun _ _ _ h => h) (Or.inl ⟨?z24hw, ?z24hy⟩) hHeld ?z24rest
        case z24hi => (simp only [List.getElem?_toArray, List.getElem?_cons_succ, List.getElem?_cons_zero]; exact rfl)
        case z24hw => rfl
        case z24hy => (intro w hSw; (try dsimp only at hSw); go_simp; (try with_reducible rfl))
        (try simp only [Act.put, List.setIfInBounds_toArray, List.set_cons_zero, List.set_cons_succ])
        refine wpAnyH_take (i := 6) (oi := ?z25oi) (v := ?z25v) ?z25hi (by kernel_rfl) (by kernel_rfl) (by kernel_rfl) (fun _ _ _ h => h) (Or.inl ⟨?z25hw, ?z25hy⟩) hHeld ?z25rest
        case z25hi => (simp only [List.getElem?_toArray, List.getElem?_cons_succ, List.getElem?_cons_zero]; exact rfl)
        case z25hw => rfl
        case z25hy => (intro w hSw; (try dsimp only at hSw); go_simp; (try with_reducible rfl))
        (try simp only [Act.put, List.setIfInBounds_toArray, List.set_cons_zero, List.set_cons_succ])
        refine wpAnyH_take (i := 7) (oi := ?z26oi) (v := undef) ?z26hi (by kernel_rfl) (by kernel_rfl) (by kernel_rfl) (fun _ _ _ h => h) (Or.inr ⟨?z26hw, rfl⟩) hHeld ?z26rest
        case z26hi => (simp only [List.getElem?_toArray, List.getElem?_cons_succ, List.getElem?_cons_zero]; exact rfl)
        case z26hw => rfl
        (try simp only [Act.put, List.setIfInBounds_toArray, List.set_cons_zero, List.set_cons_succ])
        refine wpAnyH_take (i := 8) (oi := ?z27oi) (v := undef) ?z27hi (by kernel_rfl) (by kernel_rfl) (by kernel_rfl) (fun _ _ _ h => h) (Or.inr ⟨?z27hw, rfl⟩) hHeld ?z27rest
        case z27hi => (simp only [List.getElem?_toArray, List.getElem?_cons_succ, List.getElem?_cons_zero]; exact rfl)
        case z27hw => rfl
        (try simp only [Act.put, List.setIfInBounds_toArray, List.set_cons_zero, List.set_cons_succ])
        refine wpAnyH_take (i := 9) (oi := ?z28oi) (v := undef) ?z28hi (by kernel_rfl) (by kernel_rfl) (by kernel_rfl) (fun _ _ _ h => h) (Or.inr ⟨?z28hw, rfl⟩) hHeld ?z28rest
        case z28hi => (simp only [List.getElem?_toArray, List.getElem?_cons_succ, List.getElem?_cons_zero]; exact rfl)
        case z28hw => rfl
        (try simp only [Act.put, List.setIfInBounds_toArray, List.set_cons_zero, List.set_cons_succ])
        refine wpAnyH_take (i := 10) (oi := ?z29oi) (v := undef) ?z29hi (by kernel_rfl) (by kernel_rfl) (by kernel_rfl) (fun _ _ _ h => h) (Or.inr ⟨?z29hw, rfl⟩) hHeld ?z29rest
        case z29hi => (simp only [List.getElem?_toArray, List.getElem?_cons_succ, List.getElem?_cons_zero]; exact rfl)
        case z29hw => rfl
        (try simp only [Act.put, List.setIfInBounds_toArray, List.set_cons_zero, List.set_cons_succ])
        refine wpAnyH_take (i := 11) (oi := ?z30oi) (v := undef) ?z30hi (by kernel_rfl) (by kernel_rfl) (by kernel_rfl) (fun _ _ _ h => h) (Or.inr ⟨?z30hw, rfl⟩) hHeld ?z30rest
        case z30hi => (simp only [List.getElem?_toArray, List.getElem?_cons_succ, List.getElem?_cons_zero]; exact rfl)
        case z30hw => rfl
        (try simp only [Act.put, List.setIfInBounds_toArray, List.set_cons_zero, List.set_cons_succ])
        refine wpAnyH_take (i := 12) (oi := ?z31oi) (v := undef) ?z31hi (by kernel_rfl) (by kernel_rfl) (by kernel_rfl) (fun _ _ _ h => h) (Or.inr ⟨?z31hw, rfl⟩) hHeld ?z31rest
        case z31hi => (simp only [List.getElem?_toArray, List.getElem?_cons_succ, List.getElem?_cons_zero]; exact rfl)
        case z31hw => rfl
        (try simp only [Act.put, List.setIfInBounds_toArray, List.set_cons_zero, List.set_cons_succ])
        refine wpAnyH_take (i := 13) (oi := ?z32oi) (v := undef) ?z32hi (by kernel_rfl) (by kernel_rfl) (by kernel_rfl) (fun _ _ _ h => h) (Or.inr ⟨?z32hw, rfl⟩) hHeld ?z32rest
        case z32hi => (simp only [List.getElem?_toArray, List.getElem?_cons_succ, List.getElem?_cons_zero]; exact rfl)
        case z32hw => rfl
        (try simp only [Act.put, List.setIfInBounds_toArray, List.set_cons_zero, List.set_cons_succ])
        refine wpAnyH_take (i := 14) (oi := ?z33oi) (v := undef) ?z33hi (by kernel_rfl) (by kernel_rfl) (by kernel_rfl) (fun _ _ _ h => h) (Or.inr ⟨?z33hw, rfl⟩) hHeld ?z33rest
        case z33hi => (simp only [List.getElem?_toArray, List.getElem?_cons_succ, List.getElem?_cons_zero]; exact rfl)
        case z33hw => rfl
        (try simp only [Act.put, List.setIfInBounds_toArray, List.set_cons_zero, List.set_cons_succ])
        refine wpAnyH_take (i := 15) (oi := ?z34oi) (v := undef) ?z34hi (by kernel_rfl) (by kernel_rfl) (by kernel_rfl) (fun _ _ _ h => h) (Or.inr ⟨?z34hw, rfl⟩) hHeld ?z34rest
        case z34hi => (simp only [List.getElem?_toArray, List.getElem?_cons_succ, List.getElem?_cons_zero]; exact rfl)
        case z34hw => rfl
        (try simp only [Act.put, List.setIfInBounds_toArray, List.set_cons_zero, List.set_cons_succ])
        refine wpAnyH_take (i := 16) (oi := ?z35oi) (v := ?z35v) ?z35hi (by kernel_rfl) (by kernel_rfl) (by kernel_rfl) (fun _ _ _ h => h) (Or.inl ⟨?z35hw, ?z35hy⟩) hHeld ?z35rest
        case z35hi => (simp only [List.getElem?_toArray, List.getElem?_cons_succ, List.getElem?_cons_zero]; exact rfl)
        case z35hw => rfl
        case z35hy => (intro w hSw; (try dsimp only at hSw); go_simp; (try with_reducible rfl))
        (try simp only [Act.put, List.setIfInBounds_toArray, List.set_cons_zero, List.set_cons_succ])
        refine wpAnyH_take (i := 17) (oi := ?z36oi) (v := ?z36v) ?z36hi (by kernel_rfl) (by kernel_rfl) (by kernel_rfl) (fun _ _ _ h => h) (Or.inl ⟨?z36hw, ?z36hy⟩) hHeld ?z36rest
        case z36hi => (simp only [List.getElem?_toArray, List.getElem?_cons_succ, List.getElem?_cons_zero]; exact rfl)
        case z36hw => rfl
        case z36hy => (intro w hSw; (try dsimp only at hSw); go_simp; (try with_reducible rfl))
        (try simp only [Act.put, List.setIfInBounds_toArray, List.set_cons_zero, List.set_cons_succ])
        refine wpAnyH_done (by kernel_rfl) ?_ _
        refine NoPanic.normal ?_
        go_upto_region 11 with (fail)
        refine gen_world (fun wx => Live wx X (blkA g 0) ∧ wx.ownsRow w.heap.size 3 1 u7 (0 + 1) (listF (0 + 1) (ch g)) ∧ Below w.heap.size w wx) ?_ ?_
        · exact ⟨L1a, owns_below (w := wx) HO.out (by (repeat' (first | with_reducible exact Below.refl _ _ | with_reducible refine Below.drew ?_ | with_reducible refine below_drewN ?_ _ | with_reducible refine Below.alloc ?_ ?_ _ | with_reducible refine Below.setCell ?_ ?_ _ | with_reducible refine Below.trans ?_ (Below.mono (by with_reducible assumption) ?_) | (simp; done) | (simp; omega) | omega))), by (repeat' (first | with_reducible exact Below.refl _ _ | with_reducible refine Below.drew ?_ | with_reducible refine below_drewN ?_ _ | with_reducible refine Below.alloc ?_ ?_ _ | with_reducible refine Below.setCell ?_ ?_ _ | with_reducible refine Below.trans ?_ (Below.mono (by with_reducible assumption) ?_) | (simp; done) | (simp; omega) | omega))⟩
        clear HO L1a hb
        rintro wy ⟨L, hown, hb⟩
        have p0 := L.1
        have hbz := hb.size
        have q7 := L.2.1 7
        rw [blkA_at g 0 7 (by omega)] at q7
        go_wp2_with (at_builtin; refine wpList_append_own _ rfl _ _ 28 rfl w.heap.size 3 i0 (.int .i64 0) 1 8 Try.underlying28 hi hz0 hz1 hz2 rfl (by decide) _ _ _ rfl (hown.alloc _) ⟨wy.heap.size, 0, none⟩ 1 1 [.int .i64 (g 0 7)] rfl rfl ?_ ?_ ?_ ?_ ?_ ?_; (· intro j u hj; match j, hj with | 0, hj => (simp at hj; subst hj; show World.cell? _ ⟨_, 0 + 0, none⟩ = _; rw [World.cell?_alloc_at _ _ _ _ (by simp)]; rfl)); (· intro u hu; simp at hu; subst hu; rfl); (· unfold maxLen; omega); (· omega); (· simp; omega); intro v' w1 hown' hgrow _)
        have hb1 : Below w.heap.size w w1 := Below.grown (by refine Below.trans hb ?_; (repeat' (first | with_reducible exact Below.refl _ _ | with_reducible refine Below.drew ?_ | with_reducible refine below_drewN ?_ _ | with_reducible refine Below.alloc ?_ ?_ _ | with_reducible refine Below.setCell ?_ ?_ _ | with_reducible refine Below.trans ?_ (Below.mono (by with_reducible assumption) ?_) | (simp; done) | (simp; omega) | omega))) hgrow (by simp; omega) (fun j hj => (hown.lt j hj).1)
        rw [show (.int .i64 (g 0 7) : Value) = .int .i64 (ch g (0 + 1)) by rw [HCH.out], ← listF_succ] at hown'
        clear hgrow hown
        go_wp2
        go_roundw
        case rel => exact ⟨0 + 1, by go_num, by omega, HA.out, hown', hb1⟩
        case measure => first | (simp [intOf]; done) | (simp [intOf]; omega)
      have hk0' : 0 < k := by omega
      have j2 : decide ((0 : Int) < (k : Int)) = true := by simp; omega
      have i3 : IntKind.i64.wrap ((k : Int) - 1) = (k : Int) - 1 := IntWalk.i64_in _ (by omega)
      have i4 : ((k : Int) - 1).toNat = k - 1 := by omega
      have i5 : 0 ≤ (k : Int) - 1 := by omega
      have i5' : (1 : Int) ≤ (k : Int) := by omega
      have i6 : (k : Int) - 1 < (n : Int) := by omega
      have i6' : (k : Int) ≤ (n : Int) := by omega
      by_cases c3 : g k 5 = g (k - 1) 7
      case neg =>
        have b3 : (g k 5 != g (k - 1) 7) = true := bne_iff_ne.2 c3
        have HF : Hid (feasB g z en n n = false) := Lib.hid (vst_bad g z en n k hlt (by unfold vst; rw [hv, decide_eq_false hk0, decide_eq_false c3]; rfl))
        clear hv c3
        go_region_held3 (fun w' => w'.rangeAt X 0 (blkA g k).toList ∧ w'.cell? ⟨X, 5, none⟩ = some (.int .i64 (g k 5)) ∧ w'.cell? ⟨b, off + (k - 1) * 8 + 7, none⟩ = some (.int .i64 (g (k - 1) 7))) (first | (focus (((with_reducible apply keepF HL.out hk0' hlt) <;> (first | (focus ((repeat (first | with_reducible assumption | ((with_reducible apply live_new) <;> (first | with_reducible rfl | (focus (simp; done)))) | with_reducible apply live_alloc | with_reducible apply live_drew | with_reducible apply live_drewN | ((with_reducible apply live_set_other); (case hb => first | omega | (simp; done))) | with_reducible apply live_set_same | (focus (simp; done)))); done)) | (repeat' (first | with_reducible exact Below.refl _ _ | with_reducible refine Below.drew ?_ | with_reducible refine below_drewN ?_ _ | with_reducible refine Below.alloc ?_ ?_ _ | with_reducible refine Below.setCell ?_ ?_ _ | with_reducible refine Below.trans ?_ (Below.mono (by with_reducible assumption) ?_) | (simp; done) | (simp; omega) | omega)))); done)) | go_keep)
          ((go_at_call 16; (with_reducible refine (KV.out _).mono ?_); rintro e w1 ⟨rfl, hb1⟩; have z1 := hb1.size; (try simp at z1); have L1a := live_below hb1 (b := X) (by (repeat (first | with_reducible assumption | ((with_reducible apply live_new) <;> (first | with_reducible rfl | (focus (simp; done)))) | with_reducible apply live_alloc | with_reducible apply live_drew | with_reducible apply live_drewN | ((with_reducible apply live_set_other); (case hb => first | omega | (simp; done))) | with_reducible apply live_set_same | (focus (simp; done))))); obtain ⟨p1a, e1a, f1a⟩ := id L1a; clear e1a))
        all_goals (try go_wp2_with fail)
        all_goals go_ret
        all_goals refine ⟨ret_bool HF.out.symm, ?_⟩
        all_goals (repeat' (first | with_reducible exact Below.refl _ _ | with_reducible refine Below.drew ?_ | with_reducible refine below_drewN ?_ _ | with_reducible refine Below.alloc ?_ ?_ _ | with_reducible refine Below.setCell ?_ ?_ _ | with_reducible refine Below.trans ?_ (Below.mono (by with_reducible assumption) ?_) | (simp; done) | (simp; omega) | omega))
      have b3 : (g k 5 != g (k - 1) 7) = false := by simpa using c3
      have HA : Hid (allTo (vst g) (k + 1) = true) := Lib.hid (by show (_ && vst g k) = true; rw [HALL.out]; unfold vst; rw [hv, decide_eq_true c3]; simp)
      clear hv c3
      go_region_held3 (fun w' => w'.rangeAt X 0 (blkA g k).toList ∧ w'.cell? ⟨X, 5, none⟩ = some (.int .i64 (g k 5)) ∧ w'.cell? ⟨b, off + (k - 1) * 8 + 7, none⟩ = some (.int .i64 (g (k - 1) 7))) (first | (focus (((with_reducible apply keepF HL.out hk0' hlt) <;> (first | (focus ((repeat (first | with_reducible assumption | ((with_reducible apply live_new) <;> (first | with_reducible rfl | (focus (simp; done)))) | with_reducible apply live_alloc | with_reducible apply live_drew | with_reducible apply live_drewN | ((with_reducible apply live_set_other); (case hb => first | omega | (simp; done))) | with_reducible apply live_set_same | (focus (simp; done)))); done)) | (repeat' (first | with_reducible exact Below.refl _ _ | with_reducible refine Below.drew ?_ | with_reducible refine below_drewN ?_ _ | with_reducible refine Below.alloc ?_ ?_ _ | with_reducible refine Below.setCell ?_ ?_ _ | with_reducible refine Below.trans ?_ (Below.mono (by with_reducible assumption) ?_) | (simp; done) | (simp; omega) | omega)))); done)) | go_keep)
        ((go_at_call 16; (with_reducible refine (KV.out _).mono ?_); rintro e w1 ⟨rfl, hb1⟩; have z1 := hb1.size; (try simp at z1); have L1a := live_below hb1 (b := X) (by (repeat (first | with_reducible assumption | ((with_reducible apply live_new) <;> (first | with_reducible rfl | (focus (simp; done)))) | with_reducible apply live_alloc | with_reducible apply live_drew | with_reducible apply live_drewN | ((with_reducible apply live_set_other); (case hb => first | omega | (simp; done))) | with_reducible apply live_set_same | (focus (simp; done))))); obtain ⟨p1a, e1a, f1a⟩ := id L1a; clear e1a))
      rename_i hh; clear hh
      go_upto_region 11 with (fail)
      refine gen_world (fun wx => Live wx X (blkA g k) ∧ wx.ownsRow w.heap.size 3 1 u7 (k + 1) (listF (k + 1) (ch g)) ∧ Below w.heap.size w wx) ?_ ?_
      · exact ⟨L1a, owns_below (w := wx) HO.out (by (repeat' (first | with_reducible exact Below.refl _ _ | with_reducible refine Below.drew ?_ | with_reducible refine below_drewN ?_ _ | with_reducible refine Below.alloc ?_ ?_ _ | with_reducible refine Below.setCell ?_ ?_ _ | with_reducible refine Below.trans ?_ (Below.mono (by with_reducible assumption) ?_) | (simp; done) | (simp; omega) | omega))), by (repeat' (first | with_reducible exact Below.refl _ _ | with_reducible refine Below.drew ?_ | with_reducible refine below_drewN ?_ _ | with_reducible refine Below.alloc ?_ ?_ _ | with_reducible refine Below.setCell ?_ ?_ _ | with_reducible refine Below.trans ?_ (Below.mono (by with_reducible assumption) ?_) | (simp; done) | (simp; omega) | omega))⟩
      clear HO L1a hb
      rintro wy ⟨L, hown, hb⟩
      have p0 := L.1
      have hbz := hb.size
      have q7 := L.2.1 7
      rw [blkA_at g k 7 (by omega)] at q7
      go_wp2_with (at_builtin; refine wpList_append_own _ rfl _ _ 28 rfl w.heap.size 3 i0 (.int .i64 0) 1 8 Try.underlying28 hi hz0 hz1 hz2 rfl (by decide) _ _ _ rfl (hown.alloc _) ⟨wy.heap.size, 0, none⟩ 1 1 [.int .i64 (g k 7)] rfl rfl ?_ ?_ ?_ ?_ ?_ ?_; (· intro j u hj; match j, hj with | 0, hj => (simp at hj; subst hj; show World.cell? _ ⟨_, 0 + 0, none⟩ = _; rw [World.cell?_alloc_at _ _ _ _ (by simp)]; rfl)); (· intro u hu; simp at hu; subst hu; rfl); (· unfold maxLen; omega); (· omega); (· simp; omega); intro v' w1 hown' hgrow _)
      have hb1 : Below w.heap.size w w1 := Below.grown (by refine Below.trans hb ?_; (repeat' (first | with_reducible exact Below.refl _ _ | with_reducible refine Below.drew ?_ | with_reducible refine below_drewN ?_ _ | with_reducible refine Below.alloc ?_ ?_ _ | with_reducible refine Below.setCell ?_ ?_ _ | with_reducible refine Below.trans ?_ (Below.mono (by with_reducible assumption) ?_) | (simp; done) | (simp; omega) | omega))) hgrow (by simp; omega) (fun j hj => (hown.lt j hj).1)
      rw [show (.int .i64 (g k 7) : Value) = .int .i64 (ch g (k + 1)) by rw [HCH.out], ← listF_succ] at hown'
      clear hgrow hown
      go_wp2
      go_roundw
      case rel => exact ⟨k + 1, by go_num, by omega, HA.out, hown', hb1⟩
      case measure => first | (simp [intOf]; done) | (simp [intOf]; omega)
    · obtain rfl : n = k := by omega
      obtain ⟨SB, cap, rfl, _, _, _, hsb⟩ := owns_intS HO.out (by omega)
      have hs : ∀ k, k < n → bsnd g k = true := fun k hk => by
        have := (allTo_iff _ n).1 HALL.out k hk
        unfold vst at this
        rw [Bool.and_eq_true] at this
        exact (bval_in g k this.1).1
      have KC := Lib.hid (fun w h1 h2 h3 => ref44_choice g z (ch g) en (some ⟨b, off, none⟩) sc (some ⟨SB, 0, none⟩) n cl cc cap w (by omega) hn hs h1 h2 h3)
      rw [feas_ref g z en n h0 HALL.out] at KC
      have HSB := Lib.hid hsb
      clear hs hsb
      go_wp2_with (go_at_call 44; (with_reducible refine (KC.out _ ?_ ?_ ?_).mono ?_); (· exact blkS_below hb (Nat.le_refl _) HL.out); (· exact intS_below hb (Nat.le_refl _) HZ.out); (· exact HSB.out); rintro e w3 ⟨rfl, hb3⟩; have z3 := hb3.size; (try simp at z3))
      go_ret
      exact ⟨rfl, by (repeat' (first | with_reducible exact Below.refl _ _ | with_reducible refine Below.drew ?_ | with_reducible refine below_drewN ?_ _ | with_reducible refine Below.alloc ?_ ?_ _ | with_reducible refine Below.setCell ?_ ?_ _ | with_reducible refine Below.trans ?_ (Below.mono (by with_reducible assumption) ?_) | (simp; done) | (simp; omega) | omega))⟩
end Go.Proofs.Ytleohgnnbpicjaa
