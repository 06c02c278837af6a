/- What greatest of the reference of chapter 44 returns: numbers that obey all limits but at the ends, and are above every lower solution -/
import Derived.Deep.DeepCutAuto
import Derived.BigQuiet
import Derived.Deep.QuietTactic
import Derived.IntWalk
import Derived.Deep.RegionHeld3
import Derived.Deep.RegionWith
import Derived.RegionTactic
import Derived.BigRegion
import Derived.Test.YtleohgnnbpicjaaAhdFeasR
namespace Go.Proofs.Ytleohgnnbpicjaa
open Go.RowKit
set_option linter.unusedVariables false

attribute [local go_sem] cell_past1 cell_past2 cell_past3 cell_past4 froz_past1 froz_past2 froz_past3
attribute [local go_sem ↓] loadB_in

/-- A row of ints that is stored into: its first n cells. -/
def RowS (w : World) (b n : Nat) (s : Nat → Int) : Prop := b < w.heap.size ∧ (∀ i, i < n → w.cell? ⟨b, i, none⟩ = some (.int .i64 (s i))) ∧ ∀ o, w.frozen? ⟨b, o, none⟩ = false
theorem rowS_below {w w1 : World} {b n : Nat} {s : Nat → Int} (hb : Below w.heap.size w w1) (h : RowS w b n s) : RowS w1 b n s :=
  ⟨Nat.lt_of_lt_of_le h.1 hb.size, fun i hi => (hb.cell (p := ⟨b, i, none⟩) h.1).trans (h.2.1 i hi), fun o => (hb.frozen (p := ⟨b, o, none⟩) h.1).trans (h.2.2 o)⟩
theorem rowS_set {w : World} {b n : Nat} {s : Nat → Int} (h : RowS w b n s) (i : Nat) (v : Int) (hi : i < n) : RowS (w.setCell ⟨b, i, none⟩ (.int .i64 v)) b n (upd s i v) := by
  refine ⟨by simpa [World.setCell] using h.1, fun j hj => ?_, fun o => by rw [← h.2.2 o]; simp [go_sem]⟩
  by_cases e : j = i
  · subst e
    rw [World.cell?_setCell_same' w _ _ (by rw [h.2.1 j hj]; rfl)]
    simp [upd]
  · rw [World.cell?_setCell_other w _ _ _ (by intro h2; cases h2; exact e rfl), h.2.1 j hj]
    simp [upd, e]
theorem rowS_intS {w : World} {b n : Nat} {s : Nat → Int} (h : RowS w b n s) : IntS w (some ⟨b, 0, none⟩) n s := fun h0 => ⟨b, 0, rfl, h.1, fun k hk => by rw [Nat.zero_add]; exact h.2.1 k hk⟩
theorem owns_rowS {w : World} {base n : Nat} {v : Value} {s : Nat → Int} (h : w.ownsRow base 3 1 v n (listF n s)) (hn : 0 < n) : ∃ g cap, v = .slice (some ⟨g, 0, none⟩) n cap ∧ base ≤ g ∧ n ≤ cap ∧ cap ≤ maxLen ∧ RowS w g n s := by
  obtain ⟨h1, h2⟩ := h
  rcases h2 with ⟨_, h3⟩ | ⟨g, cap, cur, hv, hg, hh, hnc, hm, hsz, htk⟩
  · omega
  · refine ⟨g, cap, hv, hg, hnc, hm, (Array.getElem?_eq_some_iff.1 hh).1, fun k hk => ?_, fun o => by simp [World.frozen?, hh]⟩
    have h4 := listF_at n s k hk
    rw [← htk, List.getElem?_take, if_pos (by omega)] at h4
    simp only [World.cell?, hh]
    simpa using h4

/- plain: the numbers while they are lowered -/
def sumN (f : Nat → Nat) : Nat → Nat
  | 0 => 0
  | k + 1 => sumN f k + f k
theorem sumN_congr {f h : Nat → Nat} : ∀ n, (∀ i, i < n → f i = h i) → sumN f n = sumN h n
  | 0, _ => rfl
  | n + 1, e => by rw [sumN, sumN, sumN_congr n (fun i hi => e i (by omega)), e n (by omega)]
theorem sumN_less {f h : Nat → Nat} (k : Nat) (he : ∀ i, i ≠ k → f i = h i) (hk : f k < h k) : ∀ n, k < n → sumN f n < sumN h n
  | 0, hn => absurd hn (by omega)
  | n + 1, hn => by
    rw [sumN, sumN]
    by_cases e : k = n
    · subst e
      rw [sumN_congr k (fun i hi => he i (by omega))]
      omega
    · have := sumN_less k he hk n (by omega)
      rw [he n (by omega)]
      omega
def MU (T s : Nat → Int) (n : Nat) : Nat := sumN (fun i => (s i - T i).toNat) n
theorem MU_upd (T s : Nat → Int) (n k : Nat) (v : Int) (hk : k < n) (hT : T k ≤ v) (hv : v < s k) : MU T (upd s k v) n < MU T s n := by
  refine sumN_less k (fun i hi => ?_) ?_ n hk
  · unfold upd; rw [if_neg hi]
  · show (upd s k v k - T k).toNat < (s k - T k).toNat
    unfold upd; rw [if_pos rfl]; omega
def cellI (w : World) (b i : Nat) : Int := match w.cell? ⟨b, i, none⟩ with | some (.int _ z) => z | _ => 0
def mu (T : Nat → Int) (b n : Nat) (w : World) : Nat := MU T (cellI w b) n
theorem mu_row {w : World} {b n : Nat} {s : Nat → Int} (T : Nat → Int) (h : RowS w b n s) : mu T b n w = MU T s n := sumN_congr n (fun i hi => by unfold cellI; rw [h.2.1 i hi])

def rcap (g : Nat → Nat → Int) (z : Nat → Int) (i : Nat) : Int := min (min (z i) (g (i - 1) 6)) (g i 6)
def rstart (g : Nat → Nat → Int) (z : Nat → Int) (en : Int) (n i : Nat) : Int := if i = 0 then en else if i < n then rcap g z i else 0
/-- What holds of the numbers all along. -/
def RInv (g : Nat → Nat → Int) (z : Nat → Int) (en : Int) (n : Nat) (T s : Nat → Int) : Prop := s 0 = en ∧ s n = 0 ∧ (∀ i, 1 ≤ i → i < n → s i ≤ rcap g z i) ∧ ∀ i, i ≤ n → T i ≤ s i
def rmost (g : Nat → Nat → Int) (s : Nat → Int) (i : Nat) : Int := min (s (i - 1) + rch g (i - 1)) (s (i + 1) + rch g i)
def RFix (g : Nat → Nat → Int) (n : Nat) (s : Nat → Int) : Prop := ∀ i, 1 ≤ i → i < n → s i ≤ rmost g s i
theorem rinv_start (g : Nat → Nat → Int) (z : Nat → Int) (en : Int) (n : Nat) (T : Nat → Int) (h0 : 0 < n) (hT : LowS g z en n T) : RInv g z en n T (rstart g z en n) := by
  refine ⟨rfl, by unfold rstart; rw [if_neg (by omega), if_neg (by omega)], fun i h1 hi => by unfold rstart; rw [if_neg (by omega), if_pos hi]; exact Int.le_refl _, fun i hi => ?_⟩
  unfold rstart
  by_cases e : i = 0
  · subst e; rw [if_pos rfl]; exact hT.1
  · rw [if_neg e]
    by_cases h : i < n
    · rw [if_pos h]
      have := hT.2.2.1 i (by omega) h
      unfold rcap; omega
    · rw [if_neg h, show i = n by omega]; exact hT.2.1
theorem rmost_T (g : Nat → Nat → Int) (z : Nat → Int) (en : Int) (n : Nat) (T s : Nat → Int) (hT : LowS g z en n T) (h : RInv g z en n T s) (i : Nat) (h1 : 1 ≤ i) (hi : i < n) : T i ≤ rmost g s i := by
  have a := h.2.2.2 (i - 1) (by omega)
  have b := h.2.2.2 (i + 1) (by omega)
  have c := (hT.2.2.2 (i - 1) (by omega)).1
  have d := (hT.2.2.2 i hi).2
  rw [show i - 1 + 1 = i by omega] at c
  unfold rmost
  omega
theorem rinv_upd (g : Nat → Nat → Int) (z : Nat → Int) (en : Int) (n : Nat) (T s : Nat → Int) (hT : LowS g z en n T) (h : RInv g z en n T s) (i : Nat) (h1 : 1 ≤ i) (hi : i < n) (hlt : rmost g s i < s i) : RInv g z en n T (upd s i (rmost g s i)) := by
  have hm := rmost_T g z en n T s hT h i h1 hi
  refine ⟨by unfold upd; rw [if_neg (by omega)]; exact h.1, by unfold upd; rw [if_neg (by omega)]; exact h.2.1, fun j hj1 hj => ?_, fun j hj => ?_⟩
  · unfold upd
    by_cases e : j = i
    · subst e; rw [if_pos rfl]; have := h.2.2.1 j hj1 hj; omega
    · rw [if_neg e]; exact h.2.2.1 j hj1 hj
  · unfold upd
    by_cases e : j = i
    · subst e; rw [if_pos rfl]; exact hm
    · rw [if_neg e]; exact h.2.2.2 j hj
theorem rinv_in (g : Nat → Nat → Int) (z : Nat → Int) (en : Int) (n : Nat) (T s : Nat → Int) (h : RInv g z en n T s) (hT : ∀ i, -9223372036854775808 ≤ T i) (hs : ∀ k, k < n → bsnd g k = true) (he : en ≤ 1099511627776) (i : Nat) (hi : i ≤ n) : -9223372036854775808 ≤ s i ∧ s i ≤ 1099511627776 := by
  have h1 := h.2.2.2 i hi
  have h2 := hT i
  refine ⟨by omega, ?_⟩
  by_cases e : i = 0
  · subst e; rw [h.1]; exact he
  · by_cases e2 : i = n
    · subst e2; rw [h.2.1]; omega
    · have h3 := h.2.2.1 i (by omega) (by omega)
      have h4 := (bsnd_in g i (hs i (by omega))).2.1
      unfold rcap at h3
      omega
def RPost (g : Nat → Nat → Int) (z : Nat → Int) (en : Int) (n : Nat) (T : Nat → Int) (w : World) (e : Ending) (w' : World) : Prop :=
  ∃ (SB cap : Nat) (s : Nat → Int), e = .returned (.slice (some ⟨SB, 0, none⟩) (n + 1) cap) ∧ IntS w' (some ⟨SB, 0, none⟩) (n + 1) s ∧ SB < w'.heap.size ∧ w.heap.size ≤ SB ∧ RInv g z en n T s ∧ RFix g n s ∧ Below w.heap.size w w'

def B1Rel (g : Nat → Nat → Int) (z : Nat → Int) (en : Int) (n : Nat) (w : World) (s8 s9 : Value) (wx : World) : Prop :=
  ∃ k : Nat, s9 = .int .i64 k ∧ 1 ≤ k ∧ k ≤ n ∧ wx.ownsRow w.heap.size 3 1 s8 k (listF k (rstart g z en n)) ∧ Below w.heap.size w wx
def ORel (g : Nat → Nat → Int) (z : Nat → Int) (en : Int) (n SB : Nat) (T : Nat → Int) (w : World) (s10 : Value) (wx : World) : Prop :=
  ∃ (A : Bool) (s : Nat → Int), s10 = .bool A ∧ RowS wx SB (n + 1) s ∧ RInv g z en n T s ∧ (A = false → RFix g n s) ∧ Below w.heap.size w wx
def IRel (g : Nat → Nat → Int) (z : Nat → Int) (en : Int) (n SB M : Nat) (T : Nat → Int) (w : World) (s10 s11 : Value) (wx : World) : Prop :=
  ∃ (A : Bool) (k : Nat) (s : Nat → Int), s10 = .bool A ∧ s11 = .int .i64 k ∧ 1 ≤ k ∧ k ≤ n ∧ RowS wx SB (n + 1) s ∧ RInv g z en n T s ∧ (A = false → MU T s (n + 1) = M ∧ ∀ i, 1 ≤ i → i < k → s i ≤ rmost g s i) ∧ (A = true → MU T s (n + 1) < M) ∧ Below w.heap.size w wx
def boolN (v : Value) : Nat := match v with | .bool true => 1 | _ => 0
theorem rowS_drew {w : World} {b n : Nat} {s : Nat → Int} (h : RowS w b n s) : RowS w.drew b n s := h
theorem keepR6 {w wx : World} {b off b' off' n : Nat} {g : Nat → Nat → Int} {z : Nat → Int} {k : Nat} (hl : BlkS w (some ⟨b, off, none⟩) n g) (hz : IntS w (some ⟨b', off', none⟩) n z) (hk1 : 1 ≤ k) (hk : k < n) (hb : Below w.heap.size w wx) :
    wx.cell? ⟨b', off' + k, none⟩ = some (.int .i64 (z k)) ∧ wx.cell? ⟨b, off + (k - 1) * 8 + 6, none⟩ = some (.int .i64 (g (k - 1) 6)) ∧ wx.cell? ⟨b, off + k * 8 + 6, none⟩ = some (.int .i64 (g k 6)) :=
  have hl' := blkS_below hb (Nat.le_refl _) hl
  have hz' := intS_below hb (Nat.le_refl _) hz
  ⟨intS_cell hz' k hk, blkS_cell hl' _ _ (by omega) (by omega), blkS_cell hl' _ _ hk (by omega)⟩
theorem keepR14 {w wx : World} {b off n SB : Nat} {g : Nat → Nat → Int} {k : Nat} {s : Nat → Int} (hl : BlkS w (some ⟨b, off, none⟩) n g) (hk1 : 1 ≤ k) (hk : k < n) (hb : Below w.heap.size w wx) (h : RowS wx SB (n + 1) s) :
    wx.rangeAt b (off + (k - 1) * 8) (blkA g (k - 1)).toList ∧ wx.rangeAt b (off + k * 8) (blkA g k).toList ∧ wx.cell? ⟨SB, k - 1, none⟩ = some (.int .i64 (s (k - 1))) ∧ wx.cell? ⟨SB, k + 1, none⟩ = some (.int .i64 (s (k + 1))) :=
  have hl' := blkS_below hb (Nat.le_refl _) hl
  ⟨blkS_rng hl' _ (by omega), blkS_rng hl' k hk, h.2.1 _ (by omega), h.2.1 _ (by omega)⟩

set_option maxRecDepth 100000 in
set_option maxHeartbeats 8000000 in
theorem ref44_greatest (g : Nat → Nat → Int) (z : Nat → Int) (en : Int) (T : Nat → Int) (sl sc : Option Addr) (n cl cc : Nat) (w : World) (hs : ∀ k, k < n → bsnd g k = true) (hT : LowS g z en n T) (hTi : ∀ i, -9223372036854775808 ≤ T i) (h0 : 0 < n) (hn : n ≤ 1000000) (he1 : en ≤ 1099511627776) (hl : BlkS w sl n g) (hz : IntS w sc n z) :
    Calls Try.prog 46 #[.slice sl n cl, .slice sc n cc, .int .i64 en] w (RPost g z en n T w) := by
  obtain ⟨i0, hi, hz0, hz1, hz2⟩ := info_parts int_info2
  obtain ⟨b, off, rfl, hbl, _⟩ := hl h0
  obtain ⟨b', off', rfl, hbl', _⟩ := hz h0
  have HL := Lib.hid hl
  have HZ := Lib.hid hz
  have HS := Lib.hid hs
  have HT := Lib.hid hT
  have HTI := Lib.hid hTi
  clear hl hz hs hT hTi
  have hm2 := @run_min2 Try.prog
  have hm3 := @run_min3' Try.prog
  go_enter Try.func46, Try.ntmps46
  go_upto_region 3 with (fail)
  refine gen_world (fun wx => wx.ownsRow w.heap.size 3 1 (.slice (some ⟨w.heap.size, 0, none⟩) 1 1) 1 (listF 1 (rstart g z en n)) ∧ Below w.heap.size w wx) ?_ ?_
  · exact ⟨World.ownsRow_lit w #[.int .i64 en] 1 (Nat.le_refl _) (by unfold maxLen; omega) rfl, by (repeat' (first | with_reducible exact Below.refl _ _ | with_reducible refine Below.drew ?_ | with_reducible refine below_drewN ?_ _ | with_reducible refine Below.alloc ?_ ?_ _ | with_reducible refine Below.setCell ?_ ?_ _ | with_reducible refine Below.trans ?_ (Below.mono (by with_reducible assumption) ?_) | (simp; done) | (simp; omega) | omega))⟩
  rintro wx ⟨hown, hb⟩
  go_wp2_with fail
  go_loopw [8, 9] (B1Rel g z en n w) (fun _ i _ => n - (intOf i).toNat)
  case atStart => exact ⟨1, rfl, by omega, by omega, hown, hb⟩
  case round =>
    obtain ⟨k, rfl, hk1, hk, hown, hb⟩ := hrel
    have hbs := hb.size
    have HO := Lib.hid hown
    clear hown
    by_cases hlt : k < n
    · have j1 : (k : Int) < (n : Int) := by omega
      have i3 : IntKind.i64.wrap ((k : Int) - 1) = (k : Int) - 1 := IntWalk.i64_in _ (by omega)
      have i4 : ((k : Int) - 1).toNat = k - 1 := by omega
      have i5 : 0 ≤ (k : Int) - 1 := by omega
      have i5' : (1 : Int) ≤ (k : Int) := by omega
      have i6 : (k : Int) - 1 < (n : Int) := by omega
      have i6' : (k : Int) ≤ (n : Int) := by omega
      have HV : Hid (rstart g z en n k = min (z k) (min (g (k - 1) 6) (g k 6))) := Lib.hid (by unfold rstart rcap; rw [if_neg (by omega), if_pos hlt]; omega)
      go_upto_region 6 with (fail)
      refine wp_region_noPanic ?_
      refine wp_region_held_drew (S := (fun w' => w'.cell? ⟨b', off' + k, none⟩ = some (.int .i64 (z k)) ∧ w'.cell? ⟨b, off + (k - 1) * 8 + 6, none⟩ = some (.int .i64 (g (k - 1) 6)) ∧ w'.cell? ⟨b, off + k * 8 + 6, none⟩ = some (.int .i64 (g k 6)))) (by kernel_rfl) ?_ (fun hHeld => ?_)
      · (try dsimp only); (focus (((with_reducible apply keepR6 HL.out HZ.out hk1 hlt) <;> (repeat' (first | with_reducible exact Below.refl _ _ | with_reducible refine Below.drew ?_ | with_reducible refine below_drewN ?_ _ | with_reducible refine Below.alloc ?_ ?_ _ | with_reducible refine Below.setCell ?_ ?_ _ | with_reducible refine Below.trans ?_ (Below.mono (by with_reducible assumption) ?_) | (simp; done) | (simp; omega) | omega))); done))
      refine wpAnyH_take (i := 0) (oi := ?z1oi) (v := ?z1v) ?z1hi (by kernel_rfl) (by kernel_rfl) (by kernel_rfl) (fun _ _ _ h => h) (Or.inl ⟨?z1hw, ?z1hy⟩) hHeld ?z1rest
      case z1hi => (simp only [List.getElem?_toArray, List.getElem?_cons_zero]; exact rfl)
      case z1hw => rfl
      case z1hy => (intro w hSw; (try dsimp only at hSw); go_simp; (try with_reducible rfl))
      (try simp only [Act.put, List.setIfInBounds_toArray, List.set_cons_zero, List.set_cons_succ])
      refine wpAnyH_take (i := 1) (oi := ?z2oi) (v := ?z2v) ?z2hi (by kernel_rfl) (by kernel_rfl) (by kernel_rfl) (fun _ _ _ h => h) (Or.inl ⟨?z2hw, ?z2hy⟩) hHeld ?z2rest
      case z2hi => (simp only [List.getElem?_toArray, List.getElem?_cons_succ, List.getElem?_cons_zero]; exact rfl)
      case z2hw => rfl
      case z2hy => (intro w hSw; (try dsimp only at hSw); go_simp; (try with_reducible rfl))
      (try simp only [Act.put, List.setIfInBounds_toArray, List.set_cons_zero, List.set_cons_succ])
      refine wpAnyH_take (i := 2) (oi := ?z3oi) (v := ?z3v) ?z3hi (by kernel_rfl) (by kernel_rfl) (by kernel_rfl) (fun _ _ _ h => h) (Or.inl ⟨?z3hw, ?z3hy⟩) hHeld ?z3rest
      case z3hi => (simp only [List.getElem?_toArray, List.getElem?_cons_succ, List.getElem?_cons_zero]; exact rfl)
      case z3hw => rfl
      case z3hy => (intro w hSw; (try dsimp only at hSw); go_simp; (try with_reducible rfl))
      (try simp only [Act.put, List.setIfInBounds_toArray, List.set_cons_zero, List.set_cons_succ])
      refine wpAnyH_take (i := 3) (oi := ?z4oi) (v := ?z4v) ?z4hi (by kernel_rfl) (by kernel_rfl) (by kernel_rfl) (fun _ _ _ h => h) (Or.inl ⟨?z4hw, ?z4hy⟩) hHeld ?z4rest
      case z4hi => (simp only [List.getElem?_toArray, List.getElem?_cons_succ, List.getElem?_cons_zero]; exact rfl)
      case z4hw => rfl
      case z4hy => (intro w hSw; (try dsimp only at hSw); go_simp; (try with_reducible rfl))
      (try simp only [Act.put, List.setIfInBounds_toArray, List.set_cons_zero, List.set_cons_succ])
      refine wpAnyH_take (i := 4) (oi := ?z5oi) (v := ?z5v) ?z5hi (by kernel_rfl) (by kernel_rfl) (by kernel_rfl) (fun _ _ _ h => h) (Or.inl ⟨?z5hw, ?z5hy⟩) hHeld ?z5rest
      case z5hi => (simp only [List.getElem?_toArray, List.getElem?_cons_succ, List.getElem?_cons_zero]; exact rfl)
      case z5hw => rfl
      case z5hy => (intro w hSw; (try dsimp only at hSw); go_simp; (try with_reducible rfl))
      (try simp only [Act.put, List.setIfInBounds_toArray, List.set_cons_zero, List.set_cons_succ])
      refine wpAnyH_take (i := 5) (oi := ?z6oi) (v := ?z6v) ?z6hi (by kernel_rfl) (by kernel_rfl) (by kernel_rfl) (fun _ _ _ h => h) (Or.inl ⟨?z6hw, ?z6hy⟩) hHeld ?z6rest
      case z6hi => (simp only [List.getElem?_toArray, List.getElem?_cons_succ, List.getElem?_cons_zero]; exact rfl)
      case z6hw => rfl
      case z6hy => (intro w hSw; (try dsimp only at hSw); go_simp; (try with_reducible rfl))
      (try simp only [Act.put, List.setIfInBounds_toArray, List.set_cons_zero, List.set_cons_succ])
      refine wpAnyH_take (i := 6) (oi := ?z7oi) (v := ?z7v) ?z7hi (by kernel_rfl) (by kernel_rfl) (by kernel_rfl) (fun _ _ _ h => h) (Or.inl ⟨?z7hw, ?z7hy⟩) hHeld ?z7rest
      case z7hi => (simp only [List.getElem?_toArray, List.getElem?_cons_succ, List.getElem?_cons_zero]; exact rfl)
      case z7hw => rfl
      case z7hy => (intro w hSw; (try dsimp only at hSw); go_simp; (try with_reducible rfl))
      (try simp only [Act.put, List.setIfInBounds_toArray, List.set_cons_zero, List.set_cons_succ])
      refine wpAnyH_take (i := 7) (oi := ?z8oi) (v := ?z8v) ?z8hi (by kernel_rfl) (by kernel_rfl) (by kernel_rfl) (fun _ _ _ h => h) (Or.inl ⟨?z8hw, ?z8hy⟩) hHeld ?z8rest
      case z8hi => (simp only [List.getElem?_toArray, List.getElem?_cons_succ, List.getElem?_cons_zero]; exact rfl)
      case z8hw => rfl
      case z8hy => (intro w hSw; (try dsimp only at hSw); go_simp; (try with_reducible rfl))
      (try simp only [Act.put, List.setIfInBounds_toArray, List.set_cons_zero, List.set_cons_succ])
      refine wpAnyH_take (i := 8) (oi := ?z9oi) (v := ?z9v) ?z9hi (by kernel_rfl) (by kernel_rfl) (by kernel_rfl) (fun _ _ _ h => h) (Or.inl ⟨?z9hw, ?z9hy⟩) hHeld ?z9rest
      case z9hi => (simp only [List.getElem?_toArray, List.getElem?_cons_succ, List.getElem?_cons_zero]; exact rfl)
      case z9hw => rfl
      case z9hy => (intro w hSw; (try dsimp only at hSw); go_simp; (try with_reducible rfl))
      (try simp only [Act.put, List.setIfInBounds_toArray, List.set_cons_zero, List.set_cons_succ])
      refine wpAnyH_take (i := 9) (oi := ?z10oi) (v := ?z10v) ?z10hi (by kernel_rfl) (by kernel_rfl) (by kernel_rfl) (fun _ _ _ h => h) (Or.inl ⟨?z10hw, ?z10hy⟩) hHeld ?z10rest
      case z10hi => (simp only [List.getElem?_toArray, List.getElem?_cons_succ, List.getElem?_cons_zero]; exact rfl)
      case z10hw => rfl
      case z10hy => (intro w hSw; (try dsimp only at hSw); go_simp; (try with_reducible rfl))
      (try simp only [Act.put, List.setIfInBounds_toArray, List.set_cons_zero, List.set_cons_succ])
      refine wpAnyH_take (i := 10) (oi := ?z11oi) (v := ?z11v) ?z11hi (by kernel_rfl) (by kernel_rfl) (by kernel_rfl) (fun _ _ _ h => h) (Or.inl ⟨?z11hw, ?z11hy⟩) hHeld ?z11rest
      case z11hi => (simp only [List.getElem?_toArray, List.getElem?_cons_succ, List.getElem?_cons_zero]; exact rfl)
      case z11hw => rfl
      case z11hy => (intro w hSw; (try dsimp only at hSw); go_simp; (try with_reducible rfl))
      (try simp only [Act.put, List.setIfInBounds_toArray, List.set_cons_zero, List.set_cons_succ])
      refine wpAnyH_take (i := 11) (oi := ?z12oi) (v := ?z12v) ?z12hi (by kernel_rfl) (by kernel_rfl) (by kernel_rfl) (fun _ _ _ h => h) (Or.inl ⟨?z12hw, ?z12hy⟩) hHeld ?z12rest
      case z12hi => (simp only [List.getElem?_toArray, List.getElem?_cons_succ, List.getElem?_cons_zero]; exact rfl)
      case z12hw => rfl
      case z12hy => (intro w hSw; (try dsimp only at hSw); go_simp; (try with_reducible rfl))
      (try simp only [Act.put, List.setIfInBounds_toArray, List.set_cons_zero, List.set_cons_succ])
      refine wpAnyH_take (i := 12) (oi := ?z13oi) (v := ?z13v) ?z13hi (by kernel_rfl) (by kernel_rfl) (by kernel_rfl) (fun _ _ _ h => h) (Or.inl ⟨?z13hw, ?z13hy⟩) hHeld ?z13rest
      case z13hi => (simp only [List.getElem?_toArray, List.getElem?_cons_succ, List.getElem?_cons_zero]; exact rfl)
      case z13hw => rfl
      case z13hy => (intro w hSw; (try dsimp only at hSw); go_simp; (try with_reducible rfl))
      (try simp only [Act.put, List.setIfInBounds_toArray, List.set_cons_zero, List.set_cons_succ])
      refine wpAnyH_take (i := 13) (oi := ?z14oi) (v := ?z14v) ?z14hi (by kernel_rfl) (by kernel_rfl) (by kernel_rfl) (fun _ _ _ h => h) (Or.inl ⟨?z14hw, ?z14hy⟩) hHeld ?z14rest
      case z14hi => (simp only [List.getElem?_toArray, List.getElem?_cons_succ, List.getElem?_cons_zero]; exact rfl)
      case z14hw => rfl
      case z14hy => (intro w hSw; (try dsimp only at hSw); go_simp; (try with_reducible rfl))
      (try simp only [Act.put, List.setIfInBounds_toArray, List.set_cons_zero, List.set_cons_succ])
      refine wpAnyH_take (i := 14) (oi := ?z15oi) (v := ?z15v) ?z15hi (by kernel_rfl) (by kernel_rfl) (by kernel_rfl) (fun _ _ _ h => h) (Or.inl ⟨?z15hw, ?z15hy⟩) hHeld ?z15rest
      case z15hi => (simp only [List.getElem?_toArray, List.getElem?_cons_succ, List.getElem?_cons_zero]; exact rfl)
      case z15hw => rfl
      case z15hy => (intro w hSw; (try dsimp only at hSw); go_simp; (try with_reducible rfl))
      (try simp only [Act.put, List.setIfInBounds_toArray, List.set_cons_zero, List.set_cons_succ])
      refine wpAnyH_take (i := 15) (oi := ?z16oi) (v := ?z16v) ?z16hi (by kernel_rfl) (by kernel_rfl) (by kernel_rfl) (fun _ _ _ h => h) (Or.inl ⟨?z16hw, ?z16hy⟩) hHeld ?z16rest
      case z16hi => (simp only [List.getElem?_toArray, List.getElem?_cons_succ, List.getElem?_cons_zero]; exact rfl)
      case z16hw => rfl
      case z16hy => (intro w hSw; (try dsimp only at hSw); go_simp; (try with_reducible rfl))
      (try simp only [Act.put, List.setIfInBounds_toArray, List.set_cons_zero, List.set_cons_succ])
      refine wpAnyH_take (i := 16) (oi := ?z17oi) (v := ?z17v) ?z17hi (by kernel_rfl) (by kernel_rfl) (by kernel_rfl) (fun _ _ _ h => h) (Or.inl ⟨?z17hw, ?z17hy⟩) hHeld ?z17rest
      case z17hi => (simp only [List.getElem?_toArray, List.getElem?_cons_succ, List.getElem?_cons_zero]; exact rfl)
      case z17hw => rfl
      case z17hy => (intro w hSw; (try dsimp only at hSw); go_simp; (try with_reducible rfl))
      (try simp only [Act.put, List.setIfInBounds_toArray, List.set_cons_zero, List.set_cons_succ])
      refine wpAnyH_ready (rs := [17]) (by kernel_rfl) (by simp) ?_
      refine AllReadyH.cons (o := ?z18oi) ?z18hi (fun K hK => ?_) AllReadyH.nil
      case z18hi => (simp only [List.getElem?_toArray, List.getElem?_cons_succ, List.getElem?_cons_zero]; exact rfl)
      go_simp
      skip
      refine hK.out _ _ ?_ (fun hHeld => ?_)
      · (try dsimp only); (focus (((with_reducible apply keepR6 HL.out HZ.out hk1 hlt) <;> (repeat' (first | with_reducible exact Below.refl _ _ | with_reducible refine Below.drew ?_ | with_reducible refine below_drewN ?_ _ | with_reducible refine Below.alloc ?_ ?_ _ | with_reducible refine Below.setCell ?_ ?_ _ | with_reducible refine Below.trans ?_ (Below.mono (by with_reducible assumption) ?_) | (simp; done) | (simp; omega) | omega))); done))
      clear hK K
      (try simp only [Act.put, List.setIfInBounds_toArray, List.set_cons_zero, List.set_cons_succ])
      refine wpAnyH_ready (rs := [18]) (by kernel_rfl) (by simp) ?_
      refine AllReadyH.cons (o := ?z19oi) ?z19hi (fun K hK => ?_) AllReadyH.nil
      case z19hi => (simp only [List.getElem?_toArray, List.getElem?_cons_succ, List.getElem?_cons_zero]; exact rfl)
      (rw [if_pos (by rfl)]; refine wp_append_own _ _ _ 28 rfl w.heap.size 3 i0 (.int .i64 0) 1 8 Try.underlying28 hi hz0 hz1 hz2 rfl (by decide) _ _ _ rfl (World.ownsRow.drew (World.ownsRow.alloc HO.out _)) ⟨wr.heap.size, 0, none⟩ 1 1 [.int .i64 (min (z k) (min (g (k - 1) 6) (g k 6)))] rfl rfl ?_ ?_ ?_ ?_ ?_ ?_; (· intro j u hj; match j, hj with | 0, hj => (simp at hj; subst hj; exact (World.cell?_alloc_at _ _ _ _ (by simp)).trans rfl)); (· intro u hu; simp at hu; subst hu; rfl); (· unfold maxLen; omega); (· omega); (· simp; omega); intro v' w1 hown' hgrow _; have hb1 : Below w.heap.size w w1 := Below.grown (by refine Below.trans hb ?_; (repeat' (first | with_reducible exact Below.refl _ _ | with_reducible refine Below.drew ?_ | with_reducible refine below_drewN ?_ _ | with_reducible refine Below.alloc ?_ ?_ _ | with_reducible refine Below.setCell ?_ ?_ _ | with_reducible refine Below.trans ?_ (Below.mono (by with_reducible assumption) ?_) | (simp; done) | (simp; omega) | omega))) hgrow (by simp; omega) (fun j hj => (HO.out.lt j hj).1))
      refine hK.out _ _ ?_ (fun hHeld => ?_)
      · (try dsimp only); (focus (((with_reducible apply keepR6 HL.out HZ.out hk1 hlt) <;> (repeat' (first | with_reducible exact Below.refl _ _ | with_reducible refine Below.drew ?_ | with_reducible refine below_drewN ?_ _ | with_reducible refine Below.alloc ?_ ?_ _ | with_reducible refine Below.setCell ?_ ?_ _ | with_reducible refine Below.trans ?_ (Below.mono (by with_reducible assumption) ?_) | (simp; done) | (simp; omega) | omega))); done))
      clear hK K
      (try simp only [Act.put, List.setIfInBounds_toArray, List.set_cons_zero, List.set_cons_succ])
      refine wpAnyH_take (i := 19) (oi := ?z20oi) (v := ?z20v) ?z20hi (by kernel_rfl) (by kernel_rfl) (by kernel_rfl) (fun _ _ _ h => h) (Or.inl ⟨?z20hw, ?z20hy⟩) hHeld ?z20rest
      case z20hi => (simp only [List.getElem?_toArray, List.getElem?_cons_succ, List.getElem?_cons_zero]; exact rfl)
      case z20hw => rfl
      case z20hy => (intro w hSw; (try dsimp only at hSw); go_simp; (try with_reducible rfl))
      (try simp only [Act.put, List.setIfInBounds_toArray, List.set_cons_zero, List.set_cons_succ])
      refine wpAnyH_done (by kernel_rfl) ?_ _
      refine NoPanic.normal ?_
      rw [← HV.out, ← listF_succ] at hown'
      clear hgrow
      go_wp2_with fail
      go_roundw
      case rel => exact ⟨k + 1, by go_num, by omega, by omega, hown', hb1⟩
      case measure => first | (simp [intOf]; done) | (simp [intOf]; omega)
    · obtain rfl : n = k := by omega
      have HV : Hid (rstart g z en n n = 0) := Lib.hid (by unfold rstart; rw [if_neg (by omega), if_neg (by omega)])
      go_upto_region 8 with (at_builtin; refine wpList_append_own _ rfl _ _ 28 rfl w.heap.size 3 i0 (.int .i64 0) 1 8 Try.underlying28 hi hz0 hz1 hz2 rfl (by decide) _ _ _ rfl (HO.out.alloc _) ⟨wr.heap.size, 0, none⟩ 1 1 [.int .i64 0] rfl rfl ?_ ?_ ?_ ?_ ?_ ?_; (· intro j u hj; match j, hj with | 0, hj => (simp at hj; subst hj; show World.cell? _ ⟨_, 0 + 0, none⟩ = _; rw [World.cell?_alloc_at _ _ _ _ (by simp)]; rfl)); (· intro u hu; simp at hu; subst hu; rfl); (· unfold maxLen; omega); (· omega); (· simp; omega); intro v' w1 hown' hgrow _; have hb1 : Below w.heap.size w w1 := Below.grown (by refine Below.trans hb ?_; (repeat' (first | with_reducible exact Below.refl _ _ | with_reducible refine Below.drew ?_ | with_reducible refine below_drewN ?_ _ | with_reducible refine Below.alloc ?_ ?_ _ | with_reducible refine Below.setCell ?_ ?_ _ | with_reducible refine Below.trans ?_ (Below.mono (by with_reducible assumption) ?_) | (simp; done) | (simp; omega) | omega))) hgrow (by simp; omega) (fun j hj => (HO.out.lt j hj).1))
      rw [← HV.out, ← listF_succ] at hown'
      clear hgrow
      obtain ⟨SB, cap, rfl, hSB, hcap, hcap2, hrow⟩ := owns_rowS hown' (by omega)
      clear hown' HO hb hbs
      have hinv := rinv_start g z en n T h0 HT.out
      go_wp2_with fail
      go_loopw [10] (ORel g z en n SB T w) (fun a wx => 2 * mu T SB (n + 1) wx + boolN a)
      case atStart => exact ⟨true, _, rfl, hrow, hinv, (fun h => by cases h), hb1⟩
      case round =>
        clear hrow hinv hb1
        obtain ⟨A, s', rfl, hrow, hinv, hfix, hb⟩ := hrel
        have hbs := hb.size
        cases A
        · go_wp2_with fail
          go_ret
          exact ⟨SB, cap, s', rfl, rowS_intS hrow, hrow.1, hSB, hinv, hfix (by simp), hb⟩
        · clear hfix
          have HM0 := Lib.hid (mu_row T hrow)
          go_wp2_with fail
          go_loopw [10, 11] (IRel g z en n SB (MU T s' (n + 1)) T w) (fun _ i _ => n - (intOf i).toNat)
          case atStart => exact ⟨false, 1, s', rfl, rfl, by omega, by omega, hrow, hinv, fun _ => ⟨rfl, (fun i h1 hi => absurd hi (by omega))⟩, (fun h => by cases h), hb⟩
          case round =>
            clear hrow hinv hb hbs
            obtain ⟨A, k, s, rfl, rfl, hk1, hk, hrow, hinv, hF, hT2, hb⟩ := hrel
            have hbs := hb.size
            by_cases hlt : k < n
            · have j1 : (k : Int) < (n : Int) := by omega
              have i3 : IntKind.i64.wrap ((k : Int) - 1) = (k : Int) - 1 := IntWalk.i64_in _ (by omega)
              have i4 : ((k : Int) - 1).toNat = k - 1 := by omega
              have i5 : 0 ≤ (k : Int) - 1 := by omega
              have i5' : (1 : Int) ≤ (k : Int) := by omega
              have i6 : (k : Int) - 1 < (n : Int) := by omega
              have i6' : (k : Int) ≤ (n : Int) := by omega
              have i6a : (k : Int) < (n : Int) + 1 := by omega
              have i6b : (k : Int) - 1 < (n : Int) + 1 := by omega
              have i7 : IntKind.i64.wrap ((k : Int) + 1) = (k : Int) + 1 := IntWalk.i64_in _ (by omega)
              have i7' : ((k : Int) + 1).toNat = k + 1 := by omega
              have i7a : (0 : Int) ≤ (k : Int) + 1 := by omega
              have i7b : (k : Int) + 1 < (n : Int) + 1 := by omega
              have KR1 := Lib.hid (fun w => ref44_reach g (k - 1) w (HS.out _ (by omega)))
              have KR2 := Lib.hid (fun w => ref44_reach g k w (HS.out _ hlt))
              have r1 := (bsnd_in g (k - 1) (HS.out _ (by omega))).2.2.2
              have r2 := (bsnd_in g k (HS.out _ hlt)).2.2.2
              have b1 := rinv_in g z en n T s hinv HTI.out HS.out he1 (k - 1) (by omega)
              have b2 := rinv_in g z en n T s hinv HTI.out HS.out he1 (k + 1) (by omega)
              have x1 : RowKit.wrap64 (s (k - 1) + rch g (k - 1)) = s (k - 1) + rch g (k - 1) := by unfold RowKit.wrap64; omega
              have v1 : IntKind.i64.wrap (s (k - 1) + rch g (k - 1)) = s (k - 1) + rch g (k - 1) := IntWalk.i64_in _ (by omega)
              have x2 : RowKit.wrap64 (s (k + 1) + rch g k) = s (k + 1) + rch g k := by unfold RowKit.wrap64; omega
              have v2 : IntKind.i64.wrap (s (k + 1) + rch g k) = s (k + 1) + rch g k := IntWalk.i64_in _ (by omega)
              have lb1 : ∀ w' : World, w'.rangeAt b (off + (k - 1) * 8) (blkA g (k - 1)).toList → (loadB (.pointer (some ⟨b, off + (k - 1) * 8, none⟩))).run Try.prog w' = .ok (.agg (blkA g (k - 1))) w' := fun w' h => loadB_run h
              have lb2 : ∀ w' : World, w'.rangeAt b (off + k * 8) (blkA g k).toList → (loadB (.pointer (some ⟨b, off + k * 8, none⟩))).run Try.prog w' = .ok (.agg (blkA g k)) w' := fun w' h => loadB_run h
              have HINV := Lib.hid hinv
              have HF := Lib.hid hF
              have HT2 := Lib.hid hT2
              have HRM : Hid (rmost g s k = min (s (k - 1) + rch g (k - 1)) (s (k + 1) + rch g k)) := Lib.hid rfl
              clear hinv hF hT2 r1 r2 b1 b2
              have p0 := hrow.1
              go_upto_region 14 with (fail)
              go_cut [12] (fun s12 wx => s12 = .int .i64 (rmost g s k) ∧ RowS wx SB (n + 1) s ∧ Below w.heap.size w wx)
              case first =>
                go_region_held3 (fun w' => w'.rangeAt b (off + (k - 1) * 8) (blkA g (k - 1)).toList ∧ w'.rangeAt b (off + k * 8) (blkA g k).toList ∧ w'.cell? ⟨SB, k - 1, none⟩ = some (.int .i64 (s (k - 1))) ∧ w'.cell? ⟨SB, k + 1, none⟩ = some (.int .i64 (s (k + 1)))) (first | (focus (((with_reducible apply keepR14 HL.out hk1 hlt) <;> (first | with_reducible assumption | ((with_reducible apply rowS_drew); with_reducible assumption) | (repeat' (first | with_reducible exact Below.refl _ _ | with_reducible refine Below.drew ?_ | with_reducible refine below_drewN ?_ _ | with_reducible refine Below.alloc ?_ ?_ _ | with_reducible refine Below.setCell ?_ ?_ _ | with_reducible refine Below.trans ?_ (Below.mono (by with_reducible assumption) ?_) | (simp; done) | (simp; omega) | omega)))); done)) | go_keep)
                  (first | (go_at_call 24; (with_reducible refine (KR1.out _).mono ?_); rintro e w1 ⟨rfl, hb1⟩; have z1 := hb1.size; (try simp at z1); have hr1 : RowS w1 SB (n + 1) s := rowS_below hb1 (by first | with_reducible assumption | ((with_reducible apply rowS_drew); with_reducible assumption))) | (go_at_call 24; (with_reducible refine (KR2.out _).mono ?_); rintro e w2 ⟨rfl, hb2⟩; have z2 := hb2.size; (try simp at z2); have hr2 : RowS w2 SB (n + 1) s := rowS_below hb2 (by first | with_reducible assumption | ((with_reducible apply rowS_drew); with_reducible assumption))))
                all_goals (try go_wp2_with fail)
                all_goals go_meet
                all_goals refine ⟨by rw [HRM.out], ?_, ?_⟩
                all_goals first | (with_reducible assumption) | (repeat' (first | with_reducible exact Below.refl _ _ | with_reducible refine Below.drew ?_ | with_reducible refine below_drewN ?_ _ | with_reducible refine Below.alloc ?_ ?_ _ | with_reducible refine Below.setCell ?_ ?_ _ | with_reducible refine Below.trans ?_ (Below.mono (by with_reducible assumption) ?_) | (simp; done) | (simp; omega) | omega))
              case rest =>
              obtain ⟨rfl, hrow, hb⟩ := hcut
              have hbs := hb.size
              have p0 := hrow.1
              have ck := hrow.2.1 k (by omega)
              have fk := hrow.2.2 k
              clear lb1 lb2 KR1 KR2 x1 x2 v1 v2 HRM
              generalize hR : rmost g s k = R at *
              by_cases c1 : R < s k
              · have b1 : decide (R < s k) = true := by simpa using c1
                have HI2 : Hid (RInv g z en n T (upd s k R)) := Lib.hid (by rw [← hR]; exact rinv_upd g z en n T s HT.out HINV.out k hk1 hlt (by rw [hR]; exact c1))
                have HL2 : Hid (MU T (upd s k R) (n + 1) < MU T s (n + 1)) := Lib.hid (MU_upd T s (n + 1) k R (by omega) (by rw [← hR]; exact rmost_T g z en n T s HT.out HINV.out k hk1 hlt) c1)
                clear c1 hR
                go_wp2_with fail
                go_roundw
                case rel => exact ⟨true, k + 1, upd s k R, rfl, by go_num, by omega, by omega, rowS_set hrow k R (by omega), HI2.out, (fun h => by cases h), fun _ => by
                  have h1 := HL2.out
                  cases A
                  · have := (HF.out rfl).1; omega
                  · have := HT2.out rfl; omega, by (repeat' (first | with_reducible exact Below.refl _ _ | with_reducible refine Below.drew ?_ | with_reducible refine below_drewN ?_ _ | with_reducible refine Below.alloc ?_ ?_ _ | with_reducible refine Below.setCell ?_ ?_ _ | with_reducible refine Below.trans ?_ (Below.mono (by with_reducible assumption) ?_) | (simp; done) | (simp; omega) | omega))⟩
                case measure => first | (simp [intOf]; done) | (simp [intOf]; omega)
              · have b1 : decide (R < s k) = false := by simp; omega
                have HF2 : Hid (A = false → MU T s (n + 1) = MU T s' (n + 1) ∧ ∀ i, 1 ≤ i → i < k + 1 → s i ≤ rmost g s i) := Lib.hid (fun hA => ⟨(HF.out hA).1, fun i h1 hi => by
                  by_cases e : i = k
                  · subst e; rw [hR]; omega
                  · exact (HF.out hA).2 i h1 (by omega)⟩)
                clear c1 hR
                go_wp2_with fail
                go_roundw
                case rel => exact ⟨A, k + 1, s, rfl, by go_num, by omega, by omega, hrow, HINV.out, HF2.out, HT2.out, hb⟩
                case measure => first | (simp [intOf]; done) | (simp [intOf]; omega)
            · obtain rfl : n = k := by omega
              have j1 : decide ((n : Int) < (n : Int)) = false := by simp
              go_wp2_with fail
              go_roundw
              case rel => exact ⟨A, s, rfl, hrow, hinv, fun h => (hF h).2, hb⟩
              case measure =>
                have hM1 := mu_row T hrow
                have hM0 := HM0.out
                rw [hM1, hM0]
                cases A
                · have := (hF rfl).1
                  show 2 * MU T s (n + 1) + 0 < 2 * MU T s' (n + 1) + 1
                  omega
                · have := hT2 rfl
                  show 2 * MU T s (n + 1) + 1 < 2 * MU T s' (n + 1) + 1
                  omega
end Go.Proofs.Ytleohgnnbpicjaa
