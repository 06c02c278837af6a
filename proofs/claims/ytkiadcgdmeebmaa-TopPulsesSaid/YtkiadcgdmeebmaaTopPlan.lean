/- What planned of the laws of the top returns: the plan of the blocks that lead along a way, and where it ends -/
import Derived.Outline
import Derived.Handy
import Derived.Lib.Hide
import Derived.Deep.RegionWith
import Derived.Deep.RegionHeld3
import Derived.Deep.DeepCutAuto
import Derived.RegionTactic
import Derived.BigRegion
import Derived.OwnWalk
import Derived.Laws.AppendOwn
import Derived.Laws.OwnMore
import Derived.BigQuiet
import Derived.Test.YtkiadcgdmeebmaaTopSmall
import Derived.Test.YtkiadcgdmeebmaaKinMotors
import Derived.Test.YtkiadcgdmeebmaaLimSpeed
import Derived.Test.YtkiadcgdmeebmaaLimAccel
import Derived.Test.YtkiadcgdmeebmaaLimJunc
import Derived.Test.YtkiadcgdmeebmaaAhdPlan
namespace Go.Proofs.Ytkiadcgdmeebmaa
open Go.RowKit
set_option linter.unusedVariables false

attribute [local go_sem] cell_past1 cell_past2 cell_past3 cell_past4 froz_past1 froz_past2 froz_past3
attribute [local go_sem ↓] loadM_in loadV_in loadB_in

/-- What planned returns, of a valid machine. -/
def PlanPost (f : Nat → Int) (x : Bool) (t fd : Int) (p : Nat → Nat → Int) (n : Nat) (w : World) (e : Ending) (w' : World) : Prop :=
  ∃ (a : Option Addr) (k cap : Nat), e = .returned (.tuple #[.slice a k cap, .agg #[.int .i64 (wAt f x t p n 0), .int .i64 (wAt f x t p n 1), .int .i64 (wAt f x t p n 2), .int .i64 (wAt f x t p n 3)], .bool (plnE (wG f x t fd p n) (wZ f x t fd p n) 0 (wN f x t p n) (wN f x t p n) == 0)]) ∧ k = (if plnE (wG f x t fd p n) (wZ f x t fd p n) 0 (wN f x t p n) (wN f x t p n) = 0 then wN f x t p n else 0) ∧ k ≤ cap ∧ cap ≤ 9223372036854775807 ∧ BlkS w' a k (plnG (wG f x t fd p n) (wZ f x t fd p n) 0 (wN f x t p n) (wN f x t p n)) ∧ Below w.heap.size w w'
def PRel (f : Nat → Int) (x : Bool) (t fd : Int) (p : Nat → Nat → Int) (n : Nat) (w : World) (AT : Nat) (s9 s10 s13 : Value) (wx : World) : Prop :=
  ∃ k : Nat, s13 = .int .i64 k ∧ k ≤ n ∧ wx.ownsRow (AT + 1) 36 8 s9 (wN f x t p k) (arrF (wN f x t p k * 8) (flat (wG f x t fd p k))).toList ∧ wx.ownsRow (AT + 1) 3 1 s10 (wN f x t p k) (arrF (wN f x t p k) (wZ f x t fd p k)).toList ∧ Live wx w.heap.size (mach f x t) ∧ Live wx (w.heap.size + 1) #[.int .i64 0, .int .i64 0, .int .i64 0, .int .i64 0] ∧ Live wx AT #[.int .i64 (wAt f x t p k 0), .int .i64 (wAt f x t p k 1), .int .i64 (wAt f x t p k 2), .int .i64 (wAt f x t p k 3)] ∧ Below w.heap.size w wx

theorem plan_yes {w w' : World} {e : Ending} {f : Nat → Int} {x : Bool} {t fd : Int} {p : Nat → Nat → Int} {n : Nat} (h : PlanPost f x t fd p n w e w') (hE : plnE (wG f x t fd p n) (wZ f x t fd p n) 0 (wN f x t p n) (wN f x t p n) = 0) :
    ∃ a cap, e = .returned (.tuple #[.slice a (wN f x t p n) cap, .agg #[.int .i64 (wAt f x t p n 0), .int .i64 (wAt f x t p n 1), .int .i64 (wAt f x t p n 2), .int .i64 (wAt f x t p n 3)], .bool true]) ∧ BlkS w' a (wN f x t p n) (plnG (wG f x t fd p n) (wZ f x t fd p n) 0 (wN f x t p n) (wN f x t p n)) ∧ Below w.heap.size w w' := by
  obtain ⟨a, k, cap, he, hk, _, _, hB, hb⟩ := h
  rw [hE] at he hk
  rw [if_pos rfl] at hk
  subst hk
  exact ⟨a, cap, he, hB, hb⟩
theorem plan_no {w w' : World} {e : Ending} {f : Nat → Int} {x : Bool} {t fd : Int} {p : Nat → Nat → Int} {n : Nat} (h : PlanPost f x t fd p n w e w') (hE : ¬ plnE (wG f x t fd p n) (wZ f x t fd p n) 0 (wN f x t p n) (wN f x t p n) = 0) :
    ∃ a cap, e = .returned (.tuple #[.slice a 0 cap, .agg #[.int .i64 (wAt f x t p n 0), .int .i64 (wAt f x t p n 1), .int .i64 (wAt f x t p n 2), .int .i64 (wAt f x t p n 3)], .bool false]) ∧ Below w.heap.size w w' := by
  obtain ⟨a, k, cap, he, hk, _, _, hB, hb⟩ := h
  rw [show (plnE (wG f x t fd p n) (wZ f x t fd p n) 0 (wN f x t p n) (wN f x t p n) == 0) = false from beq_eq_false_iff_ne.2 hE] at he
  rw [if_neg hE] at hk
  subst hk
  exact ⟨a, cap, he, hb⟩
theorem owns_start {w : World} {base e sz : Nat} (s : Nat → Int) (N : Nat) (h : N = 0) : w.ownsRow base e sz (.slice none 0 0) 0 (arrF N s).toList := by
  subst h
  rw [arrF_nil]
  exact World.ownsRow_nil _ _ _ _
theorem wN_no (f : Nat → Int) (x : Bool) (t fd : Int) (p : Nat → Nat → Int) (k : Nat) (h : wMv f x t p k = false) : wN f x t p (k + 1) = wN f x t p k ∧ wG f x t fd p (k + 1) = wG f x t fd p k ∧ wZ f x t fd p (k + 1) = wZ f x t fd p k ∧ ∀ j, j < 4 → wAt f x t p (k + 1) j = wAt f x t p k j := by
  refine ⟨by rw [wN, if_neg (by rw [h]; simp)], by rw [wG, if_neg (by rw [h]; simp)], by rw [wZ, if_neg (by rw [h]; simp)], fun j hj => ?_⟩
  unfold wMv same4 wC at h
  simp at h
  show wTo f x t p k j = _
  rcases (by omega : j = 0 ∨ j = 1 ∨ j = 2 ∨ j = 3) with rfl | rfl | rfl | rfl <;> omega
theorem wN_yes (f : Nat → Int) (x : Bool) (t fd : Int) (p : Nat → Nat → Int) (k : Nat) (h : wMv f x t p k = true) : wN f x t p (k + 1) = wN f x t p k + 1 ∧ (∀ i, i < wN f x t p k → ∀ o, wG f x t fd p (k + 1) i o = wG f x t fd p k i o) ∧ (∀ o, wG f x t fd p (k + 1) (wN f x t p k) o = wBlk f x t fd p k o) ∧
    (∀ i, i < wN f x t p k → wZ f x t fd p (k + 1) i = wZ f x t fd p k i) ∧ wZ f x t fd p (k + 1) (wN f x t p k) = wJ f x t fd p k * wJ f x t fd p k := by
  refine ⟨by rw [wN, if_pos h], fun i hi o => ?_, fun o => ?_, fun i hi => ?_, ?_⟩
  · rw [wG, if_pos h]; exact if_neg (by omega)
  · rw [wG, if_pos h]; exact if_pos rfl
  · rw [wZ, if_pos h]; exact if_neg (by omega)
  · rw [wZ, if_pos h]; exact if_pos rfl
theorem row_snoc {w : World} {base : Nat} {v : Value} (f : Nat → Int) (x : Bool) (t fd : Int) (p : Nat → Nat → Int) (k : Nat) (h : wMv f x t p k = true)
    (ho : w.ownsRow base 36 8 v (wN f x t p k + 1) ((arrF (wN f x t p k * 8) (flat (wG f x t fd p k))).toList ++ #[.int .i64 (wC f x t p k 0), .int .i64 (wC f x t p k 1), .int .i64 (wC f x t p k 2), .int .i64 (wC f x t p k 3), .int .i64 (wA f x t p k), .int .i64 0, .int .i64 (wV f x t fd p k * wV f x t fd p k), .int .i64 0].toList)) :
    w.ownsRow base 36 8 v (wN f x t p (k + 1)) (arrF (wN f x t p (k + 1) * 8) (flat (wG f x t fd p (k + 1)))).toList := by
  obtain ⟨h1, h2, h3, _, _⟩ := wN_yes f x t fd p k h
  rw [h1, arrF_snoc8 _ _ _ h2]
  have e : blkA (wG f x t fd p (k + 1)) (wN f x t p k) = #[.int .i64 (wC f x t p k 0), .int .i64 (wC f x t p k 1), .int .i64 (wC f x t p k 2), .int .i64 (wC f x t p k 3), .int .i64 (wA f x t p k), .int .i64 0, .int .i64 (wV f x t fd p k * wV f x t fd p k), .int .i64 0] := by
    unfold blkA
    rw [h3, h3, h3, h3, h3, h3, h3, h3]
    rfl
  rw [e]
  exact ho
theorem cap_snoc {w : World} {base : Nat} {v : Value} (f : Nat → Int) (x : Bool) (t fd : Int) (p : Nat → Nat → Int) (k : Nat) (h : wMv f x t p k = true)
    (ho : w.ownsRow base 3 1 v (wN f x t p k + 1) ((arrF (wN f x t p k) (wZ f x t fd p k)).toList ++ [.int .i64 (wJ f x t fd p k * wJ f x t fd p k)])) :
    w.ownsRow base 3 1 v (wN f x t p (k + 1)) (arrF (wN f x t p (k + 1)) (wZ f x t fd p (k + 1))).toList := by
  obtain ⟨h1, _, _, h4, h5⟩ := wN_yes f x t fd p k h
  rw [h1, arrF_snoc _ _ _ _ h4 h5]
  exact ho
theorem keepP9 {wr wx : World} {M b off k n : Nat} {f : Nat → Int} {x : Bool} {t : Int} {p : Nat → Nat → Int} (L : Live wr M (mach f x t)) (hv : VecS wr (some ⟨b, off, none⟩) n p) (hk : k < n) (hb : Below wr.heap.size wr wx) : wx.rangeAt M 0 (mach f x t).toList ∧ wx.rangeAt b (off + k * 3) (vecA p k).toList :=
  ⟨live_rangeAll (live_below hb L), vecS_rng (vecS_below hb (Nat.le_refl _) hv) k hk⟩
theorem keepP17 {wr wx : World} {M C gb k n : Nat} {f : Nat → Int} {x : Bool} {t : Int} {g : Nat → Nat → Int} {c0 c1 c2 c3 : Value} (L : Live wr M (mach f x t)) (LC : Live wr C #[c0, c1, c2, c3]) (hg : BlkS wr (some ⟨gb, 0, none⟩) n g) (hk : k < n) (hb : Below wr.heap.size wr wx) :
    wx.rangeAt M 0 (mach f x t).toList ∧ wx.cell? ⟨gb, k * 8, none⟩ = some (.int .i64 (g k 0)) ∧ wx.cell? ⟨gb, k * 8 + 1, none⟩ = some (.int .i64 (g k 1)) ∧ wx.cell? ⟨gb, k * 8 + 2, none⟩ = some (.int .i64 (g k 2)) ∧ wx.cell? ⟨gb, k * 8 + 3, none⟩ = some (.int .i64 (g k 3)) ∧ wx.cell? ⟨C, 0, none⟩ = some c0 ∧ wx.cell? ⟨C, 1, none⟩ = some c1 ∧ wx.cell? ⟨C, 2, none⟩ = some c2 ∧ wx.cell? ⟨C, 3, none⟩ = some c3 := by
  have h := fun o ho => blkS_cell (blkS_below hb (Nat.le_refl _) hg) k o hk ho
  have hC := live_below hb LC
  have h0 := h 0 (by omega)
  have h1 := h 1 (by omega)
  have h2 := h 2 (by omega)
  have h3 := h 3 (by omega)
  rw [Nat.zero_add] at h0 h1 h2 h3
  rw [Nat.add_zero] at h0
  exact ⟨live_rangeAll (live_below hb L), h0, h1, h2, h3, hC.2.1 0, hC.2.1 1, hC.2.1 2, hC.2.1 3⟩
theorem keepP18 {wr wx : World} {M C : Nat} {f : Nat → Int} {x : Bool} {t : Int} {c0 c1 c2 c3 : Value} (L : Live wr M (mach f x t)) (LC : Live wr C #[c0, c1, c2, c3]) (hb : Below wr.heap.size wr wx) :
    wx.rangeAt M 0 (mach f x t).toList ∧ wx.cell? ⟨C, 0, none⟩ = some c0 ∧ wx.cell? ⟨C, 1, none⟩ = some c1 ∧ wx.cell? ⟨C, 2, none⟩ = some c2 ∧ wx.cell? ⟨C, 3, none⟩ = some c3 :=
  have hC := live_below hb LC
  ⟨live_rangeAll (live_below hb L), hC.2.1 0, hC.2.1 1, hC.2.1 2, hC.2.1 3⟩
theorem news_at {w : World} {b : Nat} {c : Array Value} (L : Live w b c) (l : List Value) (h : c.toList = l) (j : Nat) (u : Value) (hj : l[j]? = some u) : w.cell? ((⟨b, 0, none⟩ : Addr).add j) = some u := by
  rw [Go.WideShapes.add_plain, Nat.zero_add, L.2.1 j, ← Array.getElem?_toList, h]
  exact hj
theorem blkS_set {w : World} {a : Option Addr} {n b B : Nat} {g : Nat → Nat → Int} (h : BlkS w a n g) (hf : ∀ p, a = some p → B ≤ p.block) (hb : b < B) (o : Nat) (u : Value) : BlkS (w.setCell ⟨b, o, none⟩ u) a n g := fun h0 => by
  obtain ⟨b', off, e, hlt, hc⟩ := h h0
  have hB := hf _ e
  refine ⟨b', off, e, by simpa [World.setCell] using hlt, fun k hk j hj => ?_⟩
  rw [World.cell?_setCell_other w _ _ _ (by intro h2; cases h2; exact absurd hB (by show ¬ B ≤ b; omega))]
  exact hc k hk j hj
theorem owns_slice {w : World} {base e sz n : Nat} {v : Value} {xs : List Value} (h : w.ownsRow base e sz v n xs) : ∃ a cap, v = .slice a n cap := by
  rcases h.2 with ⟨rfl, h3⟩ | ⟨b, cap, cur, hv, _⟩
  · subst h3; exact ⟨_, _, rfl⟩
  · exact ⟨_, _, hv⟩

set_option maxRecDepth 100000 in
set_option maxHeartbeats 8000000 in
theorem top_planned_no (f : Nat → Int) (x : Bool) (t fd : Int) (sl : Option Addr) (n cl : Nat) (w : World) (hv : kinValid f t = false) :
    Calls Try.prog 8 #[.agg (mach f x t), .slice sl n cl, .int .i64 fd] w fun e w' => e = .returned (.tuple #[.slice none 0 0, .agg #[.int .i64 0, .int .i64 0, .int .i64 0, .int .i64 0], .bool false]) ∧ Below w.heap.size w w' := by
  have KM := Lib.hid (fun w => kin_motors f x t 0 0 0 0 w)
  have hok : moOk f t 0 0 0 0 = false := by unfold moOk stOk; rw [hv]; rfl
  have hE : moE f t 0 0 0 0 = 1 := by unfold moE; rw [hok]; rfl
  have h0 : ∀ j, moV f x t 0 0 0 0 j = 0 := fun j => by unfold moV; rw [hok]; rfl
  rw [hE, h0, h0, h0, h0] at KM
  clear hE h0 hok
  go_enter Try.func8, Try.ntmps8
  go_upto_region 3 with (fail)
  refine gen_world (fun wx => Live wx w.heap.size (mach f x t) ∧ Live wx (w.heap.size + 1) #[.int .i64 0, .int .i64 0, .int .i64 0, .int .i64 0] ∧ Below w.heap.size w wx) ?_ ?_
  · exact ⟨live_alloc (live_new _ _ rfl) _, live_new _ _ (by simp), by (repeat' (first | with_reducible exact Below.refl _ _ | with_reducible refine Below.drew ?_ | with_reducible refine below_drewN ?_ _ | with_reducible refine Below.alloc ?_ ?_ _ | with_reducible refine Below.setCell ?_ ?_ _ | with_reducible refine Below.trans ?_ (Below.mono (by with_reducible assumption) ?_) | (simp; done) | (simp; omega) | omega))⟩
  rintro wx ⟨L, L1, hb⟩
  have hbs := hb.size
  have lm := loadM_run (live_rangeAll L)
  go_upto_region 4 with (go_at_call 17; (with_reducible refine (KM.out _).mono ?_); rintro e w1 ⟨rfl, hb1⟩; have z1 := hb1.size; (try simp at z1); have L1a := live_below hb1 (b := w.heap.size) (by (repeat (first | with_reducible assumption | ((with_reducible apply live_new) <;> (first | with_reducible rfl | (focus (simp; done)))) | with_reducible apply live_alloc | with_reducible apply live_drew | with_reducible apply live_drewN | ((with_reducible apply live_set_other); (case hb => first | omega | (simp; done))) | with_reducible apply live_set_same | (focus (simp; done))))); obtain ⟨p1a, e1a, f1a⟩ := id L1a; have L1b := live_below hb1 (b := w.heap.size + 1) (by (repeat (first | with_reducible assumption | ((with_reducible apply live_new) <;> (first | with_reducible rfl | (focus (simp; done)))) | with_reducible apply live_alloc | with_reducible apply live_drew | with_reducible apply live_drewN | ((with_reducible apply live_set_other); (case hb => first | omega | (simp; done))) | with_reducible apply live_set_same | (focus (simp; done))))); obtain ⟨p1b, e1b, f1b⟩ := id L1b; clear e1a)
  refine gen_world (fun wx => ∃ AT, AT = w1.heap.size ∧ w.heap.size + 1 < AT ∧ Live wx (w.heap.size + 1) #[.int .i64 0, .int .i64 0, .int .i64 0, .int .i64 0] ∧ Live wx AT #[.int .i64 0, .int .i64 0, .int .i64 0, .int .i64 0] ∧ Below w.heap.size w wx) ?_ ?_
  · exact ⟨_, rfl, by omega, by (repeat (first | with_reducible assumption | ((with_reducible apply live_new) <;> (first | with_reducible rfl | (focus (simp; done)))) | with_reducible apply live_alloc | with_reducible apply live_drew | with_reducible apply live_drewN | with_reducible apply live_put10 | with_reducible apply live_put8 | with_reducible apply live_put4 | ((with_reducible apply live_put10_other); (case hb => first | omega | (simp; done))) | ((with_reducible apply live_put8_other); (case hb => first | omega | (simp; done))) | ((with_reducible apply live_put4_other); (case hb => first | omega | (simp; done))) | ((with_reducible apply live_set_other); (case hb => first | omega | (simp; done))) | (focus (simp; done)))), by (repeat (first | with_reducible assumption | ((with_reducible apply live_new) <;> (first | with_reducible rfl | (focus (simp; done)))) | with_reducible apply live_alloc | with_reducible apply live_drew | with_reducible apply live_drewN | with_reducible apply live_put10 | with_reducible apply live_put8 | with_reducible apply live_put4 | ((with_reducible apply live_put10_other); (case hb => first | omega | (simp; done))) | ((with_reducible apply live_put8_other); (case hb => first | omega | (simp; done))) | ((with_reducible apply live_put4_other); (case hb => first | omega | (simp; done))) | ((with_reducible apply live_set_other); (case hb => first | omega | (simp; done))) | (focus (simp; done)))), by (repeat' (first | with_reducible exact Below.refl _ _ | with_reducible refine Below.drew ?_ | with_reducible refine below_drewN ?_ _ | with_reducible refine Below.alloc ?_ ?_ _ | with_reducible refine Below.setCell ?_ ?_ _ | with_reducible refine Below.trans ?_ (Below.mono (by with_reducible assumption) ?_) | (simp; done) | (simp; omega) | omega))⟩
  rintro wx ⟨AT, hAT, hlt, L1, LA, hb⟩
  rw [← hAT]
  clear hAT
  obtain ⟨q0, q1, q2, q3⟩ := live_four LA
  obtain ⟨p1, e1, f1⟩ := id L1
  go_wp2_with fail
  go_region
  go_wp2_with fail
  refine gen_world (fun wx => Live wx (w.heap.size + 1) #[.int .i64 0, .int .i64 0, .int .i64 0, .int .i64 0] ∧ Below w.heap.size w wx) ⟨by (repeat (first | with_reducible assumption | ((with_reducible apply live_new) <;> (first | with_reducible rfl | (focus (simp; done)))) | with_reducible apply live_alloc | with_reducible apply live_drew | with_reducible apply live_drewN | with_reducible apply live_put10 | with_reducible apply live_put8 | with_reducible apply live_put4 | ((with_reducible apply live_put10_other); (case hb => first | omega | (simp; done))) | ((with_reducible apply live_put8_other); (case hb => first | omega | (simp; done))) | ((with_reducible apply live_put4_other); (case hb => first | omega | (simp; done))) | ((with_reducible apply live_set_other); (case hb => first | omega | (simp; done))) | (focus (simp; done)))), by (repeat' (first | with_reducible exact Below.refl _ _ | with_reducible refine Below.drew ?_ | with_reducible refine below_drewN ?_ _ | with_reducible refine Below.alloc ?_ ?_ _ | with_reducible refine Below.setCell ?_ ?_ _ | with_reducible refine Below.trans ?_ (Below.mono (by with_reducible assumption) ?_) | (simp; done) | (simp; omega) | omega))⟩ ?_
  rintro wz ⟨Lz, hbz⟩
  obtain ⟨y0, y1, y2, y3⟩ := live_four Lz
  refine bodyPost_ret (v := .tuple #[.slice none 0 0, .agg #[.int .i64 0, .int .i64 0, .int .i64 0, .int .i64 0], .bool false]) (by simp [results, Try.results8, go_sem, y0, y1, y2, y3]) rfl ⟨rfl, hbz⟩

set_option maxRecDepth 100000 in
set_option maxHeartbeats 8000000 in
theorem top_planned (f : Nat → Int) (x : Bool) (t fd : Int) (p : Nat → Nat → Int) (sl : Option Addr) (n cl : Nat) (w : World) (hv : kinValid f t = true) (hs : Slow f) (hp : Near p n) (hfd : -9223372036854775808 ≤ fd ∧ fd ≤ 9223372036854775807) (hl : VecS w sl n p) :
    Calls Try.prog 8 #[.agg (mach f x t), .slice sl n cl, .int .i64 fd] w (PlanPost f x t fd p n w) := by
  have HL := Lib.hid hl
  have HV := Lib.hid hv
  have HS := Lib.hid hs
  have HP := Lib.hid hp
  have HF := Lib.hid hfd
  have hn12 := hp.1
  obtain ⟨i0, hi, hz0, hz1, hz2⟩ := info_parts blk_info2
  obtain ⟨i1, hi1, hy0, hy1, hy2⟩ := info_parts int_info2
  have KM0 : ∀ w, Calls Try.prog 17 #[.agg (mach f x t), .agg #[.int .i64 0, .int .i64 0, .int .i64 0], .int .i64 0] w fun y w' => y = .returned (.tuple #[.agg #[.int .i64 (wAt f x t p 0 0), .int .i64 (wAt f x t p 0 1), .int .i64 (wAt f x t p 0 2), .int .i64 (wAt f x t p 0 3)], .int .i64 0]) ∧ Below w.heap.size w w' := fun w => by
    have h := kin_motors f x t 0 0 0 0 w
    rw [show moE f t 0 0 0 0 = 0 from by unfold moE; rw [(mo_small f x t hv hs 0 0 0 0 (by omega) (by omega) (by omega) (by omega)).1]; rfl] at h
    exact h
  have KM : ∀ (k : Nat), k < n → ∀ w, Calls Try.prog 17 #[.agg (mach f x t), .agg (vecA p k), .int .i64 k] w fun y w' => y = .returned (.tuple #[.agg #[.int .i64 (wTo f x t p k 0), .int .i64 (wTo f x t p k 1), .int .i64 (wTo f x t p k 2), .int .i64 (wTo f x t p k 3)], .int .i64 0]) ∧ Below w.heap.size w w' := fun k hk w => by
    have h := kin_motors f x t (p k 0) (p k 1) (p k 2) k w
    rw [show moE f t (p k 0) (p k 1) (p k 2) k = 0 from by unfold moE; rw [(w_to f x t p hv hs n hp k hk).1]; rfl] at h
    exact h
  have HM0 := Lib.hid KM0
  have HM := Lib.hid KM
  clear hl hv hs hp hfd KM0 KM
  go_enter Try.func8, Try.ntmps8
  go_upto_region 3 with (fail)
  refine gen_world (fun wx => Live wx w.heap.size (mach f x t) ∧ Live wx (w.heap.size + 1) #[.int .i64 0, .int .i64 0, .int .i64 0, .int .i64 0] ∧ Below w.heap.size w wx) ?_ ?_
  · exact ⟨live_alloc (live_new _ _ rfl) _, live_new _ _ (by simp), by (repeat' (first | with_reducible exact Below.refl _ _ | with_reducible refine Below.drew ?_ | with_reducible refine below_drewN ?_ _ | with_reducible refine Below.alloc ?_ ?_ _ | with_reducible refine Below.setCell ?_ ?_ _ | with_reducible refine Below.trans ?_ (Below.mono (by with_reducible assumption) ?_) | (simp; done) | (simp; omega) | omega))⟩
  rintro wx ⟨L, L1, hb⟩
  have hbs := hb.size
  have lm := loadM_run (live_rangeAll L)
  go_upto_region 4 with (go_at_call 17; (with_reducible refine (HM0.out _).mono ?_); rintro e w1 ⟨rfl, hb1⟩; have z1 := hb1.size; (try simp at z1); have L1a := live_below hb1 (b := w.heap.size) (by (repeat (first | with_reducible assumption | ((with_reducible apply live_new) <;> (first | with_reducible rfl | (focus (simp; done)))) | with_reducible apply live_alloc | with_reducible apply live_drew | with_reducible apply live_drewN | ((with_reducible apply live_set_other); (case hb => first | omega | (simp; done))) | with_reducible apply live_set_same | (focus (simp; done))))); obtain ⟨p1a, e1a, f1a⟩ := id L1a; have L1b := live_below hb1 (b := w.heap.size + 1) (by (repeat (first | with_reducible assumption | ((with_reducible apply live_new) <;> (first | with_reducible rfl | (focus (simp; done)))) | with_reducible apply live_alloc | with_reducible apply live_drew | with_reducible apply live_drewN | ((with_reducible apply live_set_other); (case hb => first | omega | (simp; done))) | with_reducible apply live_set_same | (focus (simp; done))))); obtain ⟨p1b, e1b, f1b⟩ := id L1b; clear e1a)
  refine gen_world (fun wx => ∃ AT, AT = w1.heap.size ∧ w.heap.size + 1 < AT ∧ Live wx w.heap.size (mach f x t) ∧ Live wx (w.heap.size + 1) #[.int .i64 0, .int .i64 0, .int .i64 0, .int .i64 0] ∧ Live wx AT #[.int .i64 (wAt f x t p 0 0), .int .i64 (wAt f x t p 0 1), .int .i64 (wAt f x t p 0 2), .int .i64 (wAt f x t p 0 3)] ∧ Below w.heap.size w wx) ?_ ?_
  · exact ⟨_, rfl, by omega, by (repeat (first | with_reducible assumption | ((with_reducible apply live_new) <;> (first | with_reducible rfl | (focus (simp; done)))) | with_reducible apply live_alloc | with_reducible apply live_drew | with_reducible apply live_drewN | with_reducible apply live_put10 | with_reducible apply live_put8 | with_reducible apply live_put4 | ((with_reducible apply live_put10_other); (case hb => first | omega | (simp; done))) | ((with_reducible apply live_put8_other); (case hb => first | omega | (simp; done))) | ((with_reducible apply live_put4_other); (case hb => first | omega | (simp; done))) | ((with_reducible apply live_set_other); (case hb => first | omega | (simp; done))) | (focus (simp; done)))), by (repeat (first | with_reducible assumption | ((with_reducible apply live_new) <;> (first | with_reducible rfl | (focus (simp; done)))) | with_reducible apply live_alloc | with_reducible apply live_drew | with_reducible apply live_drewN | with_reducible apply live_put10 | with_reducible apply live_put8 | with_reducible apply live_put4 | ((with_reducible apply live_put10_other); (case hb => first | omega | (simp; done))) | ((with_reducible apply live_put8_other); (case hb => first | omega | (simp; done))) | ((with_reducible apply live_put4_other); (case hb => first | omega | (simp; done))) | ((with_reducible apply live_set_other); (case hb => first | omega | (simp; done))) | (focus (simp; done)))), by (repeat (first | with_reducible assumption | ((with_reducible apply live_new) <;> (first | with_reducible rfl | (focus (simp; done)))) | with_reducible apply live_alloc | with_reducible apply live_drew | with_reducible apply live_drewN | with_reducible apply live_put10 | with_reducible apply live_put8 | with_reducible apply live_put4 | ((with_reducible apply live_put10_other); (case hb => first | omega | (simp; done))) | ((with_reducible apply live_put8_other); (case hb => first | omega | (simp; done))) | ((with_reducible apply live_put4_other); (case hb => first | omega | (simp; done))) | ((with_reducible apply live_set_other); (case hb => first | omega | (simp; done))) | (focus (simp; done)))), by (repeat' (first | with_reducible exact Below.refl _ _ | with_reducible refine Below.drew ?_ | with_reducible refine below_drewN ?_ _ | with_reducible refine Below.alloc ?_ ?_ _ | with_reducible refine Below.setCell ?_ ?_ _ | with_reducible refine Below.trans ?_ (Below.mono (by with_reducible assumption) ?_) | (simp; done) | (simp; omega) | omega))⟩
  clear L L1 hb lm L1a p1a f1a L1b p1b e1b f1b hb1 z1
  rintro wx ⟨AT, hAT, hat, L, L1, LA, hb⟩
  rw [← hAT]
  clear hAT HM0
  go_wp2_with fail
  go_loopw [9, 10, 13] (PRel f x t fd p n w AT) (fun _ _ i _ => n - (intOf i).toNat)
  case atStart => exact ⟨0, rfl, by omega, owns_start _ _ rfl, owns_start _ _ rfl, L, L1, LA, hb⟩
  case round =>
    clear L L1 LA hb
    obtain ⟨k, rfl, hk, hrow, hcap, L, L1, LA, hb⟩ := hrel
    have hbs := hb.size
    have HR := Lib.hid hrow
    have HC := Lib.hid hcap
    obtain ⟨la, lc, rfl⟩ := owns_slice hrow
    obtain ⟨ca, cc, rfl⟩ := owns_slice hcap
    clear hrow hcap
    have hNk := wN_le f x t p k
    by_cases hlt : k < n
    · obtain ⟨b, off, rfl, hltb, _⟩ := HL.out (by omega)
      have HVS := Lib.hid (vecS_below hb (Nat.le_refl _) HL.out)
      have KMk := Lib.hid (HM.out k hlt)
      have p0 := L.1
      have pA := LA.1
      have j0 : decide ((k : Int) < (n : Int)) = true := by simp; omega
      have j1 : (k : Int) < (n : Int) := by omega
      have lm : ∀ w' : World, w'.rangeAt w.heap.size 0 (mach f x t).toList → (loadM (.pointer (some ⟨w.heap.size, 0, none⟩))).run Try.prog w' = .ok (.agg (mach f x t)) w' := fun w' h => loadM_run h
      have lv : ∀ w' : World, w'.rangeAt b (off + k * 3) (vecA p k).toList → (loadV (.pointer (some ⟨b, off + k * 3, none⟩))).run Try.prog w' = .ok (.agg (vecA p k)) w' := fun w' h => loadV_run h
      go_upto_region 9 with (fail)
      go_cut [14, 15] (fun s14 s15 wx => ∃ TO : Nat, s14 = .pointer (some ⟨TO, 0, none⟩) ∧ s15 = .int .i64 0 ∧ wr.heap.size ≤ TO ∧ Live wx TO #[.int .i64 (wTo f x t p k 0), .int .i64 (wTo f x t p k 1), .int .i64 (wTo f x t p k 2), .int .i64 (wTo f x t p k 3)] ∧ Below wr.heap.size wr wx)
      case first =>
        go_region_held3 (fun w' => w'.rangeAt w.heap.size 0 (mach f x t).toList ∧ w'.rangeAt b (off + k * 3) (vecA p k).toList) (first | (focus (((with_reducible apply keepP9 L HVS.out hlt) <;> (repeat' (first | with_reducible exact Below.refl _ _ | with_reducible refine Below.drew ?_ | with_reducible refine below_drewN ?_ _ | with_reducible refine Below.alloc ?_ ?_ _ | with_reducible refine Below.setCell ?_ ?_ _ | with_reducible refine Below.trans ?_ (Below.mono (by with_reducible assumption) ?_) | (simp; done) | (simp; omega) | omega))); done)) | go_keep)
          ((go_at_call 17; (with_reducible refine (KMk.out _).mono ?_); rintro e w1 ⟨rfl, hb1⟩; have z1 := hb1.size; (try simp at z1); (try ((apply live_take (b := wr.heap.size) hb1); (· (repeat (first | with_reducible assumption | ((with_reducible apply live_new) <;> (first | with_reducible rfl | (focus (simp; done)))) | with_reducible apply live_alloc | with_reducible apply live_drew | with_reducible apply live_drewN | ((with_reducible apply live_set_other); (case hb => first | omega | (simp; done))) | with_reducible apply live_set_same | (focus (simp; done))))); (intro L1m; obtain ⟨p1m, e1m, f1m⟩ := id L1m)))))
        all_goals (try go_wp2_with fail)
        all_goals go_meet
        all_goals refine ⟨_, rfl, rfl, ?_, ?_, ?_⟩
        all_goals first | omega | (focus (((apply live_conv); (· (repeat (first | with_reducible assumption | ((with_reducible apply live_new) <;> (first | with_reducible rfl | (focus (simp; done)))) | with_reducible apply live_alloc | with_reducible apply live_drew | with_reducible apply live_drewN | ((with_reducible apply live_set_other); (case hb => first | omega | (simp; done))) | with_reducible apply live_set_same | (focus (simp; done))))); (· first | rfl | (simp; done))); done)) | (repeat' (first | with_reducible exact Below.refl _ _ | with_reducible refine Below.drew ?_ | with_reducible refine below_drewN ?_ _ | with_reducible refine Below.alloc ?_ ?_ _ | with_reducible refine Below.setCell ?_ ?_ _ | with_reducible refine Below.trans ?_ (Below.mono (by with_reducible assumption) ?_) | (simp; done) | (simp; omega) | omega))
      case rest =>
      obtain ⟨TO, rfl, rfl, hTO, LTO, hbr⟩ := hcut

      have zr := hbr.size
      have hbw : Below w.heap.size w _ := Below.trans hb (hbr.mono hbs)
      have hbws := hbw.size
      have L' := live_below hbr L
      have L1' := live_below hbr L1
      have LA' := live_below hbr LA
      have R2 := Lib.hid (owns_below HR.out hbr)
      have C2 := Lib.hid (owns_below HC.out hbr)
      have HRlt : Hid (∀ j, (Value.slice la (wN f x t p k) lc).ownBlock = some j → AT + 1 ≤ j ∧ j < TO) := Lib.hid (fun j hj => by have := HR.out.lt j hj; omega)
      have HClt : Hid (∀ j, (Value.slice ca (wN f x t p k) cc).ownBlock = some j → AT + 1 ≤ j ∧ j < TO) := Lib.hid (fun j hj => by have := HC.out.lt j hj; omega)
      have HTO : AT < TO := by omega
      have KS : Hid (∀ w, Calls Try.prog 15 #[.agg #[.int .i64 (wTo f x t p k 0), .int .i64 (wTo f x t p k 1), .int .i64 (wTo f x t p k 2), .int .i64 (wTo f x t p k 3)], .agg #[.int .i64 (wAt f x t p k 0), .int .i64 (wAt f x t p k 1), .int .i64 (wAt f x t p k 2), .int .i64 (wAt f x t p k 3)]] w fun e w' => e = .returned (.agg #[.int .i64 (wC f x t p k 0), .int .i64 (wC f x t p k 1), .int .i64 (wC f x t p k 2), .int .i64 (wC f x t p k 3)]) ∧ Below w.heap.size w w') := Lib.hid (fun w => by
        have h1 := (w_to f x t p HV.out HS.out n HP.out k hlt).2
        have h2 := w_at f x t p HV.out HS.out n HP.out k hk
        have h10 := h1 0
        have h11 := h1 1
        have h12 := h1 2
        have h13 := h1 3
        have h20 := h2 0
        have h21 := h2 1
        have h22 := h2 2
        have h23 := h2 3
        exact top_sub _ _ _ _ _ _ _ _ w (by omega) (by omega) (by omega) (by omega) (by omega) (by omega) (by omega) (by omega))
      clear L L1 LA HR HC hbr hb hbs p0 pA j0 j1 lm lv HVS KMk zr
      obtain ⟨q0, q1, q2, q3⟩ := live_four LTO
      obtain ⟨r0, r1, r2, r3⟩ := live_four LA'
      go_upto_region 11 with (go_at_call 15; (with_reducible refine (KS.out _).mono ?_); rintro e w2 ⟨rfl, hb2⟩; have z2 := hb2.size; (try simp at z2); have L2a := live_below hb2 (b := w.heap.size) (by (repeat (first | with_reducible assumption | ((with_reducible apply live_new) <;> (first | with_reducible rfl | (focus (simp; done)))) | with_reducible apply live_alloc | with_reducible apply live_drew | with_reducible apply live_drewN | ((with_reducible apply live_set_other); (case hb => first | omega | (simp; done))) | with_reducible apply live_set_same | (focus (simp; done))))); obtain ⟨p2a, e2a, f2a⟩ := id L2a; have L2b := live_below hb2 (b := w.heap.size + 1) (by (repeat (first | with_reducible assumption | ((with_reducible apply live_new) <;> (first | with_reducible rfl | (focus (simp; done)))) | with_reducible apply live_alloc | with_reducible apply live_drew | with_reducible apply live_drewN | ((with_reducible apply live_set_other); (case hb => first | omega | (simp; done))) | with_reducible apply live_set_same | (focus (simp; done))))); obtain ⟨p2b, e2b, f2b⟩ := id L2b; have L2c := live_below hb2 (b := AT) (by (repeat (first | with_reducible assumption | ((with_reducible apply live_new) <;> (first | with_reducible rfl | (focus (simp; done)))) | with_reducible apply live_alloc | with_reducible apply live_drew | with_reducible apply live_drewN | ((with_reducible apply live_set_other); (case hb => first | omega | (simp; done))) | with_reducible apply live_set_same | (focus (simp; done))))); obtain ⟨p2c, e2c, f2c⟩ := id L2c; have L2d := live_below hb2 (b := TO) (by (repeat (first | with_reducible assumption | ((with_reducible apply live_new) <;> (first | with_reducible rfl | (focus (simp; done)))) | with_reducible apply live_alloc | with_reducible apply live_drew | with_reducible apply live_drewN | ((with_reducible apply live_set_other); (case hb => first | omega | (simp; done))) | with_reducible apply live_set_same | (focus (simp; done))))); obtain ⟨p2d, e2d, f2d⟩ := id L2d; clear e2a e2b e2c e2d)
      refine gen_world (fun wx => ∃ C, C = w2.heap.size ∧ TO < C ∧ Live wx w.heap.size (mach f x t) ∧ Live wx (w.heap.size + 1) #[.int .i64 0, .int .i64 0, .int .i64 0, .int .i64 0] ∧ Live wx AT #[.int .i64 (wAt f x t p k 0), .int .i64 (wAt f x t p k 1), .int .i64 (wAt f x t p k 2), .int .i64 (wAt f x t p k 3)] ∧ Live wx TO #[.int .i64 (wTo f x t p k 0), .int .i64 (wTo f x t p k 1), .int .i64 (wTo f x t p k 2), .int .i64 (wTo f x t p k 3)] ∧ Live wx C #[.int .i64 (wC f x t p k 0), .int .i64 (wC f x t p k 1), .int .i64 (wC f x t p k 2), .int .i64 (wC f x t p k 3)] ∧ wx.ownsRow (AT + 1) 36 8 (.slice la (wN f x t p k) lc) (wN f x t p k) (arrF (wN f x t p k * 8) (flat (wG f x t fd p k))).toList ∧ wx.ownsRow (AT + 1) 3 1 (.slice ca (wN f x t p k) cc) (wN f x t p k) (arrF (wN f x t p k) (wZ f x t fd p k)).toList ∧ Below w.heap.size w wx) ?_ ?_
      · exact ⟨_, rfl, p2d, by (repeat (first | with_reducible assumption | ((with_reducible apply live_new) <;> (first | with_reducible rfl | (focus (simp; done)))) | with_reducible apply live_alloc | with_reducible apply live_drew | with_reducible apply live_drewN | with_reducible apply live_put10 | with_reducible apply live_put8 | with_reducible apply live_put4 | ((with_reducible apply live_put10_other); (case hb => first | omega | (simp; done))) | ((with_reducible apply live_put8_other); (case hb => first | omega | (simp; done))) | ((with_reducible apply live_put4_other); (case hb => first | omega | (simp; done))) | ((with_reducible apply live_set_other); (case hb => first | omega | (simp; done))) | (focus (simp; done)))), by (repeat (first | with_reducible assumption | ((with_reducible apply live_new) <;> (first | with_reducible rfl | (focus (simp; done)))) | with_reducible apply live_alloc | with_reducible apply live_drew | with_reducible apply live_drewN | with_reducible apply live_put10 | with_reducible apply live_put8 | with_reducible apply live_put4 | ((with_reducible apply live_put10_other); (case hb => first | omega | (simp; done))) | ((with_reducible apply live_put8_other); (case hb => first | omega | (simp; done))) | ((with_reducible apply live_put4_other); (case hb => first | omega | (simp; done))) | ((with_reducible apply live_set_other); (case hb => first | omega | (simp; done))) | (focus (simp; done)))), by (repeat (first | with_reducible assumption | ((with_reducible apply live_new) <;> (first | with_reducible rfl | (focus (simp; done)))) | with_reducible apply live_alloc | with_reducible apply live_drew | with_reducible apply live_drewN | with_reducible apply live_put10 | with_reducible apply live_put8 | with_reducible apply live_put4 | ((with_reducible apply live_put10_other); (case hb => first | omega | (simp; done))) | ((with_reducible apply live_put8_other); (case hb => first | omega | (simp; done))) | ((with_reducible apply live_put4_other); (case hb => first | omega | (simp; done))) | ((with_reducible apply live_set_other); (case hb => first | omega | (simp; done))) | (focus (simp; done)))), by (repeat (first | with_reducible assumption | ((with_reducible apply live_new) <;> (first | with_reducible rfl | (focus (simp; done)))) | with_reducible apply live_alloc | with_reducible apply live_drew | with_reducible apply live_drewN | with_reducible apply live_put10 | with_reducible apply live_put8 | with_reducible apply live_put4 | ((with_reducible apply live_put10_other); (case hb => first | omega | (simp; done))) | ((with_reducible apply live_put8_other); (case hb => first | omega | (simp; done))) | ((with_reducible apply live_put4_other); (case hb => first | omega | (simp; done))) | ((with_reducible apply live_set_other); (case hb => first | omega | (simp; done))) | (focus (simp; done)))), by (repeat (first | with_reducible assumption | ((with_reducible apply live_new) <;> (first | with_reducible rfl | (focus (simp; done)))) | with_reducible apply live_alloc | with_reducible apply live_drew | with_reducible apply live_drewN | with_reducible apply live_put10 | with_reducible apply live_put8 | with_reducible apply live_put4 | ((with_reducible apply live_put10_other); (case hb => first | omega | (simp; done))) | ((with_reducible apply live_put8_other); (case hb => first | omega | (simp; done))) | ((with_reducible apply live_put4_other); (case hb => first | omega | (simp; done))) | ((with_reducible apply live_set_other); (case hb => first | omega | (simp; done))) | (focus (simp; done)))), owns_below (owns_below R2.out hb2) (by (repeat' (first | with_reducible exact Below.refl _ _ | with_reducible refine Below.drew ?_ | with_reducible refine below_drewN ?_ _ | with_reducible refine Below.alloc ?_ ?_ _ | with_reducible refine Below.setCell ?_ ?_ _ | with_reducible refine Below.trans ?_ (Below.mono (by with_reducible assumption) ?_) | (simp; done) | (simp; omega) | omega))), owns_below (owns_below C2.out hb2) (by (repeat' (first | with_reducible exact Below.refl _ _ | with_reducible refine Below.drew ?_ | with_reducible refine below_drewN ?_ _ | with_reducible refine Below.alloc ?_ ?_ _ | with_reducible refine Below.setCell ?_ ?_ _ | with_reducible refine Below.trans ?_ (Below.mono (by with_reducible assumption) ?_) | (simp; done) | (simp; omega) | omega))), by (repeat' (first | with_reducible exact Below.refl _ _ | with_reducible refine Below.drew ?_ | with_reducible refine below_drewN ?_ _ | with_reducible refine Below.alloc ?_ ?_ _ | with_reducible refine Below.setCell ?_ ?_ _ | with_reducible refine Below.trans ?_ (Below.mono (by with_reducible assumption) ?_) | (simp; done) | (simp; omega) | omega))⟩
      clear L' L1' LA' LTO q0 q1 q2 q3 r0 r1 r2 r3 R2 C2 KS hbw hb2 z2 L2a p2a f2a L2b p2b f2b L2c p2c f2c L2d f2d
      rintro wx ⟨C, hC, hTC, L, L1, LA, LT, LC, hrow, hcap, hb⟩
      rw [← hC]
      clear hC p2d
      have hbs := hb.size
      have HR := Lib.hid hrow
      have HC := Lib.hid hcap
      clear hrow hcap
      obtain ⟨c0, c1, c2, c3⟩ := live_four LC
      cases hm : wMv f x t p k
      case false =>
        have hsm : same4 (wC f x t p k 0) (wC f x t p k 1) (wC f x t p k 2) (wC f x t p k 3) 0 0 0 0 = true := by unfold wMv at hm; simpa using hm
        have he : ∀ w', (binOp .eql 32 (.agg #[.int .i64 (wC f x t p k 0), .int .i64 (wC f x t p k 1), .int .i64 (wC f x t p k 2), .int .i64 (wC f x t p k 3)]) (.agg #[.int .i64 0, .int .i64 0, .int .i64 0, .int .i64 0])).run Try.prog w' = .ok (.bool true) w' := fun w' => by rw [arr_eql, hsm]
        obtain ⟨y1, y2, y3, y4⟩ := wN_no f x t fd p k hm
        have HRk : wx.ownsRow (AT + 1) 36 8 (.slice la (wN f x t p k) lc) (wN f x t p (k + 1)) (arrF (wN f x t p (k + 1) * 8) (flat (wG f x t fd p (k + 1)))).toList := by rw [y1, y2]; exact HR.out
        have HCk : wx.ownsRow (AT + 1) 3 1 (.slice ca (wN f x t p k) cc) (wN f x t p (k + 1)) (arrF (wN f x t p (k + 1)) (wZ f x t fd p (k + 1))).toList := by rw [y1, y3]; exact HC.out
        have LAk : Live wx AT #[.int .i64 (wAt f x t p (k + 1) 0), .int .i64 (wAt f x t p (k + 1) 1), .int .i64 (wAt f x t p (k + 1) 2), .int .i64 (wAt f x t p (k + 1) 3)] := by rw [y4 0 (by omega), y4 1 (by omega), y4 2 (by omega), y4 3 (by omega)]; exact LA
        have HRk' := Lib.hid HRk
        have HCk' := Lib.hid HCk
        clear y1 y2 y3 y4 hsm HRk HCk
        go_wp2_with fail
        go_roundw
        case rel => exact ⟨k + 1, by go_num, by omega, HRk'.out, HCk'.out, L, L1, LAk, hb⟩
        case measure => first | (simp [intOf]; done) | (simp [intOf]; omega)
      case true =>
        have hsm : same4 (wC f x t p k 0) (wC f x t p k 1) (wC f x t p k 2) (wC f x t p k 3) 0 0 0 0 = false := by unfold wMv at hm; simpa using hm
        have he : ∀ w', (binOp .eql 32 (.agg #[.int .i64 (wC f x t p k 0), .int .i64 (wC f x t p k 1), .int .i64 (wC f x t p k 2), .int .i64 (wC f x t p k 3)]) (.agg #[.int .i64 0, .int .i64 0, .int .i64 0, .int .i64 0])).run Try.prog w' = .ok (.bool false) w' := fun w' => by rw [arr_eql, hsm]
        have hd := w_dda f x t p HV.out HS.out n HP.out k hlt hm
        obtain ⟨⟨v0, v1⟩, a0, a1⟩ := w_speed f x t fd p HV.out HS.out n HP.out k hlt hm
        obtain ⟨s0, s1⟩ := w_sq f x t fd p HV.out HS.out n HP.out k hlt hm
        obtain ⟨⟨u0, u1⟩, u2, u3⟩ := w_jun f x t fd p HV.out HS.out n HP.out k hlt
        have KSP : Hid (∀ w, Calls Try.prog 18 #[.agg (mach f x t), .agg #[.int .i64 (wC f x t p k 0), .int .i64 (wC f x t p k 1), .int .i64 (wC f x t p k 2), .int .i64 (wC f x t p k 3)], .int .i64 40, .int .i64 fd] w fun e w' => e = .returned (.int .i64 (wV f x t fd p k)) ∧ Below w.heap.size w w') := Lib.hid (fun w => lim_speed_t f x t _ _ _ _ 40 fd w HV.out hd (by omega) HF.out)
        have KAC : Hid (∀ w, Calls Try.prog 20 #[.agg (mach f x t), .agg #[.int .i64 (wC f x t p k 0), .int .i64 (wC f x t p k 1), .int .i64 (wC f x t p k 2), .int .i64 (wC f x t p k 3)]] w fun e w' => e = .returned (.int .i64 (wA f x t p k)) ∧ Below w.heap.size w w') := Lib.hid (fun w => lim_accel_t f x t _ _ _ _ w HV.out hd)
        have x1 : RowKit.wrap64 (wV f x t fd p k * wV f x t fd p k) = wV f x t fd p k * wV f x t fd p k := by unfold RowKit.wrap64; omega
        have x1' : IntKind.i64.wrap (wV f x t fd p k * wV f x t fd p k) = wV f x t fd p k * wV f x t fd p k := IntWalk.i64_in _ (by omega)
        have x2 : RowKit.wrap64 (wJ f x t fd p k * wJ f x t fd p k) = wJ f x t fd p k * wJ f x t fd p k := by unfold RowKit.wrap64; omega
        have x2' : IntKind.i64.wrap (wJ f x t fd p k * wJ f x t fd p k) = wJ f x t fd p k * wJ f x t fd p k := IntWalk.i64_in _ (by omega)
        have lm0 := loadM_run (live_rangeAll L)
        have pC := LC.1
        clear hsm v0 v1 a0 a1 s0 s1 u0 u1 u2 u3
        go_upto_if 61 with (go_at_call 18; (with_reducible refine (KSP.out _).mono ?_); rintro e w3 ⟨rfl, hb3⟩; have z3 := hb3.size; (try simp at z3); have L3a := live_below hb3 (b := w.heap.size) (by (repeat (first | with_reducible assumption | ((with_reducible apply live_new) <;> (first | with_reducible rfl | (focus (simp; done)))) | with_reducible apply live_alloc | with_reducible apply live_drew | with_reducible apply live_drewN | ((with_reducible apply live_set_other); (case hb => first | omega | (simp; done))) | with_reducible apply live_set_same | (focus (simp; done))))); obtain ⟨p3a, e3a, f3a⟩ := id L3a; have L3b := live_below hb3 (b := w.heap.size + 1) (by (repeat (first | with_reducible assumption | ((with_reducible apply live_new) <;> (first | with_reducible rfl | (focus (simp; done)))) | with_reducible apply live_alloc | with_reducible apply live_drew | with_reducible apply live_drewN | ((with_reducible apply live_set_other); (case hb => first | omega | (simp; done))) | with_reducible apply live_set_same | (focus (simp; done))))); obtain ⟨p3b, e3b, f3b⟩ := id L3b; have L3c := live_below hb3 (b := AT) (by (repeat (first | with_reducible assumption | ((with_reducible apply live_new) <;> (first | with_reducible rfl | (focus (simp; done)))) | with_reducible apply live_alloc | with_reducible apply live_drew | with_reducible apply live_drewN | ((with_reducible apply live_set_other); (case hb => first | omega | (simp; done))) | with_reducible apply live_set_same | (focus (simp; done))))); obtain ⟨p3c, e3c, f3c⟩ := id L3c; have L3d := live_below hb3 (b := TO) (by (repeat (first | with_reducible assumption | ((with_reducible apply live_new) <;> (first | with_reducible rfl | (focus (simp; done)))) | with_reducible apply live_alloc | with_reducible apply live_drew | with_reducible apply live_drewN | ((with_reducible apply live_set_other); (case hb => first | omega | (simp; done))) | with_reducible apply live_set_same | (focus (simp; done))))); obtain ⟨p3d, e3d, f3d⟩ := id L3d; have L3e := live_below hb3 (b := C) (by (repeat (first | with_reducible assumption | ((with_reducible apply live_new) <;> (first | with_reducible rfl | (focus (simp; done)))) | with_reducible apply live_alloc | with_reducible apply live_drew | with_reducible apply live_drewN | ((with_reducible apply live_set_other); (case hb => first | omega | (simp; done))) | with_reducible apply live_set_same | (focus (simp; done))))); obtain ⟨p3e, e3e, f3e⟩ := id L3e; clear e3a e3b e3c e3d)
        refine gen_world (fun wx => C < wx.heap.size ∧ Live wx w.heap.size (mach f x t) ∧ Live wx (w.heap.size + 1) #[.int .i64 0, .int .i64 0, .int .i64 0, .int .i64 0] ∧ Live wx AT #[.int .i64 (wAt f x t p k 0), .int .i64 (wAt f x t p k 1), .int .i64 (wAt f x t p k 2), .int .i64 (wAt f x t p k 3)] ∧ Live wx TO #[.int .i64 (wTo f x t p k 0), .int .i64 (wTo f x t p k 1), .int .i64 (wTo f x t p k 2), .int .i64 (wTo f x t p k 3)] ∧ Live wx C #[.int .i64 (wC f x t p k 0), .int .i64 (wC f x t p k 1), .int .i64 (wC f x t p k 2), .int .i64 (wC f x t p k 3)] ∧ wx.ownsRow (AT + 1) 36 8 (.slice la (wN f x t p k) lc) (wN f x t p k) (arrF (wN f x t p k * 8) (flat (wG f x t fd p k))).toList ∧ wx.ownsRow (AT + 1) 3 1 (.slice ca (wN f x t p k) cc) (wN f x t p k) (arrF (wN f x t p k) (wZ f x t fd p k)).toList ∧ Below w.heap.size w wx) ?_ ?_
        · exact ⟨p3e, L3a, L3b, L3c, L3d, L3e, owns_below HR.out hb3, owns_below HC.out hb3, by (repeat' (first | with_reducible exact Below.refl _ _ | with_reducible refine Below.drew ?_ | with_reducible refine below_drewN ?_ _ | with_reducible refine Below.alloc ?_ ?_ _ | with_reducible refine Below.setCell ?_ ?_ _ | with_reducible refine Below.trans ?_ (Below.mono (by with_reducible assumption) ?_) | (simp; done) | (simp; omega) | omega))⟩
        clear L L1 LA LT LC HR HC hb hbs hb3 z3 L3a p3a f3a L3b p3b f3b L3c p3c f3c L3d p3d f3d L3e p3e e3e f3e c0 c1 c2 c3 KSP lm0 pC he
        rintro wx ⟨pC, L, L1, LA, LT, LC, hrow, hcap, hb⟩
        have hbs := hb.size
        have p0 := L.1
        have HR := Lib.hid hrow
        have HC := Lib.hid hcap
        clear hcap
        have lm : ∀ w' : World, w'.rangeAt w.heap.size 0 (mach f x t).toList → (loadM (.pointer (some ⟨w.heap.size, 0, none⟩))).run Try.prog w' = .ok (.agg (mach f x t)) w' := fun w' h => loadM_run h
        go_cut [18] (fun s18 wz => s18 = .int .i64 (wJ f x t fd p k) ∧ Below wx.heap.size wx wz)
        case first =>
          by_cases hN : wN f x t p k = 0
          · have hJ : wJ f x t fd p k = 0 := by unfold wJ; rw [if_pos hN]
            have jN : decide (0 < wN f x t p k) = false := by simp; omega
            have jN' : decide ((0 : Int) < (wN f x t p k : Int)) = false := by simp; omega
            go_wp2_with fail
            go_meet
            exact ⟨by rw [hJ], Below.refl _ _⟩
          · have jN : decide (0 < wN f x t p k) = true := by simp; omega
            have jN' : decide ((0 : Int) < (wN f x t p k : Int)) = true := by simp; omega
            obtain ⟨gb, hga, _, _⟩ : ∃ gb, la = some ⟨gb, 0, none⟩ ∧ True ∧ True := by
              obtain ⟨a, cap, hv, _, _, h3⟩ := owns_cell hrow rfl
              obtain ⟨b', hb', _⟩ := h3 (by omega)
              cases hv
              exact ⟨b', hb', trivial, trivial⟩
            subst hga
            have HG : Hid (BlkS wx (some ⟨gb, 0, none⟩) (wN f x t p k) (wG f x t fd p k)) := Lib.hid (by
              obtain ⟨a, cap, hv, _, _, h3⟩ := owns_blk hrow
              cases hv
              exact h3)
            have hNm : wN f x t p k - 1 < wN f x t p k := by omega
            have KJ : Hid (∀ w, Calls Try.prog 19 #[.agg (mach f x t), .agg #[.int .i64 (wG f x t fd p k (wN f x t p k - 1) 0), .int .i64 (wG f x t fd p k (wN f x t p k - 1) 1), .int .i64 (wG f x t fd p k (wN f x t p k - 1) 2), .int .i64 (wG f x t fd p k (wN f x t p k - 1) 3)], .agg #[.int .i64 (wC f x t p k 0), .int .i64 (wC f x t p k 1), .int .i64 (wC f x t p k 2), .int .i64 (wC f x t p k 3)]] w fun e w' => e = .returned (.int .i64 (wJ f x t fd p k)) ∧ Below w.heap.size w w') := Lib.hid (fun w => by
              have hs1 := w_snd f x t fd p HV.out HS.out n HP.out k (wN f x t p k - 1) hk hNm
              unfold bsnd blkSound at hs1
              rw [Bool.and_eq_true] at hs1
              have h := lim_junction_t f x t _ _ _ _ _ _ _ _ w HV.out hs1.1 hd
              unfold wJ
              rw [if_neg hN]
              exact h)
            have i3 : IntKind.i64.wrap ((wN f x t p k : Int) - 1) = (wN f x t p k : Int) - 1 := IntWalk.i64_in _ (by omega)
            have i3' : RowKit.wrap64 ((wN f x t p k : Int) - 1) = (wN f x t p k : Int) - 1 := by unfold RowKit.wrap64; omega
            have i4 : ((wN f x t p k : Int) - 1).toNat = wN f x t p k - 1 := by omega
            have i5 : 0 ≤ (wN f x t p k : Int) - 1 := by omega
            have i5' : (1 : Int) ≤ (wN f x t p k : Int) := by omega
            have i6 : (wN f x t p k : Int) - 1 < (wN f x t p k : Int) := by omega
            clear hrow x1 x1' x2 x2'
            go_upto_region 17 with (fail)
            go_region_held3 (fun w' => w'.rangeAt w.heap.size 0 (mach f x t).toList ∧ w'.cell? ⟨gb, (wN f x t p k - 1) * 8, none⟩ = some (.int .i64 (wG f x t fd p k (wN f x t p k - 1) 0)) ∧ w'.cell? ⟨gb, (wN f x t p k - 1) * 8 + 1, none⟩ = some (.int .i64 (wG f x t fd p k (wN f x t p k - 1) 1)) ∧ w'.cell? ⟨gb, (wN f x t p k - 1) * 8 + 2, none⟩ = some (.int .i64 (wG f x t fd p k (wN f x t p k - 1) 2)) ∧ w'.cell? ⟨gb, (wN f x t p k - 1) * 8 + 3, none⟩ = some (.int .i64 (wG f x t fd p k (wN f x t p k - 1) 3)) ∧ w'.cell? ⟨C, 0, none⟩ = some (.int .i64 (wC f x t p k 0)) ∧ w'.cell? ⟨C, 1, none⟩ = some (.int .i64 (wC f x t p k 1)) ∧ w'.cell? ⟨C, 2, none⟩ = some (.int .i64 (wC f x t p k 2)) ∧ w'.cell? ⟨C, 3, none⟩ = some (.int .i64 (wC f x t p k 3))) (first | (focus (((with_reducible apply keepP17 L LC HG.out hNm) <;> (repeat' (first | with_reducible exact Below.refl _ _ | with_reducible refine Below.drew ?_ | with_reducible refine below_drewN ?_ _ | with_reducible refine Below.alloc ?_ ?_ _ | with_reducible refine Below.setCell ?_ ?_ _ | with_reducible refine Below.trans ?_ (Below.mono (by with_reducible assumption) ?_) | (simp; done) | (simp; omega) | omega))); done)) | go_keep)
              ((go_at_call 19; (with_reducible refine (KJ.out _).mono ?_); rintro e w4 ⟨rfl, hb4⟩; have z4 := hb4.size; (try simp at z4)))
            all_goals (try go_wp2_with fail)
            all_goals go_meet
            all_goals refine ⟨rfl, ?_⟩
            all_goals (repeat' (first | with_reducible exact Below.refl _ _ | with_reducible refine Below.drew ?_ | with_reducible refine below_drewN ?_ _ | with_reducible refine Below.alloc ?_ ?_ _ | with_reducible refine Below.setCell ?_ ?_ _ | with_reducible refine Below.trans ?_ (Below.mono (by with_reducible assumption) ?_) | (simp; done) | (simp; omega) | omega))
        case rest =>
        obtain ⟨rfl, hbr⟩ := hcut
        have zr := hbr.size
        have hbw : Below w.heap.size w _ := Below.trans hb (hbr.mono hbs)
        have L' := live_below hbr L
        have L1' := live_below hbr L1
        have LA' := live_below hbr LA
        have LT' := live_below hbr LT
        have LC' := live_below hbr LC
        have hr' := owns_below HR.out hbr
        have hc' := owns_below HC.out hbr
        refine gen_world (fun wx => C < wx.heap.size ∧ Live wx w.heap.size (mach f x t) ∧ Live wx (w.heap.size + 1) #[.int .i64 0, .int .i64 0, .int .i64 0, .int .i64 0] ∧ Live wx AT #[.int .i64 (wAt f x t p k 0), .int .i64 (wAt f x t p k 1), .int .i64 (wAt f x t p k 2), .int .i64 (wAt f x t p k 3)] ∧ Live wx TO #[.int .i64 (wTo f x t p k 0), .int .i64 (wTo f x t p k 1), .int .i64 (wTo f x t p k 2), .int .i64 (wTo f x t p k 3)] ∧ Live wx C #[.int .i64 (wC f x t p k 0), .int .i64 (wC f x t p k 1), .int .i64 (wC f x t p k 2), .int .i64 (wC f x t p k 3)] ∧ wx.ownsRow (AT + 1) 36 8 (.slice la (wN f x t p k) lc) (wN f x t p k) (arrF (wN f x t p k * 8) (flat (wG f x t fd p k))).toList ∧ wx.ownsRow (AT + 1) 3 1 (.slice ca (wN f x t p k) cc) (wN f x t p k) (arrF (wN f x t p k) (wZ f x t fd p k)).toList ∧ Below w.heap.size w wx) ?_ ?_
        · exact ⟨by omega, L', L1', LA', LT', LC', hr', hc', hbw⟩
        clear L L1 LA LT LC hb hbs L' L1' LA' LT' LC' HR HC hr' hc' hbw hbr zr pC p0 hrow
        rintro wx ⟨pC, L, L1, LA, LT, LC, hrow, hcap, hb⟩
        have hbs := hb.size
        have p0 := L.1
        have HR := Lib.hid hrow
        have HC := Lib.hid hcap
        clear hrow hcap
        go_upto_region 18 with (fail)
        refine wp_region_noPanic ?_
        refine wp_region_held_drew (S := (fun w' => w'.rangeAt w.heap.size 0 (mach f x t).toList ∧ w'.cell? ⟨C, 0, none⟩ = some (.int .i64 (wC f x t p k 0)) ∧ w'.cell? ⟨C, 1, none⟩ = some (.int .i64 (wC f x t p k 1)) ∧ w'.cell? ⟨C, 2, none⟩ = some (.int .i64 (wC f x t p k 2)) ∧ w'.cell? ⟨C, 3, none⟩ = some (.int .i64 (wC f x t p k 3)))) (by kernel_rfl) ?_ (fun hHeld => ?_)
        · (try dsimp only); (first | (with_reducible exact hS6) | (focus (((with_reducible apply keepP18 L LC) <;> (repeat' (first | with_reducible exact Below.refl _ _ | with_reducible refine Below.drew ?_ | with_reducible refine below_drewN ?_ _ | with_reducible refine Below.alloc ?_ ?_ _ | with_reducible refine Below.setCell ?_ ?_ _ | with_reducible refine Below.trans ?_ (Below.mono (by with_reducible assumption) ?_) | (simp; done) | (simp; omega) | omega))); done)))
        refine wpAnyH_take (i := 0) (oi := ?z1oi) (v := ?z1v) ?z1hi (by kernel_rfl) (by kernel_rfl) (by kernel_rfl) (fun _ _ _ h => h) (Or.inl ⟨?z1hw, ?z1hy⟩) hHeld ?z1rest
        case z1hi => (simp only [List.getElem?_toArray, List.getElem?_cons_zero]; exact rfl)
        case z1hw => rfl
        case z1hy => (intro w hSw; (try dsimp only at hSw); go_simp; (try with_reducible rfl))
        (try simp only [Act.put, List.setIfInBounds_toArray, List.set_cons_zero, List.set_cons_succ])
        refine wpAnyH_take (i := 1) (oi := ?z2oi) (v := ?z2v) ?z2hi (by kernel_rfl) (by kernel_rfl) (by kernel_rfl) (fun _ _ _ h => h) (Or.inl ⟨?z2hw, ?z2hy⟩) hHeld ?z2rest
        case z2hi => (simp only [List.getElem?_toArray, List.getElem?_cons_succ, List.getElem?_cons_zero]; exact rfl)
        case z2hw => rfl
        case z2hy => (intro w hSw; (try dsimp only at hSw); go_simp; (try with_reducible rfl))
        (try simp only [Act.put, List.setIfInBounds_toArray, List.set_cons_zero, List.set_cons_succ])
        refine wpAnyH_take (i := 2) (oi := ?z3oi) (v := ?z3v) ?z3hi (by kernel_rfl) (by kernel_rfl) (by kernel_rfl) (fun _ _ _ h => h) (Or.inl ⟨?z3hw, ?z3hy⟩) hHeld ?z3rest
        case z3hi => (simp only [List.getElem?_toArray, List.getElem?_cons_succ, List.getElem?_cons_zero]; exact rfl)
        case z3hw => rfl
        case z3hy => (intro w hSw; (try dsimp only at hSw); go_simp; (try with_reducible rfl))
        (try simp only [Act.put, List.setIfInBounds_toArray, List.set_cons_zero, List.set_cons_succ])
        refine wpAnyH_take (i := 3) (oi := ?z4oi) (v := ?z4v) ?z4hi (by kernel_rfl) (by kernel_rfl) (by kernel_rfl) (fun _ _ _ h => h) (Or.inl ⟨?z4hw, ?z4hy⟩) hHeld ?z4rest
        case z4hi => (simp only [List.getElem?_toArray, List.getElem?_cons_succ, List.getElem?_cons_zero]; exact rfl)
        case z4hw => rfl
        case z4hy => (intro w hSw; (try dsimp only at hSw); go_simp; (try with_reducible rfl))
        (try simp only [Act.put, List.setIfInBounds_toArray, List.set_cons_zero, List.set_cons_succ])
        refine wpAnyH_take (i := 5) (oi := ?z5oi) (v := ?z5v) ?z5hi (by kernel_rfl) (by kernel_rfl) (by kernel_rfl) (fun _ _ _ h => h) (Or.inl ⟨?z5hw, ?z5hy⟩) hHeld ?z5rest
        case z5hi => (simp only [List.getElem?_toArray, List.getElem?_cons_succ, List.getElem?_cons_zero]; exact rfl)
        case z5hw => rfl
        case z5hy => (intro w hSw; (try dsimp only at hSw); go_simp; (try with_reducible rfl))
        (try simp only [Act.put, List.setIfInBounds_toArray, List.set_cons_zero, List.set_cons_succ])
        refine wpAnyH_take (i := 6) (oi := ?z6oi) (v := ?z6v) ?z6hi (by kernel_rfl) (by kernel_rfl) (by kernel_rfl) (fun _ _ _ h => h) (Or.inl ⟨?z6hw, ?z6hy⟩) hHeld ?z6rest
        case z6hi => (simp only [List.getElem?_toArray, List.getElem?_cons_succ, List.getElem?_cons_zero]; exact rfl)
        case z6hw => rfl
        case z6hy => (intro w hSw; (try dsimp only at hSw); go_simp; (try with_reducible rfl))
        (try simp only [Act.put, List.setIfInBounds_toArray, List.set_cons_zero, List.set_cons_succ])
        refine wpAnyH_take (i := 7) (oi := ?z7oi) (v := ?z7v) ?z7hi (by kernel_rfl) (by kernel_rfl) (by kernel_rfl) (fun _ _ _ h => h) (Or.inl ⟨?z7hw, ?z7hy⟩) hHeld ?z7rest
        case z7hi => (simp only [List.getElem?_toArray, List.getElem?_cons_succ, List.getElem?_cons_zero]; exact rfl)
        case z7hw => rfl
        case z7hy => (intro w hSw; (try dsimp only at hSw); go_simp; (try with_reducible rfl))
        (try simp only [Act.put, List.setIfInBounds_toArray, List.set_cons_zero, List.set_cons_succ])
        refine wpAnyH_ready (rs := [4]) (by kernel_rfl) (by simp) ?_
        refine AllReadyH.cons (o := ?z8oi) ?z8hi (fun K hK => ?_) AllReadyH.nil
        case z8hi => (simp only [List.getElem?_toArray, List.getElem?_cons_succ, List.getElem?_cons_zero]; exact rfl)
        go_simp
        (go_at_call 20; (with_reducible refine (KAC.out _).mono ?_); rintro e w5 ⟨rfl, hb5⟩; have z5 := hb5.size; (try simp at z5); have L5 : Live w5 w.heap.size (mach f x t) := live_below hb5 (by (repeat (first | with_reducible assumption | ((with_reducible apply live_new) <;> (first | with_reducible rfl | (focus (simp; done)))) | with_reducible apply live_alloc | with_reducible apply live_drew | with_reducible apply live_drewN | ((with_reducible apply live_set_other); (case hb => first | omega | (simp; done))) | with_reducible apply live_set_same | (focus (simp; done))))); have R5 : Live w5 (w.heap.size + 1) #[.int .i64 0, .int .i64 0, .int .i64 0, .int .i64 0] := live_below hb5 (by (repeat (first | with_reducible assumption | ((with_reducible apply live_new) <;> (first | with_reducible rfl | (focus (simp; done)))) | with_reducible apply live_alloc | with_reducible apply live_drew | with_reducible apply live_drewN | ((with_reducible apply live_set_other); (case hb => first | omega | (simp; done))) | with_reducible apply live_set_same | (focus (simp; done))))); have A5 : Live w5 AT #[.int .i64 (wAt f x t p k 0), .int .i64 (wAt f x t p k 1), .int .i64 (wAt f x t p k 2), .int .i64 (wAt f x t p k 3)] := live_below hb5 (by (repeat (first | with_reducible assumption | ((with_reducible apply live_new) <;> (first | with_reducible rfl | (focus (simp; done)))) | with_reducible apply live_alloc | with_reducible apply live_drew | with_reducible apply live_drewN | ((with_reducible apply live_set_other); (case hb => first | omega | (simp; done))) | with_reducible apply live_set_same | (focus (simp; done))))); have T5 : Live w5 TO #[.int .i64 (wTo f x t p k 0), .int .i64 (wTo f x t p k 1), .int .i64 (wTo f x t p k 2), .int .i64 (wTo f x t p k 3)] := live_below hb5 (by (repeat (first | with_reducible assumption | ((with_reducible apply live_new) <;> (first | with_reducible rfl | (focus (simp; done)))) | with_reducible apply live_alloc | with_reducible apply live_drew | with_reducible apply live_drewN | ((with_reducible apply live_set_other); (case hb => first | omega | (simp; done))) | with_reducible apply live_set_same | (focus (simp; done))))); have C5 : Live w5 C #[.int .i64 (wC f x t p k 0), .int .i64 (wC f x t p k 1), .int .i64 (wC f x t p k 2), .int .i64 (wC f x t p k 3)] := live_below hb5 (by (repeat (first | with_reducible assumption | ((with_reducible apply live_new) <;> (first | with_reducible rfl | (focus (simp; done)))) | with_reducible apply live_alloc | with_reducible apply live_drew | with_reducible apply live_drewN | ((with_reducible apply live_set_other); (case hb => first | omega | (simp; done))) | with_reducible apply live_set_same | (focus (simp; done))))); have hr5 := owns_below (World.ownsRow.drew HR.out) hb5; have hc5 := owns_below (World.ownsRow.drew HC.out) hb5)
        refine hK.out _ _ ?_ (fun hHeld => ?_)
        · (try dsimp only); (first | (with_reducible exact hS6) | (focus (((with_reducible apply keepP18 L LC) <;> (repeat' (first | with_reducible exact Below.refl _ _ | with_reducible refine Below.drew ?_ | with_reducible refine below_drewN ?_ _ | with_reducible refine Below.alloc ?_ ?_ _ | with_reducible refine Below.setCell ?_ ?_ _ | with_reducible refine Below.trans ?_ (Below.mono (by with_reducible assumption) ?_) | (simp; done) | (simp; omega) | omega))); done)))
        clear hK K
        (try simp only [Act.put, List.setIfInBounds_toArray, List.set_cons_zero, List.set_cons_succ])
        refine wpAnyH_take (i := 8) (oi := ?z9oi) (v := ?z9v) ?z9hi (by kernel_rfl) (by kernel_rfl) (by kernel_rfl) (fun _ _ _ h => h) (Or.inl ⟨?z9hw, ?z9hy⟩) hHeld ?z9rest
        case z9hi => (simp only [List.getElem?_toArray, List.getElem?_cons_succ, List.getElem?_cons_zero]; exact rfl)
        case z9hw => rfl
        case z9hy => (intro w hSw; (try dsimp only at hSw); go_simp; (try with_reducible rfl))
        (try simp only [Act.put, List.setIfInBounds_toArray, List.set_cons_zero, List.set_cons_succ])
        refine wpAnyH_ready (rs := [9]) (by kernel_rfl) (by simp) ?_
        refine AllReadyH.cons (o := ?z10oi) ?z10hi (fun K hK => ?_) AllReadyH.nil
        case z10hi => (simp only [List.getElem?_toArray, List.getElem?_cons_succ, List.getElem?_cons_zero]; exact rfl)
        go_simp
        skip
        refine hK.out _ _ ?_ (fun hHeld => ?_)
        · (try dsimp only); (first | (with_reducible exact hS6) | (focus (((with_reducible apply keepP18 L LC) <;> (repeat' (first | with_reducible exact Below.refl _ _ | with_reducible refine Below.drew ?_ | with_reducible refine below_drewN ?_ _ | with_reducible refine Below.alloc ?_ ?_ _ | with_reducible refine Below.setCell ?_ ?_ _ | with_reducible refine Below.trans ?_ (Below.mono (by with_reducible assumption) ?_) | (simp; done) | (simp; omega) | omega))); done)))
        clear hK K
        (try simp only [Act.put, List.setIfInBounds_toArray, List.set_cons_zero, List.set_cons_succ])
        refine wpAnyH_ready (rs := [10]) (by kernel_rfl) (by simp) ?_
        refine AllReadyH.cons (o := ?z11oi) ?z11hi (fun K hK => ?_) AllReadyH.nil
        case z11hi => (simp only [List.getElem?_toArray, List.getElem?_cons_succ, List.getElem?_cons_zero]; exact rfl)
        (rw [if_pos (by rfl)]; refine wp_append_own _ _ _ 31 rfl (AT + 1) 36 i0 _ 8 64 Try.underlying31 hi hz0 hz1 hz2 rfl (by decide) _ _ _ rfl (World.ownsRow.alloc hr5 _) ⟨w5.heap.size, 0, none⟩ 1 1 [.int .i64 (wC f x t p k 0), .int .i64 (wC f x t p k 1), .int .i64 (wC f x t p k 2), .int .i64 (wC f x t p k 3), .int .i64 (wA f x t p k), .int .i64 0, .int .i64 (wV f x t fd p k * wV f x t fd p k), .int .i64 0] rfl rfl ?_ ?_ ?_ ?_ ?_ ?_; (· intro j u hj; exact news_at (live_new _ _ rfl) _ rfl j u hj); (· intro u hu; simp at hu; rcases hu with rfl | rfl | rfl | rfl | rfl | rfl | rfl | rfl <;> rfl); (· unfold maxLen; omega); (· omega); (· simp; omega); intro v' w6 hown' hgrow _; have L6 : Live w6 w.heap.size (mach f x t) := live_grown (live_alloc L5 _) hgrow (fun h => by have := HRlt.out _ h.symm; omega); have C6 : Live w6 C #[.int .i64 (wC f x t p k 0), .int .i64 (wC f x t p k 1), .int .i64 (wC f x t p k 2), .int .i64 (wC f x t p k 3)] := live_grown (live_alloc C5 _) hgrow (fun h => by have := HRlt.out _ h.symm; omega); have hS6 : w6.rangeAt w.heap.size 0 (mach f x t).toList ∧ w6.cell? ⟨C, 0, none⟩ = some (.int .i64 (wC f x t p k 0)) ∧ w6.cell? ⟨C, 1, none⟩ = some (.int .i64 (wC f x t p k 1)) ∧ w6.cell? ⟨C, 2, none⟩ = some (.int .i64 (wC f x t p k 2)) ∧ w6.cell? ⟨C, 3, none⟩ = some (.int .i64 (wC f x t p k 3)) := ⟨live_rangeAll L6, C6.2.1 0, C6.2.1 1, C6.2.1 2, C6.2.1 3⟩)
        refine hK.out _ _ ?_ (fun hHeld => ?_)
        · (try dsimp only); (first | (with_reducible exact hS6) | (focus (((with_reducible apply keepP18 L LC) <;> (repeat' (first | with_reducible exact Below.refl _ _ | with_reducible refine Below.drew ?_ | with_reducible refine below_drewN ?_ _ | with_reducible refine Below.alloc ?_ ?_ _ | with_reducible refine Below.setCell ?_ ?_ _ | with_reducible refine Below.trans ?_ (Below.mono (by with_reducible assumption) ?_) | (simp; done) | (simp; omega) | omega))); done)))
        clear hK K
        (try simp only [Act.put, List.setIfInBounds_toArray, List.set_cons_zero, List.set_cons_succ])
        refine wpAnyH_take (i := 11) (oi := ?z12oi) (v := ?z12v) ?z12hi (by kernel_rfl) (by kernel_rfl) (by kernel_rfl) (fun _ _ _ h => h) (Or.inl ⟨?z12hw, ?z12hy⟩) hHeld ?z12rest
        case z12hi => (simp only [List.getElem?_toArray, List.getElem?_cons_succ, List.getElem?_cons_zero]; exact rfl)
        case z12hw => rfl
        case z12hy => (intro w hSw; (try dsimp only at hSw); go_simp; (try with_reducible rfl))
        (try simp only [Act.put, List.setIfInBounds_toArray, List.set_cons_zero, List.set_cons_succ])
        refine wpAnyH_done (by kernel_rfl) ?_ _
        refine NoPanic.normal ?_

        refine gen_world (fun wx => C < wx.heap.size ∧ Live wx w.heap.size (mach f x t) ∧ Live wx (w.heap.size + 1) #[.int .i64 0, .int .i64 0, .int .i64 0, .int .i64 0] ∧ Live wx AT #[.int .i64 (wAt f x t p k 0), .int .i64 (wAt f x t p k 1), .int .i64 (wAt f x t p k 2), .int .i64 (wAt f x t p k 3)] ∧ Live wx TO #[.int .i64 (wTo f x t p k 0), .int .i64 (wTo f x t p k 1), .int .i64 (wTo f x t p k 2), .int .i64 (wTo f x t p k 3)] ∧ wx.ownsRow (AT + 1) 36 8 v' (wN f x t p (k + 1)) (arrF (wN f x t p (k + 1) * 8) (flat (wG f x t fd p (k + 1)))).toList ∧ wx.ownsRow (AT + 1) 3 1 (.slice ca (wN f x t p k) cc) (wN f x t p k) (arrF (wN f x t p k) (wZ f x t fd p k)).toList ∧ Below w.heap.size w wx) ?_ ?_
        · refine ⟨C6.1, L6, live_grown (live_alloc R5 _) hgrow (fun h => by have := HRlt.out _ h.symm; omega), live_grown (live_alloc A5 _) hgrow (fun h => by have := HRlt.out _ h.symm; omega), live_grown (live_alloc T5 _) hgrow (fun h => by have := HRlt.out _ h.symm; omega), row_snoc f x t fd p k hm hown', World.ownsRow.kept (World.ownsRow.alloc hc5 _) hgrow (owns_apart hc5 hr5 (by decide)), ?_⟩
          refine Below.grown (w := w5.alloc _) (by (repeat' (first | with_reducible exact Below.refl _ _ | with_reducible refine Below.drew ?_ | with_reducible refine below_drewN ?_ _ | with_reducible refine Below.alloc ?_ ?_ _ | with_reducible refine Below.setCell ?_ ?_ _ | with_reducible refine Below.trans ?_ (Below.mono (by with_reducible assumption) ?_) | (simp; done) | (simp; omega) | omega))) hgrow (by simp; omega) (fun j hj => by have := HRlt.out _ hj; omega)
        clear L L1 LA LT LC hb hbs HR HC hr5 hc5 hown' hgrow L5 R5 A5 T5 C5 L6 C6 hS6 hb5 z5 p0 pC KAC x1 x1' lm
        rintro wx ⟨pC, L, L1, LA, LT, hrow, hcap, hb⟩
        have hbs := hb.size
        have p0 := L.1
        have HR := Lib.hid hrow
        have HC := Lib.hid hcap
        clear hrow hcap
        go_upto_region 20 with (at_builtin; refine wpList_append_own _ rfl _ _ 54 rfl (AT + 1) 3 i1 (.int .i64 0) 1 8 Try.underlying54 hi1 hy0 hy1 hy2 rfl (by decide) _ _ _ rfl (World.ownsRow.alloc HC.out _) ⟨wx.heap.size, 0, none⟩ 1 1 [.int .i64 (wJ f x t fd p k * wJ f x t fd p k)] rfl rfl ?_ ?_ ?_ ?_ ?_ ?_; (· intro j u hj; exact news_at (live_new _ _ rfl) _ rfl j u hj); (· intro u hu; simp at hu; subst hu; rfl); (· unfold maxLen; omega); (· omega); (· simp; omega); intro v2 w7 hown2 hgrow2 _)
        refine gen_world (fun wx => Live wx w.heap.size (mach f x t) ∧ Live wx (w.heap.size + 1) #[.int .i64 0, .int .i64 0, .int .i64 0, .int .i64 0] ∧ Live wx AT #[.int .i64 (wAt f x t p k 0), .int .i64 (wAt f x t p k 1), .int .i64 (wAt f x t p k 2), .int .i64 (wAt f x t p k 3)] ∧ Live wx TO #[.int .i64 (wTo f x t p k 0), .int .i64 (wTo f x t p k 1), .int .i64 (wTo f x t p k 2), .int .i64 (wTo f x t p k 3)] ∧ wx.ownsRow (AT + 1) 36 8 v' (wN f x t p (k + 1)) (arrF (wN f x t p (k + 1) * 8) (flat (wG f x t fd p (k + 1)))).toList ∧ wx.ownsRow (AT + 1) 3 1 v2 (wN f x t p (k + 1)) (arrF (wN f x t p (k + 1)) (wZ f x t fd p (k + 1))).toList ∧ Below w.heap.size w wx) ?_ ?_
        · refine ⟨live_grown (live_alloc L _) hgrow2 (fun h => by have := HClt.out _ h.symm; omega), live_grown (live_alloc L1 _) hgrow2 (fun h => by have := HClt.out _ h.symm; omega), live_grown (live_alloc LA _) hgrow2 (fun h => by have := HClt.out _ h.symm; omega), live_grown (live_alloc LT _) hgrow2 (fun h => by have := HClt.out _ h.symm; omega), World.ownsRow.kept (World.ownsRow.alloc HR.out _) hgrow2 (owns_apart HR.out HC.out (by decide)), cap_snoc f x t fd p k hm hown2, ?_⟩
          refine Below.grown (w := wx.alloc _) (by (repeat' (first | with_reducible exact Below.refl _ _ | with_reducible refine Below.drew ?_ | with_reducible refine below_drewN ?_ _ | with_reducible refine Below.alloc ?_ ?_ _ | with_reducible refine Below.setCell ?_ ?_ _ | with_reducible refine Below.trans ?_ (Below.mono (by with_reducible assumption) ?_) | (simp; done) | (simp; omega) | omega))) hgrow2 (by simp; omega) (fun j hj => by have := HClt.out _ hj; omega)
        clear L L1 LA LT hb hbs HR HC hown2 hgrow2 p0 pC x2 x2'
        rintro wx ⟨L, L1, LA, LT, hrow, hcap, hb⟩
        have hbs := hb.size
        have p0 := LA.1
        have HR := Lib.hid hrow
        have HC := Lib.hid hcap
        clear hrow hcap
        obtain ⟨q0, q1, q2, q3⟩ := live_four LT
        have fA := LA.2.2
        obtain ⟨r0, r1, r2, r3⟩ := live_four LA
        go_wp2_with fail
        go_roundw
        case rel => exact ⟨k + 1, by go_num, by omega, owns_set (owns_set (owns_set (owns_set HR.out (by omega) _ _) (by omega) _ _) (by omega) _ _) (by omega) _ _, owns_set (owns_set (owns_set (owns_set HC.out (by omega) _ _) (by omega) _ _) (by omega) _ _) (by omega) _ _, by (repeat (first | with_reducible assumption | ((with_reducible apply live_new) <;> (first | with_reducible rfl | (focus (simp; done)))) | with_reducible apply live_alloc | with_reducible apply live_drew | with_reducible apply live_drewN | with_reducible apply live_put10 | with_reducible apply live_put8 | with_reducible apply live_put4 | ((with_reducible apply live_put10_other); (case hb => first | omega | (simp; done))) | ((with_reducible apply live_put8_other); (case hb => first | omega | (simp; done))) | ((with_reducible apply live_put4_other); (case hb => first | omega | (simp; done))) | ((with_reducible apply live_set_other); (case hb => first | omega | (simp; done))) | (focus (simp; done)))), by (repeat (first | with_reducible assumption | ((with_reducible apply live_new) <;> (first | with_reducible rfl | (focus (simp; done)))) | with_reducible apply live_alloc | with_reducible apply live_drew | with_reducible apply live_drewN | with_reducible apply live_put10 | with_reducible apply live_put8 | with_reducible apply live_put4 | ((with_reducible apply live_put10_other); (case hb => first | omega | (simp; done))) | ((with_reducible apply live_put8_other); (case hb => first | omega | (simp; done))) | ((with_reducible apply live_put4_other); (case hb => first | omega | (simp; done))) | ((with_reducible apply live_set_other); (case hb => first | omega | (simp; done))) | (focus (simp; done)))), (by show Live _ AT #[.int .i64 (wTo f x t p k 0), .int .i64 (wTo f x t p k 1), .int .i64 (wTo f x t p k 2), .int .i64 (wTo f x t p k 3)]; (repeat (first | with_reducible assumption | ((with_reducible apply live_new) <;> (first | with_reducible rfl | (focus (simp; done)))) | with_reducible apply live_alloc | with_reducible apply live_drew | with_reducible apply live_drewN | with_reducible apply live_put10 | with_reducible apply live_put8 | with_reducible apply live_put4 | ((with_reducible apply live_put10_other); (case hb => first | omega | (simp; done))) | ((with_reducible apply live_put8_other); (case hb => first | omega | (simp; done))) | ((with_reducible apply live_put4_other); (case hb => first | omega | (simp; done))) | ((with_reducible apply live_set_other); (case hb => first | omega | (simp; done))) | (focus (simp; done))))), by (repeat' (first | with_reducible exact Below.refl _ _ | with_reducible refine Below.drew ?_ | with_reducible refine below_drewN ?_ _ | with_reducible refine Below.alloc ?_ ?_ _ | with_reducible refine Below.setCell ?_ ?_ _ | with_reducible refine Below.trans ?_ (Below.mono (by with_reducible assumption) ?_) | (simp; done) | (simp; omega) | omega))⟩
        case measure => first | (simp [intOf]; done) | (simp [intOf]; omega)
    · obtain rfl : k = n := by omega
      have j0 : decide ((k : Int) < (k : Int)) = false := by simp
      have HB : Hid (BlkS wr la (wN f x t p k) (wG f x t fd p k)) := Lib.hid (by
        obtain ⟨a, cap, hv, _, _, h3⟩ := owns_blk HR.out
        cases hv
        exact h3)
      have HI : Hid (IntS wr ca (wN f x t p k) (wZ f x t fd p k)) := Lib.hid (by
        obtain ⟨a, cap, hv, _, _, h3⟩ := owns_int HC.out
        cases hv
        exact h3)
      have KP := Lib.hid (fun w' hl hc => ahead_plan (wG f x t fd p k) (wZ f x t fd p k) 0 la ca (wN f x t p k) (wN f x t p k) lc cc w' (w_i64 f x t fd p HV.out HS.out k HP.out k (Nat.le_refl _)) (w_z64 f x t fd p HV.out HS.out k HP.out k (Nat.le_refl _)) (by omega) (by omega) hl hc)
      have p0 := LA.1
      have p1 := L1.1
      obtain ⟨q0, q1, q2, q3⟩ := live_four LA
      clear HM HL HR HC
      go_upto_region 22 with (go_at_call 21; (with_reducible refine (KP.out _ HB.out HI.out).mono ?_); rintro e w3 ⟨a3, k3, cap3, rfl, hk3, hkc, hcap3, hB3, hf3, hb3⟩; have z3 := hb3.size; (try simp at z3); have L3a := live_below hb3 (b := w.heap.size + 1) (by (repeat (first | with_reducible assumption | ((with_reducible apply live_new) <;> (first | with_reducible rfl | (focus (simp; done)))) | with_reducible apply live_alloc | with_reducible apply live_drew | with_reducible apply live_drewN | ((with_reducible apply live_set_other); (case hb => first | omega | (simp; done))) | with_reducible apply live_set_same | (focus (simp; done))))); obtain ⟨p3a, e3a, f3a⟩ := id L3a; have L3b := live_below hb3 (b := AT) (by (repeat (first | with_reducible assumption | ((with_reducible apply live_new) <;> (first | with_reducible rfl | (focus (simp; done)))) | with_reducible apply live_alloc | with_reducible apply live_drew | with_reducible apply live_drewN | ((with_reducible apply live_set_other); (case hb => first | omega | (simp; done))) | with_reducible apply live_set_same | (focus (simp; done))))); obtain ⟨p3b, e3b, f3b⟩ := id L3b; clear e3a e3b; have HB3 := Lib.hid hB3; have HK3 := Lib.hid hk3; have HF3 := Lib.hid hf3; clear hB3 hf3 hk3)
      clear KP HB HI
      obtain ⟨q0, q1, q2, q3⟩ := live_four L3b
      obtain ⟨r0, r1, r2, r3⟩ := live_four L3a
      go_region
      go_wp2_with fail
      refine gen_world (fun wx => Live wx (w.heap.size + 1) #[.int .i64 (wAt f x t p k 0), .int .i64 (wAt f x t p k 1), .int .i64 (wAt f x t p k 2), .int .i64 (wAt f x t p k 3)] ∧ BlkS wx a3 k3 (plnG (wG f x t fd p k) (wZ f x t fd p k) 0 (wN f x t p k) (wN f x t p k)) ∧ Below w.heap.size w wx) ?_ ?_
      · exact ⟨by (repeat (first | with_reducible assumption | ((with_reducible apply live_new) <;> (first | with_reducible rfl | (focus (simp; done)))) | with_reducible apply live_alloc | with_reducible apply live_drew | with_reducible apply live_drewN | with_reducible apply live_put10 | with_reducible apply live_put8 | with_reducible apply live_put4 | ((with_reducible apply live_put10_other); (case hb => first | omega | (simp; done))) | ((with_reducible apply live_put8_other); (case hb => first | omega | (simp; done))) | ((with_reducible apply live_put4_other); (case hb => first | omega | (simp; done))) | ((with_reducible apply live_set_other); (case hb => first | omega | (simp; done))) | (focus (simp; done)))), blkS_set (blkS_set (blkS_set (blkS_set HB3.out HF3.out (by omega) _ _) HF3.out (by omega) _ _) HF3.out (by omega) _ _) HF3.out (by omega) _ _, by (repeat' (first | with_reducible exact Below.refl _ _ | with_reducible refine Below.drew ?_ | with_reducible refine below_drewN ?_ _ | with_reducible refine Below.alloc ?_ ?_ _ | with_reducible refine Below.setCell ?_ ?_ _ | with_reducible refine Below.trans ?_ (Below.mono (by with_reducible assumption) ?_) | (simp; done) | (simp; omega) | omega))⟩
      rintro wz ⟨Lz, hBz, hbz⟩
      obtain ⟨y0, y1, y2, y3⟩ := live_four Lz
      exact bodyPost_ret (v := .tuple #[.slice a3 k3 cap3, .agg #[.int .i64 (wAt f x t p k 0), .int .i64 (wAt f x t p k 1), .int .i64 (wAt f x t p k 2), .int .i64 (wAt f x t p k 3)], .bool (plnE (wG f x t fd p k) (wZ f x t fd p k) 0 (wN f x t p k) (wN f x t p k) == 0)]) (by simp [results, Try.results8, go_sem, y0, y1, y2, y3]) rfl ⟨a3, k3, cap3, rfl, HK3.out, hkc, hcap3, hBz, hbz⟩
end Go.Proofs.Ytkiadcgdmeebmaa
