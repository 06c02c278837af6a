/- ThermalRuns: Run of the program and of the reference return the same, each temperature Step of the one before, for all heaters and numbers and at most 300 duties -/
import Derived.Deep.RegionWith
import Derived.Deep.RegionHeld3
import Derived.Deep.LoopGhost
import Derived.Deep.DeepCutAuto
import Derived.RegionTactic
import Derived.BigRegion
import Derived.Test.YthpomgkeoogamaaBase
import Derived.Test.YthpomgkeoogamaaKit3
import Derived.Test.YthpomgkeoogamaaL48Awake
import Derived.Test.YthpomgkeoogamaaThMono
import Derived.Test.YthpomgkeoogamaaThFew
namespace Go.Proofs.Ythpomgkeoogamaa.thermalRuns
open Go.ChangeShapes Go.WideShapes Go.ChangeAt Go.RowKit
set_option linter.unusedVariables false

attribute [local go_sem] cell_past1 cell_past2 cell_past3 cell_past4 froz_past1 froz_past2 froz_past3

def Two (n : Nat) (p l m a t : Int) (z : Nat → Int) (B : Nat) (w : World) (s7 s8 : Value) (wx : World) : Prop :=
  ∃ (g1 g2 c1 c2 : Nat) (cur1 cur2 : Array Value), s7 = .slice (some ⟨g1, 0, none⟩) n c1 ∧ s8 = .slice (some ⟨g2, 0, none⟩) n c2 ∧ B < g1 ∧ B < g2 ∧
    Live wx g1 cur1 ∧ Live wx g2 cur2 ∧ (∀ k, k < n → cur1[k]? = some (.int .i64 (thRun p l m a t z (k + 1)))) ∧ (∀ k, k < n → cur2[k]? = some (.int .i64 (thRun p l m a t z (k + 1)))) ∧ Live wx B #[.int .i64 p, .int .i64 l, .int .i64 m, .int .i64 a] ∧ Below B w wx

def Rel (p l m a t : Int) (z : Nat → Int) (n g1 g2 B : Nat) (cur1 cur2 : Array Value) (w : World) (g : Nat) (s1 s27 : Value) (wr : World) : Prop :=
  ∃ k : Nat, s27 = .int .i64 k ∧ k ≤ n ∧ n - k ≤ g ∧ s1 = .int .i64 (thRun p l m a t z k) ∧ Live wr g1 cur1 ∧ Live wr g2 cur2 ∧ Live wr B #[.int .i64 p, .int .i64 l, .int .i64 m, .int .i64 a] ∧ Below B w wr

set_option maxRecDepth 100000 in
set_option maxHeartbeats 4000000 in
theorem walk (p l m a t : Int) (s : Option Addr) (len cap : Nat) (w : World) (hl : len ≤ 9223372036854775807) (hlc : len ≤ cap) (hc : cap ≤ 9223372036854775807) (hi : IntsB w s len) :
    Calls Try.prog 9 #[.agg #[.int .i64 p, .int .i64 l, .int .i64 m, .int .i64 a], .int .i64 t, .slice s len cap] w fun e w' => e = .returned (.bool true) ∧ Below w.heap.size w w' := by
  obtain ⟨z, hz⟩ := intsZ_of hi
  have hz1 : IntsZ (w.alloc (.cells #[.int .i64 p, .int .i64 l, .int .i64 m, .int .i64 a] 33)) s len z := intsZ_below (hz len (Nat.le_refl _)) (by (repeat' (first | with_reducible exact Below.refl _ _ | with_reducible refine Below.drew ?_ | with_reducible refine below_drewN ?_ _ | with_reducible refine Below.alloc ?_ ?_ _ | with_reducible refine Below.setCell ?_ ?_ _ | with_reducible refine Below.trans ?_ (Below.mono (by with_reducible assumption) ?_) | (simp; done) | (simp; omega) | omega)))
  have HZ1 := Lib.hid hz1
  generalize hn : min len 300 = n
  have hz2 : IntsZ w s n z := hz n (by omega)
  have hn3 : n ≤ 300 := by omega
  have HN := Lib.hid hn
  clear hi hz hz1 hn
  go_enter Try.func9, Try.ntmps9
  go_wp2_with fail
  refine (law48_few s len cap z _ hl hlc hc HZ1.out).mono ?_
  rintro e w1 ⟨he, rfl⟩
  rw [HN.out] at he
  subst he
  go_wp2_with fail
  by_cases hpos : 0 < n
  · go_cut [7, 8] (fun s7 s8 wx => Two n p l m a t z w.heap.size w s7 s8 wx)
    case first =>
      go_region_held3 (fun w' => w'.cell? ⟨w.heap.size, 0, none⟩ = some (.int .i64 p) ∧ w'.cell? ⟨w.heap.size, 1, none⟩ = some (.int .i64 l) ∧ w'.cell? ⟨w.heap.size, 2, none⟩ = some (.int .i64 m) ∧ w'.cell? ⟨w.heap.size, 3, none⟩ = some (.int .i64 a)) (first | (focus ((with_reducible apply live_four); (repeat (first | with_reducible assumption | ((with_reducible apply live_new) <;> (first | with_reducible rfl | (focus (simp; done)))) | with_reducible apply live_alloc | with_reducible apply live_drew | with_reducible apply live_drewN | ((with_reducible apply live_set_other); (case hb => first | omega | (simp; done))) | with_reducible apply live_set_same | (focus (simp; done)))); done)) | go_keep)
        (first | (go_at_call 27; refine (thermal_run p l m a t z s n cap _ ?_ ?_).mono ?_; (· omega); (· exact intsZ_below hz2 (by (repeat' (first | with_reducible exact Below.refl _ _ | with_reducible refine Below.drew ?_ | with_reducible refine below_drewN ?_ _ | with_reducible refine Below.alloc ?_ ?_ _ | with_reducible refine Below.setCell ?_ ?_ _ | with_reducible refine Below.trans ?_ (Below.mono (by with_reducible assumption) ?_) | (simp; done) | (simp; omega) | omega)))); rintro e w1 ⟨v1, rfl, hown1, hb1⟩; have z1 := hb1.size; (try simp at z1); obtain ⟨g1, c1, cur1, rfl, hg1, LG1, hcur1⟩ := row_live hown1 hpos; (try ((apply live_take (b := w.heap.size) hb1); (· (repeat (first | with_reducible assumption | ((with_reducible apply live_new) <;> (first | with_reducible rfl | (focus (simp; done)))) | with_reducible apply live_alloc | with_reducible apply live_drew | with_reducible apply live_drewN | ((with_reducible apply live_set_other); (case hb => first | omega | (simp; done))) | with_reducible apply live_set_same | (focus (simp; done))))); (intro L1m; obtain ⟨p1m, e1m, f1m⟩ := id L1m)))) | (go_at_call 28; refine (ref48_run p l m a t z s n cap _ ?_ ?_).mono ?_; (· omega); (· exact intsZ_below hz2 (by (repeat' (first | with_reducible exact Below.refl _ _ | with_reducible refine Below.drew ?_ | with_reducible refine below_drewN ?_ _ | with_reducible refine Below.alloc ?_ ?_ _ | with_reducible refine Below.setCell ?_ ?_ _ | with_reducible refine Below.trans ?_ (Below.mono (by with_reducible assumption) ?_) | (simp; done) | (simp; omega) | omega)))); rintro e w2 ⟨v2, rfl, hown2, hb2⟩; have z2 := hb2.size; (try simp at z2); obtain ⟨g2, c2, cur2, rfl, hg2, LG2, hcur2⟩ := row_live hown2 hpos; (try ((apply live_take (b := w.heap.size) hb2); (· (repeat (first | with_reducible assumption | ((with_reducible apply live_new) <;> (first | with_reducible rfl | (focus (simp; done)))) | with_reducible apply live_alloc | with_reducible apply live_drew | with_reducible apply live_drewN | ((with_reducible apply live_set_other); (case hb => first | omega | (simp; done))) | with_reducible apply live_set_same | (focus (simp; done))))); (intro L2m; obtain ⟨p2m, e2m, f2m⟩ := id L2m))); (try ((apply live_take (b := g1) hb2); (· (repeat (first | with_reducible assumption | ((with_reducible apply live_new) <;> (first | with_reducible rfl | (focus (simp; done)))) | with_reducible apply live_alloc | with_reducible apply live_drew | with_reducible apply live_drewN | ((with_reducible apply live_set_other); (case hb => first | omega | (simp; done))) | with_reducible apply live_set_same | (focus (simp; done))))); (intro L2n; obtain ⟨p2n, e2n, f2n⟩ := id L2n)))))
      all_goals (try go_wp2_with fail)
      all_goals go_meet
      all_goals refine ⟨g1, g2, c1, c2, cur1, cur2, rfl, rfl, ?_, ?_, ?_, ?_, fun k hk => hcur1 k _ (thList_get p l m a t z n k hk), fun k hk => hcur2 k _ (thList_get p l m a t z n k hk), ?_, ?_⟩
      all_goals first | (focus ((repeat (first | with_reducible assumption | ((with_reducible apply live_new) <;> (first | with_reducible rfl | (focus (simp; done)))) | with_reducible apply live_alloc | with_reducible apply live_drew | with_reducible apply live_drewN | ((with_reducible apply live_set_other); (case hb => first | omega | (simp; done))) | with_reducible apply live_set_same | (focus (simp; done)))); done)) | (focus ((try simp at hg1); (try simp at hg2); omega)) | (repeat' (first | with_reducible exact Below.refl _ _ | with_reducible refine Below.drew ?_ | with_reducible refine below_drewN ?_ _ | with_reducible refine Below.alloc ?_ ?_ _ | with_reducible refine Below.setCell ?_ ?_ _ | with_reducible refine Below.trans ?_ (Below.mono (by with_reducible assumption) ?_) | (simp; done) | (simp; omega) | omega))
    case rest =>
      obtain ⟨g1, g2, c1, c2, cur1, cur2, rfl, rfl, hg1, hg2, LG1, LG2, hcur1, hcur2, LB, hb⟩ := hcut
      go_wp2_with fail
      go_loopg [1, 27] n (Rel p l m a t z n g1 g2 w.heap.size cur1 cur2 w)
      case atStart => exact ⟨0, rfl, Nat.zero_le _, by omega, rfl, LG1, LG2, LB, hb⟩
      case round =>
        obtain ⟨k, rfl, hk, hg, rfl, L1, L2, L0, hb0⟩ := hrel
        have hg' := Lib.hid hg
        clear hg LG1 LG2 LB hb
        obtain ⟨p0, e0, f0⟩ := id L0
        by_cases hlt : k < n
        · obtain ⟨b, off, rfl, hbl, hcl⟩ := hz2 hpos
          have hcz : wr.cell? ⟨b, off + k, none⟩ = some (.int .i64 (z k)) := (hb0.cell (p := ⟨b, off + k, none⟩) hbl).trans (hcl k hlt)
          have hx1 := Lib.hid (hcur1 k hlt)
          have hx2 := Lib.hid (hcur2 k hlt)
          have HV : Hid (thStep p l m a (thRun p l m a t z k) (z k) = thRun p l m a t z (k + 1)) := Lib.hid rfl
          clear hcl hcur1 hcur2
          generalize hT : thRun p l m a t z k = T at *
          generalize hV : thRun p l m a t z (k + 1) = V at *
          generalize hZ : z k = Z at *
          have HVV := Lib.hid hV
          clear hT hV hZ
          go_wp2_with fail
          go_cut [1] (fun s1 wx => s1 = .int .i64 V ∧ Live wx g1 cur1 ∧ Live wx g2 cur2 ∧ Live wx w.heap.size #[.int .i64 p, .int .i64 l, .int .i64 m, .int .i64 a] ∧ Below w.heap.size w wx)
          case first =>
            go_region_held3 (fun w' => w'.cell? ⟨w.heap.size, 0, none⟩ = some (.int .i64 p) ∧ w'.cell? ⟨w.heap.size, 1, none⟩ = some (.int .i64 l) ∧ w'.cell? ⟨w.heap.size, 2, none⟩ = some (.int .i64 m) ∧ w'.cell? ⟨w.heap.size, 3, none⟩ = some (.int .i64 a) ∧ w'.cell? ⟨b, off + k, none⟩ = some (.int .i64 Z)) (first | (refine and_five (live_four ?_) ?_; (· (repeat (first | with_reducible assumption | ((with_reducible apply live_new) <;> (first | with_reducible rfl | (focus (simp; done)))) | with_reducible apply live_alloc | with_reducible apply live_drew | with_reducible apply live_drewN | ((with_reducible apply live_set_other); (case hb => first | omega | (simp; done))) | with_reducible apply live_set_same | (focus (simp; done))))); (· first | assumption | exact hcz3)) | go_keep)
              (first | (go_at_call 24; refine (thermal_step_b _ _ _ _ _ _ _).mono ?_; rw [HV.out]; rintro e w3 ⟨rfl, hb3⟩; have z3 := hb3.size; (try simp at z3); have L3a := live_below hb3 (b := w.heap.size) (by (repeat (first | with_reducible assumption | ((with_reducible apply live_new) <;> (first | with_reducible rfl | (focus (simp; done)))) | with_reducible apply live_alloc | with_reducible apply live_drew | with_reducible apply live_drewN | ((with_reducible apply live_set_other); (case hb => first | omega | (simp; done))) | with_reducible apply live_set_same | (focus (simp; done))))); obtain ⟨p3a, e3a, f3a⟩ := id L3a; have L3b := live_below hb3 (b := g1) (by (repeat (first | with_reducible assumption | ((with_reducible apply live_new) <;> (first | with_reducible rfl | (focus (simp; done)))) | with_reducible apply live_alloc | with_reducible apply live_drew | with_reducible apply live_drewN | ((with_reducible apply live_set_other); (case hb => first | omega | (simp; done))) | with_reducible apply live_set_same | (focus (simp; done))))); obtain ⟨p3b, e3b, f3b⟩ := id L3b; have L3c := live_below hb3 (b := g2) (by (repeat (first | with_reducible assumption | ((with_reducible apply live_new) <;> (first | with_reducible rfl | (focus (simp; done)))) | with_reducible apply live_alloc | with_reducible apply live_drew | with_reducible apply live_drewN | ((with_reducible apply live_set_other); (case hb => first | omega | (simp; done))) | with_reducible apply live_set_same | (focus (simp; done))))); obtain ⟨p3c, e3c, f3c⟩ := id L3c; have hcz3 := (hb3.cell (p := ⟨b, off + k, none⟩) (by (try simp); omega)).trans (by simpa using hcz)))
            all_goals (try go_wp2_with fail)
            all_goals go_meet
            all_goals refine ⟨rfl, ?_, ?_, ?_, ?_⟩
            all_goals first | (focus ((repeat (first | with_reducible assumption | ((with_reducible apply live_new) <;> (first | with_reducible rfl | (focus (simp; done)))) | with_reducible apply live_alloc | with_reducible apply live_drew | with_reducible apply live_drewN | ((with_reducible apply live_set_other); (case hb => first | omega | (simp; done))) | with_reducible apply live_set_same | (focus (simp; done)))); done)) | (refine Below.trans hb0 ?_; (repeat' (first | with_reducible exact Below.refl _ _ | with_reducible refine Below.drew ?_ | with_reducible refine below_drewN ?_ _ | with_reducible refine Below.alloc ?_ ?_ _ | with_reducible refine Below.setCell ?_ ?_ _ | with_reducible refine Below.trans ?_ (Below.mono (by with_reducible assumption) ?_) | (simp; done) | (simp; omega) | omega)))
          case rest =>
            obtain ⟨rfl, M1, M2, M0, hbm⟩ := hcut
            have hy1 : wc.cell? ⟨g1, k, none⟩ = some (.int .i64 V) := (M1.2.1 k).trans hx1.out
            have hy2 : wc.cell? ⟨g2, k, none⟩ = some (.int .i64 V) := (M2.2.1 k).trans hx2.out
            clear hcz e0 f0 p0
            go_wp2_with fail
            go_region_held3 (fun w' => w'.cell? ⟨g1, k, none⟩ = some (.int .i64 V) ∧ w'.cell? ⟨g2, k, none⟩ = some (.int .i64 V)) (go_keep) (first | fail)
            all_goals go_wp2_with fail
            all_goals go_roundg (gk - 1)
            case measure => have := hg'.out; omega
            case rel => exact ⟨k + 1, by go_num, by omega, by have := hg'.out; omega, by rw [HVV.out], by (repeat (first | with_reducible assumption | ((with_reducible apply live_new) <;> (first | with_reducible rfl | (focus (simp; done)))) | with_reducible apply live_alloc | with_reducible apply live_drew | with_reducible apply live_drewN | ((with_reducible apply live_set_other); (case hb => first | omega | (simp; done))) | with_reducible apply live_set_same | (focus (simp; done)))), by (repeat (first | with_reducible assumption | ((with_reducible apply live_new) <;> (first | with_reducible rfl | (focus (simp; done)))) | with_reducible apply live_alloc | with_reducible apply live_drew | with_reducible apply live_drewN | ((with_reducible apply live_set_other); (case hb => first | omega | (simp; done))) | with_reducible apply live_set_same | (focus (simp; done)))), by (repeat (first | with_reducible assumption | ((with_reducible apply live_new) <;> (first | with_reducible rfl | (focus (simp; done)))) | with_reducible apply live_alloc | with_reducible apply live_drew | with_reducible apply live_drewN | ((with_reducible apply live_set_other); (case hb => first | omega | (simp; done))) | with_reducible apply live_set_same | (focus (simp; done)))), by refine Below.trans hbm ?_; (repeat' (first | with_reducible exact Below.refl _ _ | with_reducible refine Below.drew ?_ | with_reducible refine below_drewN ?_ _ | with_reducible refine Below.alloc ?_ ?_ _ | with_reducible refine Below.setCell ?_ ?_ _ | with_reducible refine Below.trans ?_ (Below.mono (by with_reducible assumption) ?_) | (simp; done) | (simp; omega) | omega))⟩
        · have hkn : k = n := by omega
          go_wp2_with ((go_at_call 23; refine (law48_awake _).mono ?_; rintro e w9 ⟨rfl, hb9⟩; have z9 := hb9.size; (try simp at z9); have L9a := live_below hb9 (b := w.heap.size) (by (repeat (first | with_reducible assumption | ((with_reducible apply live_new) <;> (first | with_reducible rfl | (focus (simp; done)))) | with_reducible apply live_alloc | with_reducible apply live_drew | with_reducible apply live_drewN | ((with_reducible apply live_set_other); (case hb => first | omega | (simp; done))) | with_reducible apply live_set_same | (focus (simp; done))))); obtain ⟨p9a, e9a, f9a⟩ := id L9a))
          all_goals go_ret
          all_goals refine ⟨rfl, ?_⟩
          all_goals (repeat' (first | with_reducible exact Below.refl _ _ | with_reducible refine Below.drew ?_ | with_reducible refine below_drewN ?_ _ | with_reducible refine Below.alloc ?_ ?_ _ | with_reducible refine Below.setCell ?_ ?_ _ | with_reducible refine Below.trans ?_ (Below.mono (by with_reducible assumption) ?_) | (simp; done) | (simp; omega) | omega))
  · have hn0 : n = 0 := by omega
    subst hn0
    go_region_held3 (fun w' => w'.cell? ⟨w.heap.size, 0, none⟩ = some (.int .i64 p) ∧ w'.cell? ⟨w.heap.size, 1, none⟩ = some (.int .i64 l) ∧ w'.cell? ⟨w.heap.size, 2, none⟩ = some (.int .i64 m) ∧ w'.cell? ⟨w.heap.size, 3, none⟩ = some (.int .i64 a)) (first | (focus ((with_reducible apply live_four); (repeat (first | with_reducible assumption | ((with_reducible apply live_new) <;> (first | with_reducible rfl | (focus (simp; done)))) | with_reducible apply live_alloc | with_reducible apply live_drew | with_reducible apply live_drewN | ((with_reducible apply live_set_other); (case hb => first | omega | (simp; done))) | with_reducible apply live_set_same | (focus (simp; done)))); done)) | go_keep)
      (first | (go_at_call 27; refine (thermal_run p l m a t z s 0 cap _ ?_ ?_).mono ?_; (· omega); (· exact intsZ_below hz2 (by (repeat' (first | with_reducible exact Below.refl _ _ | with_reducible refine Below.drew ?_ | with_reducible refine below_drewN ?_ _ | with_reducible refine Below.alloc ?_ ?_ _ | with_reducible refine Below.setCell ?_ ?_ _ | with_reducible refine Below.trans ?_ (Below.mono (by with_reducible assumption) ?_) | (simp; done) | (simp; omega) | omega)))); rintro e w1 ⟨v1, rfl, hown1, hb1⟩; have z1 := hb1.size; (try simp at z1); obtain ⟨r1, c1, rfl⟩ := row_zero hown1; (try ((apply live_take (b := w.heap.size) hb1); (· (repeat (first | with_reducible assumption | ((with_reducible apply live_new) <;> (first | with_reducible rfl | (focus (simp; done)))) | with_reducible apply live_alloc | with_reducible apply live_drew | with_reducible apply live_drewN | ((with_reducible apply live_set_other); (case hb => first | omega | (simp; done))) | with_reducible apply live_set_same | (focus (simp; done))))); (intro L1m; obtain ⟨p1m, e1m, f1m⟩ := id L1m)))) | (go_at_call 28; refine (ref48_run p l m a t z s 0 cap _ ?_ ?_).mono ?_; (· omega); (· exact intsZ_below hz2 (by (repeat' (first | with_reducible exact Below.refl _ _ | with_reducible refine Below.drew ?_ | with_reducible refine below_drewN ?_ _ | with_reducible refine Below.alloc ?_ ?_ _ | with_reducible refine Below.setCell ?_ ?_ _ | with_reducible refine Below.trans ?_ (Below.mono (by with_reducible assumption) ?_) | (simp; done) | (simp; omega) | omega)))); rintro e w2 ⟨v2, rfl, hown2, hb2⟩; have z2 := hb2.size; (try simp at z2); obtain ⟨r2, c2, rfl⟩ := row_zero hown2; (try ((apply live_take (b := w.heap.size) hb2); (· (repeat (first | with_reducible assumption | ((with_reducible apply live_new) <;> (first | with_reducible rfl | (focus (simp; done)))) | with_reducible apply live_alloc | with_reducible apply live_drew | with_reducible apply live_drewN | ((with_reducible apply live_set_other); (case hb => first | omega | (simp; done))) | with_reducible apply live_set_same | (focus (simp; done))))); (intro L2m; obtain ⟨p2m, e2m, f2m⟩ := id L2m)))))
    all_goals go_wp2_with fail
    all_goals refine wp_loop_rounds 1 ?_
    all_goals rw [rounds_succ]
    all_goals go_wp2_with ((go_at_call 23; refine (law48_awake _).mono ?_; rintro e w9 ⟨rfl, hb9⟩; have z9 := hb9.size; (try simp at z9); have L9a := live_below hb9 (b := w.heap.size) (by (repeat (first | with_reducible assumption | ((with_reducible apply live_new) <;> (first | with_reducible rfl | (focus (simp; done)))) | with_reducible apply live_alloc | with_reducible apply live_drew | with_reducible apply live_drewN | ((with_reducible apply live_set_other); (case hb => first | omega | (simp; done))) | with_reducible apply live_set_same | (focus (simp; done))))); obtain ⟨p9a, e9a, f9a⟩ := id L9a))
    all_goals go_ret
    all_goals refine ⟨rfl, ?_⟩
    all_goals (repeat' (first | with_reducible exact Below.refl _ _ | with_reducible refine Below.drew ?_ | with_reducible refine below_drewN ?_ _ | with_reducible refine Below.alloc ?_ ?_ _ | with_reducible refine Below.setCell ?_ ?_ _ | with_reducible refine Below.trans ?_ (Below.mono (by with_reducible assumption) ?_) | (simp; done) | (simp; omega) | omega))

set_option maxRecDepth 100000 in
theorem lifted (os : Os) (started : os.Started) (H : Type) (enc : TypeId × Value → H) :
    ReturnsInHanded {} Try.checked os 9 .any (Rows.thermalRunsSpec.pre6 enc Try.prog Try.f9 Rows.thermalRunsRow.domain false) (Rows.thermalRunsSpec.post enc Try.prog Try.f9 false true false false) := by
  refine returnsInHanded_of_change (C := Try.checked) own started (by kernel_rfl) Try.func9
    (ChangeSpec.witness6 (enc := enc) (C := Try.checked) false ⟨#[], #[.agg #[.int .i64 0, .int .i64 0, .int .i64 0, .int .i64 0], .int .i64 0, .slice none 0 0], []⟩ 8 (by kernel_rfl) (by kernel_rfl) (by kernel_rfl) (by kernel_rfl)) ?_
  intro W base args ds gs before hval0 hW _ _
  have hval : ∀ (j : Nat) t v, Try.f9.params[j]? = some t → args[j]? = some v → Value.okWide Try.prog W .any base t v := hval0
  have hW' := hW
  obtain ⟨p, q, hA0, hV, rfl, _, _⟩ := hW
  have hA : DataW.TrodAll enc Try.prog W 0 (fun _ => true) true Try.f9.params.toList args.toList ds p := hA0
  rw [Try.params9] at hA hval
  obtain ⟨v0, v1, v2, d0, d1, d2, p0, p1, p2, rfl, rfl, rfl, h0, h1, h2⟩ := trodAll_three hA
  clear hA hA0 hval0
  obtain ⟨f0, bf0, rfl⟩ := flat_ints (n := 4) (u := 3) (by kernel_rfl) (by kernel_rfl) (by kernel_rfl) Try.underlying3 (hval 0 33 v0 rfl rfl)
  obtain ⟨a1, rfl, ba1⟩ := int_open Try.underlying3 (hval 1 3 v1 rfl rfl)
  obtain ⟨s2, l2, c2, rfl, bl2, blc2, bc2, bs2⟩ := ints_argc Try.underlying28 Try.underlying3 (by kernel_rfl) (hval 2 28 v2 rfl rfl) h2
  exact (walk (f0 0) (f0 1) (f0 2) (f0 3) a1 s2 l2 c2 W bl2 blc2 bc2 bs2).mono fun e W' ⟨he, hb⟩ => ⟨_, he, law_post laidOut (by kernel_rfl) rfl (fun _ => rfl) rfl Try.underlying4 hW' hb⟩

theorem holds : Rows.ThermalRunsSaid :=
  OpenClaim.holds_of_wide 9 Try.f9 rfl rfl rfl rfl rfl rfl rfl ⟨rfl, rfl, rfl, rfl, rfl⟩ rfl rfl rfl rfl rfl (by kernel_rfl) Try.func9 (by kernel_rfl)
    (of_decide_eq_true (by kernel_rfl)) (by unfold Func.isWrapper; rw [if_neg (of_decide_eq_false (by kernel_rfl))]; exact ⟨rfl, rfl⟩)
    (fun os started H enc _ => lifted os started H enc)

#print axioms holds
end Go.Proofs.Ythpomgkeoogamaa.thermalRuns
