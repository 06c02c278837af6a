/- ThermalBounded: temperatures stay between Ambient and Top if they begin there, for all valid heaters and at most 300 duties -/
import Derived.Deep.RegionWith
import Derived.Deep.RegionHeld3
import Derived.Deep.LoopGhost
import Derived.Deep.DeepCutAuto
import Derived.RegionTactic
import Derived.BigRegion
import Derived.Test.YthpomgkeoogamaaBase
import Derived.Test.YthpomgkeoogamaaKit3
import Derived.Test.YthpomgkeoogamaaL48Awake
import Derived.Test.YthpomgkeoogamaaThMono
import Derived.Test.YthpomgkeoogamaaThFew
namespace Go.Proofs.Ythpomgkeoogamaa.thermalBounded
open Go.ChangeShapes Go.WideShapes Go.ChangeAt Go.RowKit
set_option linter.unusedVariables false

attribute [local go_sem] cell_past1 cell_past2 cell_past3 cell_past4 froz_past1 froz_past2 froz_past3

theorem run_between (p l m a t : Int) (z : Nat → Int) (hv : thValid p l m a = true) (h0 : a ≤ t) (h1 : t ≤ thTop p l m a) : ∀ k, a ≤ thRun p l m a t z k ∧ thRun p l m a t z k ≤ thTop p l m a
  | 0 => ⟨h0, h1⟩
  | k + 1 => thStep_between p l m a _ (z k) hv (run_between p l m a t z hv h0 h1 k).1 (run_between p l m a t z hv h0 h1 k).2

def Rel (n g1 B : Nat) (cur1 : Array Value) (p l m a : Int) (w : World) (g : Nat) (s34 : Value) (wr : World) : Prop :=
  ∃ k : Nat, s34 = .int .i64 k ∧ k ≤ n ∧ n - k ≤ g ∧ Live wr g1 cur1 ∧ Live wr B #[.int .i64 p, .int .i64 l, .int .i64 m, .int .i64 a] ∧ Below B w wr

set_option maxRecDepth 100000 in
set_option maxHeartbeats 4000000 in
theorem walk_out (p l m a t : Int) (s : Option Addr) (len cap : Nat) (w : World) (hl : len ≤ 9223372036854775807) (hlc : len ≤ cap) (hc : cap ≤ 9223372036854775807) (hi : IntsB w s len) (hout : thValid p l m a = false ∨ t < a ∨ thTop p l m a < t) :
    Calls Try.prog 10 #[.agg #[.int .i64 p, .int .i64 l, .int .i64 m, .int .i64 a], .int .i64 t, .slice s len cap] w fun e w' => e = .returned (.bool true) ∧ Below w.heap.size w w' := by
  obtain ⟨z, hz⟩ := intsZ_of hi
  have hz1 : IntsZ (w.alloc (.cells #[.int .i64 p, .int .i64 l, .int .i64 m, .int .i64 a] 33)) s len z := intsZ_below (hz len (Nat.le_refl _)) (by (repeat' (first | with_reducible exact Below.refl _ _ | with_reducible refine Below.drew ?_ | with_reducible refine below_drewN ?_ _ | with_reducible refine Below.alloc ?_ ?_ _ | with_reducible refine Below.setCell ?_ ?_ _ | with_reducible refine Below.trans ?_ (Below.mono (by with_reducible assumption) ?_) | (simp; done) | (simp; omega) | omega)))
  have HZ1 := Lib.hid hz1
  generalize hn : min len 300 = n
  have hz2 : IntsZ w s n z := hz n (by omega)
  have hn3 : n ≤ 300 := by omega
  have HN := Lib.hid hn
  clear hi hz hz1 hn
  generalize hv : thValid p l m a = v at *
  generalize ht : thTop p l m a = T at *
  have HV := Lib.hid hv
  have HT := Lib.hid ht
  clear hv ht
  rcases hout with hout | hout | hout
  · subst hout
    go_enter Try.func10, Try.ntmps10
    go_wp2_with fail
    refine (law48_few s len cap z _ hl hlc hc HZ1.out).mono ?_
    rintro e w1 ⟨he, rfl⟩
    rw [HN.out] at he
    subst he
    go_wp2_with (first | (go_at_call 21; refine (thermal_top_b _ _ _ _ _).mono ?_; rw [HT.out]; rintro e w4 ⟨rfl, hb4⟩; have z4 := hb4.size; (try simp at z4); have L4a := live_below hb4 (b := w.heap.size) (by (repeat (first | with_reducible assumption | ((with_reducible apply live_new) <;> (first | with_reducible rfl | (focus (simp; done)))) | with_reducible apply live_alloc | with_reducible apply live_drew | with_reducible apply live_drewN | ((with_reducible apply live_set_other); (case hb => first | omega | (simp; done))) | with_reducible apply live_set_same | (focus (simp; done))))); obtain ⟨p4a, e4a, f4a⟩ := id L4a) | (go_at_call 19; refine (thermal_valid_b _ _ _ _ _).mono ?_; rw [HV.out]; rintro e w5 ⟨rfl, hb5⟩; have z5 := hb5.size; (try simp at z5); have L5a := live_below hb5 (b := w.heap.size) (by (repeat (first | with_reducible assumption | ((with_reducible apply live_new) <;> (first | with_reducible rfl | (focus (simp; done)))) | with_reducible apply live_alloc | with_reducible apply live_drew | with_reducible apply live_drewN | ((with_reducible apply live_set_other); (case hb => first | omega | (simp; done))) | with_reducible apply live_set_same | (focus (simp; done))))); obtain ⟨p5a, e5a, f5a⟩ := id L5a) | (go_at_call 23; refine (law48_awake _).mono ?_; rintro e w9 ⟨rfl, hb9⟩; have z9 := hb9.size; (try simp at z9); have L9a := live_below hb9 (b := w.heap.size) (by (repeat (first | with_reducible assumption | ((with_reducible apply live_new) <;> (first | with_reducible rfl | (focus (simp; done)))) | with_reducible apply live_alloc | with_reducible apply live_drew | with_reducible apply live_drewN | ((with_reducible apply live_set_other); (case hb => first | omega | (simp; done))) | with_reducible apply live_set_same | (focus (simp; done))))); obtain ⟨p9a, e9a, f9a⟩ := id L9a))
    all_goals go_ret
    all_goals refine ⟨rfl, ?_⟩
    all_goals (repeat' (first | with_reducible exact Below.refl _ _ | with_reducible refine Below.drew ?_ | with_reducible refine below_drewN ?_ _ | with_reducible refine Below.alloc ?_ ?_ _ | with_reducible refine Below.setCell ?_ ?_ _ | with_reducible refine Below.trans ?_ (Below.mono (by with_reducible assumption) ?_) | (simp; done) | (simp; omega) | omega))
  all_goals
    cases v
    all_goals
      go_enter Try.func10, Try.ntmps10
      go_wp2_with fail
      refine (law48_few s len cap z _ hl hlc hc HZ1.out).mono ?_
      rintro e w1 ⟨he, rfl⟩
      rw [HN.out] at he
      subst he
      go_wp2_with (first | (go_at_call 21; refine (thermal_top_b _ _ _ _ _).mono ?_; rw [HT.out]; rintro e w4 ⟨rfl, hb4⟩; have z4 := hb4.size; (try simp at z4); have L4a := live_below hb4 (b := w.heap.size) (by (repeat (first | with_reducible assumption | ((with_reducible apply live_new) <;> (first | with_reducible rfl | (focus (simp; done)))) | with_reducible apply live_alloc | with_reducible apply live_drew | with_reducible apply live_drewN | ((with_reducible apply live_set_other); (case hb => first | omega | (simp; done))) | with_reducible apply live_set_same | (focus (simp; done))))); obtain ⟨p4a, e4a, f4a⟩ := id L4a) | (go_at_call 19; refine (thermal_valid_b _ _ _ _ _).mono ?_; rw [HV.out]; rintro e w5 ⟨rfl, hb5⟩; have z5 := hb5.size; (try simp at z5); have L5a := live_below hb5 (b := w.heap.size) (by (repeat (first | with_reducible assumption | ((with_reducible apply live_new) <;> (first | with_reducible rfl | (focus (simp; done)))) | with_reducible apply live_alloc | with_reducible apply live_drew | with_reducible apply live_drewN | ((with_reducible apply live_set_other); (case hb => first | omega | (simp; done))) | with_reducible apply live_set_same | (focus (simp; done))))); obtain ⟨p5a, e5a, f5a⟩ := id L5a) | (go_at_call 23; refine (law48_awake _).mono ?_; rintro e w9 ⟨rfl, hb9⟩; have z9 := hb9.size; (try simp at z9); have L9a := live_below hb9 (b := w.heap.size) (by (repeat (first | with_reducible assumption | ((with_reducible apply live_new) <;> (first | with_reducible rfl | (focus (simp; done)))) | with_reducible apply live_alloc | with_reducible apply live_drew | with_reducible apply live_drewN | ((with_reducible apply live_set_other); (case hb => first | omega | (simp; done))) | with_reducible apply live_set_same | (focus (simp; done))))); obtain ⟨p9a, e9a, f9a⟩ := id L9a))
      all_goals go_ret
      all_goals refine ⟨rfl, ?_⟩
      all_goals (repeat' (first | with_reducible exact Below.refl _ _ | with_reducible refine Below.drew ?_ | with_reducible refine below_drewN ?_ _ | with_reducible refine Below.alloc ?_ ?_ _ | with_reducible refine Below.setCell ?_ ?_ _ | with_reducible refine Below.trans ?_ (Below.mono (by with_reducible assumption) ?_) | (simp; done) | (simp; omega) | omega))

set_option maxRecDepth 100000 in
set_option maxHeartbeats 4000000 in
theorem walk_in (p l m a t : Int) (s : Option Addr) (len cap : Nat) (w : World) (hl : len ≤ 9223372036854775807) (hlc : len ≤ cap) (hc : cap ≤ 9223372036854775807) (hi : IntsB w s len) (hv : thValid p l m a = true) (h0 : a ≤ t) (h1 : t ≤ thTop p l m a) :
    Calls Try.prog 10 #[.agg #[.int .i64 p, .int .i64 l, .int .i64 m, .int .i64 a], .int .i64 t, .slice s len cap] w fun e w' => e = .returned (.bool true) ∧ Below w.heap.size w w' := by
  obtain ⟨z, hz⟩ := intsZ_of hi
  have hz1 : IntsZ (w.alloc (.cells #[.int .i64 p, .int .i64 l, .int .i64 m, .int .i64 a] 33)) s len z := intsZ_below (hz len (Nat.le_refl _)) (by (repeat' (first | with_reducible exact Below.refl _ _ | with_reducible refine Below.drew ?_ | with_reducible refine below_drewN ?_ _ | with_reducible refine Below.alloc ?_ ?_ _ | with_reducible refine Below.setCell ?_ ?_ _ | with_reducible refine Below.trans ?_ (Below.mono (by with_reducible assumption) ?_) | (simp; done) | (simp; omega) | omega)))
  have HZ1 := Lib.hid hz1
  generalize hn : min len 300 = n
  have hz2 : IntsZ w s n z := hz n (by omega)
  have hn3 : n ≤ 300 := by omega
  have HN := Lib.hid hn
  clear hi hz hz1 hn
  have hbt := run_between p l m a t z hv h0 h1
  generalize ht : thTop p l m a = T at *
  have HB := Lib.hid hbt
  have HV := Lib.hid hv
  have HT := Lib.hid ht
  clear hv ht hbt
  go_enter Try.func10, Try.ntmps10
  go_wp2_with fail
  refine (law48_few s len cap z _ hl hlc hc HZ1.out).mono ?_
  rintro e w1 ⟨he, rfl⟩
  rw [HN.out] at he
  subst he
  by_cases hpos : 0 < n
  · go_wp2_with (first | (go_at_call 21; refine (thermal_top_b _ _ _ _ _).mono ?_; rw [HT.out]; rintro e w4 ⟨rfl, hb4⟩; have z4 := hb4.size; (try simp at z4); have L4a := live_below hb4 (b := w.heap.size) (by (repeat (first | with_reducible assumption | ((with_reducible apply live_new) <;> (first | with_reducible rfl | (focus (simp; done)))) | with_reducible apply live_alloc | with_reducible apply live_drew | with_reducible apply live_drewN | ((with_reducible apply live_set_other); (case hb => first | omega | (simp; done))) | with_reducible apply live_set_same | (focus (simp; done))))); obtain ⟨p4a, e4a, f4a⟩ := id L4a) | (go_at_call 19; refine (thermal_valid_b _ _ _ _ _).mono ?_; rw [HV.out]; rintro e w5 ⟨rfl, hb5⟩; have z5 := hb5.size; (try simp at z5); have L5a := live_below hb5 (b := w.heap.size) (by (repeat (first | with_reducible assumption | ((with_reducible apply live_new) <;> (first | with_reducible rfl | (focus (simp; done)))) | with_reducible apply live_alloc | with_reducible apply live_drew | with_reducible apply live_drewN | ((with_reducible apply live_set_other); (case hb => first | omega | (simp; done))) | with_reducible apply live_set_same | (focus (simp; done))))); obtain ⟨p5a, e5a, f5a⟩ := id L5a) | (go_at_call 27; refine (thermal_run p l m a t z s n cap _ ?_ ?_).mono ?_; (· omega); (· exact intsZ_below hz2 (by (repeat' (first | with_reducible exact Below.refl _ _ | with_reducible refine Below.drew ?_ | with_reducible refine below_drewN ?_ _ | with_reducible refine Below.alloc ?_ ?_ _ | with_reducible refine Below.setCell ?_ ?_ _ | with_reducible refine Below.trans ?_ (Below.mono (by with_reducible assumption) ?_) | (simp; done) | (simp; omega) | omega)))); rintro e w1 ⟨v1, rfl, hown1, hb1⟩; have z1 := hb1.size; (try simp at z1); obtain ⟨g1, c1, cur1, rfl, hg1, LG1, hcur1⟩ := row_live hown1 hpos; (try ((apply live_take (b := w.heap.size) hb1); (· (repeat (first | with_reducible assumption | ((with_reducible apply live_new) <;> (first | with_reducible rfl | (focus (simp; done)))) | with_reducible apply live_alloc | with_reducible apply live_drew | with_reducible apply live_drewN | ((with_reducible apply live_set_other); (case hb => first | omega | (simp; done))) | with_reducible apply live_set_same | (focus (simp; done))))); (intro L1m; obtain ⟨p1m, e1m, f1m⟩ := id L1m)))))
    go_loopg [34] n (Rel n g1 w.heap.size cur1 p l m a w)
    case atStart => exact ⟨0, rfl, Nat.zero_le _, by omega, LG1, by (repeat (first | with_reducible assumption | ((with_reducible apply live_new) <;> (first | with_reducible rfl | (focus (simp; done)))) | with_reducible apply live_alloc | with_reducible apply live_drew | with_reducible apply live_drewN | ((with_reducible apply live_set_other); (case hb => first | omega | (simp; done))) | with_reducible apply live_set_same | (focus (simp; done)))), by (repeat' (first | with_reducible exact Below.refl _ _ | with_reducible refine Below.drew ?_ | with_reducible refine below_drewN ?_ _ | with_reducible refine Below.alloc ?_ ?_ _ | with_reducible refine Below.setCell ?_ ?_ _ | with_reducible refine Below.trans ?_ (Below.mono (by with_reducible assumption) ?_) | (simp; done) | (simp; omega) | omega))⟩
    case round =>
      obtain ⟨k, rfl, hk, hg, L1, L0, hb0⟩ := hrel
      have hg' := Lib.hid hg
      clear hg LG1
      obtain ⟨p0, e0, f0⟩ := id L0
      by_cases hlt : k < n
      · have hy1 : wr.cell? ⟨g1, k, none⟩ = some (.int .i64 (thRun p l m a t z (k + 1))) := (L1.2.1 k).trans (hcur1 k _ (thList_get p l m a t z n k hlt))
        obtain ⟨b1, b2⟩ := HB.out (k + 1)
        generalize thRun p l m a t z (k + 1) = V at *
        clear hcur1
        go_wp2_with fail
        go_roundg (gk - 1)
        case measure => have := hg'.out; omega
        case rel => exact ⟨k + 1, by go_num, by omega, by have := hg'.out; omega, L1, L0, hb0⟩
      · go_wp2_with ((go_at_call 23; refine (law48_awake _).mono ?_; rintro e w9 ⟨rfl, hb9⟩; have z9 := hb9.size; (try simp at z9); have L9a := live_below hb9 (b := w.heap.size) (by (repeat (first | with_reducible assumption | ((with_reducible apply live_new) <;> (first | with_reducible rfl | (focus (simp; done)))) | with_reducible apply live_alloc | with_reducible apply live_drew | with_reducible apply live_drewN | ((with_reducible apply live_set_other); (case hb => first | omega | (simp; done))) | with_reducible apply live_set_same | (focus (simp; done))))); obtain ⟨p9a, e9a, f9a⟩ := id L9a))
        all_goals go_ret
        all_goals refine ⟨rfl, ?_⟩
        all_goals (repeat' (first | with_reducible exact Below.refl _ _ | with_reducible refine Below.drew ?_ | with_reducible refine below_drewN ?_ _ | with_reducible refine Below.alloc ?_ ?_ _ | with_reducible refine Below.setCell ?_ ?_ _ | with_reducible refine Below.trans ?_ (Below.mono (by with_reducible assumption) ?_) | (simp; done) | (simp; omega) | omega))
  · have hn0 : n = 0 := by omega
    subst hn0
    go_wp2_with (first | (go_at_call 21; refine (thermal_top_b _ _ _ _ _).mono ?_; rw [HT.out]; rintro e w4 ⟨rfl, hb4⟩; have z4 := hb4.size; (try simp at z4); have L4a := live_below hb4 (b := w.heap.size) (by (repeat (first | with_reducible assumption | ((with_reducible apply live_new) <;> (first | with_reducible rfl | (focus (simp; done)))) | with_reducible apply live_alloc | with_reducible apply live_drew | with_reducible apply live_drewN | ((with_reducible apply live_set_other); (case hb => first | omega | (simp; done))) | with_reducible apply live_set_same | (focus (simp; done))))); obtain ⟨p4a, e4a, f4a⟩ := id L4a) | (go_at_call 19; refine (thermal_valid_b _ _ _ _ _).mono ?_; rw [HV.out]; rintro e w5 ⟨rfl, hb5⟩; have z5 := hb5.size; (try simp at z5); have L5a := live_below hb5 (b := w.heap.size) (by (repeat (first | with_reducible assumption | ((with_reducible apply live_new) <;> (first | with_reducible rfl | (focus (simp; done)))) | with_reducible apply live_alloc | with_reducible apply live_drew | with_reducible apply live_drewN | ((with_reducible apply live_set_other); (case hb => first | omega | (simp; done))) | with_reducible apply live_set_same | (focus (simp; done))))); obtain ⟨p5a, e5a, f5a⟩ := id L5a) | (go_at_call 27; refine (thermal_run p l m a t z s 0 cap _ ?_ ?_).mono ?_; (· omega); (· exact intsZ_below hz2 (by (repeat' (first | with_reducible exact Below.refl _ _ | with_reducible refine Below.drew ?_ | with_reducible refine below_drewN ?_ _ | with_reducible refine Below.alloc ?_ ?_ _ | with_reducible refine Below.setCell ?_ ?_ _ | with_reducible refine Below.trans ?_ (Below.mono (by with_reducible assumption) ?_) | (simp; done) | (simp; omega) | omega)))); rintro e w1 ⟨v1, rfl, hown1, hb1⟩; have z1 := hb1.size; (try simp at z1); obtain ⟨r1, c1, rfl⟩ := row_zero hown1; (try ((apply live_take (b := w.heap.size) hb1); (· (repeat (first | with_reducible assumption | ((with_reducible apply live_new) <;> (first | with_reducible rfl | (focus (simp; done)))) | with_reducible apply live_alloc | with_reducible apply live_drew | with_reducible apply live_drewN | ((with_reducible apply live_set_other); (case hb => first | omega | (simp; done))) | with_reducible apply live_set_same | (focus (simp; done))))); (intro L1m; obtain ⟨p1m, e1m, f1m⟩ := id L1m)))))
    refine wp_loop_rounds 1 ?_
    rw [rounds_succ]
    go_wp2_with ((go_at_call 23; refine (law48_awake _).mono ?_; rintro e w9 ⟨rfl, hb9⟩; have z9 := hb9.size; (try simp at z9); have L9a := live_below hb9 (b := w.heap.size) (by (repeat (first | with_reducible assumption | ((with_reducible apply live_new) <;> (first | with_reducible rfl | (focus (simp; done)))) | with_reducible apply live_alloc | with_reducible apply live_drew | with_reducible apply live_drewN | ((with_reducible apply live_set_other); (case hb => first | omega | (simp; done))) | with_reducible apply live_set_same | (focus (simp; done))))); obtain ⟨p9a, e9a, f9a⟩ := id L9a))
    all_goals go_ret
    all_goals refine ⟨rfl, ?_⟩
    all_goals (repeat' (first | with_reducible exact Below.refl _ _ | with_reducible refine Below.drew ?_ | with_reducible refine below_drewN ?_ _ | with_reducible refine Below.alloc ?_ ?_ _ | with_reducible refine Below.setCell ?_ ?_ _ | with_reducible refine Below.trans ?_ (Below.mono (by with_reducible assumption) ?_) | (simp; done) | (simp; omega) | omega))

theorem walk (p l m a t : Int) (s : Option Addr) (len cap : Nat) (w : World) (hl : len ≤ 9223372036854775807) (hlc : len ≤ cap) (hc : cap ≤ 9223372036854775807) (hi : IntsB w s len) :
    Calls Try.prog 10 #[.agg #[.int .i64 p, .int .i64 l, .int .i64 m, .int .i64 a], .int .i64 t, .slice s len cap] w fun e w' => e = .returned (.bool true) ∧ Below w.heap.size w w' := by
  by_cases h : thValid p l m a = true ∧ a ≤ t ∧ t ≤ thTop p l m a
  · exact walk_in p l m a t s len cap w hl hlc hc hi h.1 h.2.1 h.2.2
  · refine walk_out p l m a t s len cap w hl hlc hc hi ?_
    cases hv : thValid p l m a
    · exact .inl rfl
    · right; simp [hv] at h; omega

set_option maxRecDepth 100000 in
theorem lifted (os : Os) (started : os.Started) (H : Type) (enc : TypeId × Value → H) :
    ReturnsInHanded {} Try.checked os 10 .any (Rows.thermalBoundedSpec.pre6 enc Try.prog Try.f10 Rows.thermalBoundedRow.domain false) (Rows.thermalBoundedSpec.post enc Try.prog Try.f10 false true false false) := by
  refine returnsInHanded_of_change (C := Try.checked) own started (by kernel_rfl) Try.func10
    (ChangeSpec.witness6 (enc := enc) (C := Try.checked) false ⟨#[], #[.agg #[.int .i64 0, .int .i64 0, .int .i64 0, .int .i64 0], .int .i64 0, .slice none 0 0], []⟩ 8 (by kernel_rfl) (by kernel_rfl) (by kernel_rfl) (by kernel_rfl)) ?_
  intro W base args ds gs before hval0 hW _ _
  have hval : ∀ (j : Nat) t v, Try.f10.params[j]? = some t → args[j]? = some v → Value.okWide Try.prog W .any base t v := hval0
  have hW' := hW
  obtain ⟨p, q, hA0, hV, rfl, _, _⟩ := hW
  have hA : DataW.TrodAll enc Try.prog W 0 (fun _ => true) true Try.f10.params.toList args.toList ds p := hA0
  rw [Try.params10] at hA hval
  obtain ⟨v0, v1, v2, d0, d1, d2, p0, p1, p2, rfl, rfl, rfl, h0, h1, h2⟩ := trodAll_three hA
  clear hA hA0 hval0
  obtain ⟨f0, bf0, rfl⟩ := flat_ints (n := 4) (u := 3) (by kernel_rfl) (by kernel_rfl) (by kernel_rfl) Try.underlying3 (hval 0 33 v0 rfl rfl)
  obtain ⟨a1, rfl, ba1⟩ := int_open Try.underlying3 (hval 1 3 v1 rfl rfl)
  obtain ⟨s2, l2, c2, rfl, bl2, blc2, bc2, bs2⟩ := ints_argc Try.underlying28 Try.underlying3 (by kernel_rfl) (hval 2 28 v2 rfl rfl) h2
  exact (walk (f0 0) (f0 1) (f0 2) (f0 3) a1 s2 l2 c2 W bl2 blc2 bc2 bs2).mono fun e W' ⟨he, hb⟩ => ⟨_, he, law_post laidOut (by kernel_rfl) rfl (fun _ => rfl) rfl Try.underlying4 hW' hb⟩

theorem holds : Rows.ThermalBoundedSaid :=
  OpenClaim.holds_of_wide 10 Try.f10 rfl rfl rfl rfl rfl rfl rfl ⟨rfl, rfl, rfl, rfl, rfl⟩ rfl rfl rfl rfl rfl (by kernel_rfl) Try.func10 (by kernel_rfl)
    (of_decide_eq_true (by kernel_rfl)) (by unfold Func.isWrapper; rw [if_neg (of_decide_eq_false (by kernel_rfl))]; exact ⟨rfl, rfl⟩)
    (fun os started H enc _ => lifted os started H enc)

#print axioms holds
end Go.Proofs.Ythpomgkeoogamaa.thermalBounded
