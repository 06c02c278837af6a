/- What Pulse of dda returns, in the program and in the reference, for all counts and numbers -/
import Derived.Test.YtkiadcgdmeebmaaProg
import Derived.WalkKit
import Derived.WalkLawsBesides
import Derived.Handy
import Derived.Lib.Hide
import Derived.Deep.RegionWith
import Derived.Deep.RegionHeld3
import Derived.Deep.DeepCutAuto
import Derived.RegionTactic
import Derived.BigRegion
import Derived.Test.YtkiadcgdmeebmaaKit
import Derived.Test.YtkiadcgdmeebmaaKit3
import Derived.Test.YtkiadcgdmeebmaaDdaAt
namespace Go.Proofs.Ytkiadcgdmeebmaa
open Go.RowKit
set_option linter.unusedVariables false

attribute [local go_sem] cell_past1 cell_past2 cell_past3 cell_past4 froz_past1 froz_past2 froz_past3

/-- The pulse of step i of a motor with x of n steps. -/
def puM (n i x : Int) : Int := if i < 1 ∨ n < i then 0 else atM n i x - atM n (i - 1) x

theorem atM_in (n i x : Int) (hn : n ≤ 16777216) (h1 : 1 ≤ n) (hx0 : -16777216 ≤ x) (hx1 : x ≤ 16777216) : -562949970198528 ≤ atM n i x ∧ atM n i x ≤ 562949970198528 := by
  unfold atM
  rw [if_neg (by omega)]
  unfold atI
  have := at_num n (atClamp n i) x h1 hn (by unfold atClamp; omega) (by unfold atClamp; omega) hx0 hx1
  split <;> omega

theorem pu_one (n i x : Int) (h1 : 1 ≤ i) (h2 : i ≤ n) (hn : n ≤ 16777216) (hx : -16777216 ≤ x ∧ x ≤ 16777216) : IntKind.i64.wrap (atM n i x - atM n (i - 1) x) = puM n i x := by
  have a1 := atM_in n i x hn (by omega) hx.1 hx.2
  have a2 := atM_in n (i - 1) x hn (by omega) hx.1 hx.2
  unfold puM
  rw [if_neg (by omega)]
  exact IntWalk.i64_in _ (by omega)

theorem pu_wrap (n i a b c d : Int) (h1 : 1 ≤ i) (h2 : i ≤ n) (hn : n ≤ 16777216) (ha : -16777216 ≤ a ∧ a ≤ 16777216) (hb : -16777216 ≤ b ∧ b ≤ 16777216) (hc : -16777216 ≤ c ∧ c ≤ 16777216) (hd : -16777216 ≤ d ∧ d ≤ 16777216) :
    IntKind.i64.wrap (atM n i a - atM n (i - 1) a) = puM n i a ∧ IntKind.i64.wrap (atM n i b - atM n (i - 1) b) = puM n i b ∧ IntKind.i64.wrap (atM n i c - atM n (i - 1) c) = puM n i c ∧ IntKind.i64.wrap (atM n i d - atM n (i - 1) d) = puM n i d :=
  ⟨pu_one n i a h1 h2 hn ha, pu_one n i b h1 h2 hn hb, pu_one n i c h1 h2 hn hc, pu_one n i d h1 h2 hn hd⟩

def DpPRel (n a b c d i : Int) (w : World) (s5 s6 : Value) (wx : World) : Prop :=
  ∃ x y : Nat, s5 = .pointer (some ⟨x, 0, none⟩) ∧ s6 = .pointer (some ⟨y, 0, none⟩) ∧ w.heap.size + 1 < x ∧ w.heap.size + 1 < y ∧ x ≠ y ∧
    Live wx x #[.int .i64 (atM n i a), .int .i64 (atM n i b), .int .i64 (atM n i c), .int .i64 (atM n i d)] ∧
    Live wx y #[.int .i64 (atM n (i - 1) a), .int .i64 (atM n (i - 1) b), .int .i64 (atM n (i - 1) c), .int .i64 (atM n (i - 1) d)] ∧
    Live wx (w.heap.size + 1) #[.int .i64 0, .int .i64 0, .int .i64 0, .int .i64 0] ∧ Below w.heap.size w wx

set_option maxRecDepth 100000 in
set_option maxHeartbeats 4000000 in
theorem dda_pulse_none (a b c d i : Int) (w : World) (h : i < 1 ∨ ddaDom a b c d < i) :
    Calls Try.prog 31 #[.agg #[.int .i64 a, .int .i64 b, .int .i64 c, .int .i64 d], .int .i64 i] w fun e w' =>
      e = .returned (.agg #[.int .i64 0, .int .i64 0, .int .i64 0, .int .i64 0]) ∧ Below w.heap.size w w' := by
  generalize hn : ddaDom a b c d = n at *
  have HN := Lib.hid hn
  clear hn
  by_cases h1 : i < 1
  · clear h
    go_enter Try.func31, Try.ntmps31
    go_wp2
    refine bodyPost_ret (v := .agg #[.int .i64 0, .int .i64 0, .int .i64 0, .int .i64 0]) (by simp [results, Try.results31, go_sem]) rfl ⟨rfl, ?_⟩
    (repeat' (first | with_reducible exact Below.refl _ _ | with_reducible refine Below.drew ?_ | with_reducible refine below_drewN ?_ _ | with_reducible refine Below.alloc ?_ ?_ _ | with_reducible refine Below.setCell ?_ ?_ _ | with_reducible refine Below.trans ?_ (Below.mono (by with_reducible assumption) ?_) | (simp; done) | (simp; omega) | omega))
  · have h2 : n < i := by omega
    clear h
    go_enter Try.func31, Try.ntmps31
    go_wp2_with (go_at_call 29; refine (dda_dom _ _ _ _ _).mono ?_; rw [HN.out]; rintro e w1 ⟨rfl, rfl⟩)
    refine bodyPost_ret (v := .agg #[.int .i64 0, .int .i64 0, .int .i64 0, .int .i64 0]) (by simp [results, Try.results31, go_sem]) rfl ⟨rfl, ?_⟩
    (repeat' (first | with_reducible exact Below.refl _ _ | with_reducible refine Below.drew ?_ | with_reducible refine below_drewN ?_ _ | with_reducible refine Below.alloc ?_ ?_ _ | with_reducible refine Below.setCell ?_ ?_ _ | with_reducible refine Below.trans ?_ (Below.mono (by with_reducible assumption) ?_) | (simp; done) | (simp; omega) | omega))

set_option maxRecDepth 100000 in
set_option maxHeartbeats 4000000 in
theorem dda_pulse_some (a b c d i : Int) (w : World) (h1 : 1 ≤ i) (h2 : i ≤ ddaDom a b c d) :
    Calls Try.prog 31 #[.agg #[.int .i64 a, .int .i64 b, .int .i64 c, .int .i64 d], .int .i64 i] w fun e w' =>
      e = .returned (.agg #[.int .i64 (puM (ddaDom a b c d) i a), .int .i64 (puM (ddaDom a b c d) i b), .int .i64 (puM (ddaDom a b c d) i c), .int .i64 (puM (ddaDom a b c d) i d)]) ∧ Below w.heap.size w w' := by
  have hv : ddaValid a b c d = true := by
    cases hv : ddaValid a b c d
    · unfold ddaDom at h2; simp [hv] at h2; omega
    · rfl
  have hbd : (-16777216 ≤ a ∧ a ≤ 16777216) ∧ (-16777216 ≤ b ∧ b ≤ 16777216) ∧ (-16777216 ≤ c ∧ c ≤ 16777216) ∧ (-16777216 ≤ d ∧ d ≤ 16777216) := by
    have := hv; simp [ddaValid] at this; omega
  have hn2 := (ddaDom_in a b c d).2
  obtain ⟨wa, wb, wc', wd⟩ := pu_wrap (ddaDom a b c d) i a b c d h1 h2 hn2 hbd.1 hbd.2.1 hbd.2.2.1 hbd.2.2.2
  clear hv hbd
  generalize hn : ddaDom a b c d = n at *
  have HN := Lib.hid hn
  clear hn
  go_enter Try.func31, Try.ntmps31
  go_wp2_with (go_at_call 29; refine (dda_dom _ _ _ _ _).mono ?_; rw [HN.out]; rintro e w1 ⟨rfl, rfl⟩)
  have hw1 : IntKind.i64.wrap (i - 1) = i - 1 := IntWalk.i64_in _ (by omega)
  go_cut [5, 6] (fun s5 s6 wx => DpPRel n a b c d i w s5 s6 wx)
  case first =>
    go_region_held3 (fun w' => w'.cell? ⟨w.heap.size, 0, none⟩ = some (.int .i64 a) ∧ w'.cell? ⟨w.heap.size, 1, none⟩ = some (.int .i64 b) ∧ w'.cell? ⟨w.heap.size, 2, none⟩ = some (.int .i64 c) ∧ w'.cell? ⟨w.heap.size, 3, none⟩ = some (.int .i64 d)) (first | (focus ((with_reducible apply live_four); (repeat (first | with_reducible assumption | ((with_reducible apply live_new) <;> (first | with_reducible rfl | (focus (simp; done)))) | with_reducible apply live_alloc | with_reducible apply live_drew | with_reducible apply live_drewN | ((with_reducible apply live_set_other); (case hb => first | omega | (simp; done))) | with_reducible apply live_set_same | (focus (simp; done)))); done)) | go_keep)
      (first | (go_at_call 44; (with_reducible refine (dda_at a b c d i _).mono ?_); rw [HN.out]; rintro e w1 ⟨rfl, hb1⟩; have z1 := hb1.size; (try simp at z1); (try ((apply live_take (b := w.heap.size) hb1); (· (repeat (first | with_reducible assumption | ((with_reducible apply live_new) <;> (first | with_reducible rfl | (focus (simp; done)))) | with_reducible apply live_alloc | with_reducible apply live_drew | with_reducible apply live_drewN | ((with_reducible apply live_set_other); (case hb => first | omega | (simp; done))) | with_reducible apply live_set_same | (focus (simp; done))))); (intro L1m; obtain ⟨p1m, e1m, f1m⟩ := id L1m))); (try ((apply live_take (b := w.heap.size + 1) hb1); (· (repeat (first | with_reducible assumption | ((with_reducible apply live_new) <;> (first | with_reducible rfl | (focus (simp; done)))) | with_reducible apply live_alloc | with_reducible apply live_drew | with_reducible apply live_drewN | ((with_reducible apply live_set_other); (case hb => first | omega | (simp; done))) | with_reducible apply live_set_same | (focus (simp; done))))); (intro L1n; obtain ⟨p1n, e1n, f1n⟩ := id L1n))); (try ((apply live_take (b := w.heap.size + 1 + 1 + 1 + 1) hb1); (· (repeat (first | with_reducible assumption | ((with_reducible apply live_new) <;> (first | with_reducible rfl | (focus (simp; done)))) | with_reducible apply live_alloc | with_reducible apply live_drew | with_reducible apply live_drewN | ((with_reducible apply live_set_other); (case hb => first | omega | (simp; done))) | with_reducible apply live_set_same | (focus (simp; done))))); (intro L1o; obtain ⟨p1o, e1o, f1o⟩ := id L1o))); (try ((apply live_take (b := w.heap.size + 1 + 1 + 1 + 1 + 1) hb1); (· (repeat (first | with_reducible assumption | ((with_reducible apply live_new) <;> (first | with_reducible rfl | (focus (simp; done)))) | with_reducible apply live_alloc | with_reducible apply live_drew | with_reducible apply live_drewN | ((with_reducible apply live_set_other); (case hb => first | omega | (simp; done))) | with_reducible apply live_set_same | (focus (simp; done))))); (intro L1p; obtain ⟨p1p, e1p, f1p⟩ := id L1p)))) | (go_at_call 44; (with_reducible refine (dda_at a b c d (i - 1) _).mono ?_); rw [HN.out]; rintro e w2 ⟨rfl, hb2⟩; have z2 := hb2.size; (try simp at z2); (try ((apply live_take (b := w.heap.size) hb2); (· (repeat (first | with_reducible assumption | ((with_reducible apply live_new) <;> (first | with_reducible rfl | (focus (simp; done)))) | with_reducible apply live_alloc | with_reducible apply live_drew | with_reducible apply live_drewN | ((with_reducible apply live_set_other); (case hb => first | omega | (simp; done))) | with_reducible apply live_set_same | (focus (simp; done))))); (intro L2m; obtain ⟨p2m, e2m, f2m⟩ := id L2m))); (try ((apply live_take (b := w.heap.size + 1) hb2); (· (repeat (first | with_reducible assumption | ((with_reducible apply live_new) <;> (first | with_reducible rfl | (focus (simp; done)))) | with_reducible apply live_alloc | with_reducible apply live_drew | with_reducible apply live_drewN | ((with_reducible apply live_set_other); (case hb => first | omega | (simp; done))) | with_reducible apply live_set_same | (focus (simp; done))))); (intro L2n; obtain ⟨p2n, e2n, f2n⟩ := id L2n))); (try ((apply live_take (b := w.heap.size + 1 + 1 + 1 + 1) hb2); (· (repeat (first | with_reducible assumption | ((with_reducible apply live_new) <;> (first | with_reducible rfl | (focus (simp; done)))) | with_reducible apply live_alloc | with_reducible apply live_drew | with_reducible apply live_drewN | ((with_reducible apply live_set_other); (case hb => first | omega | (simp; done))) | with_reducible apply live_set_same | (focus (simp; done))))); (intro L2o; obtain ⟨p2o, e2o, f2o⟩ := id L2o))); (try ((apply live_take (b := w.heap.size + 1 + 1 + 1 + 1 + 1) hb2); (· (repeat (first | with_reducible assumption | ((with_reducible apply live_new) <;> (first | with_reducible rfl | (focus (simp; done)))) | with_reducible apply live_alloc | with_reducible apply live_drew | with_reducible apply live_drewN | ((with_reducible apply live_set_other); (case hb => first | omega | (simp; done))) | with_reducible apply live_set_same | (focus (simp; done))))); (intro L2p; obtain ⟨p2p, e2p, f2p⟩ := id L2p))); (try ((apply live_take (b := w1.heap.size) hb2); (· (repeat (first | with_reducible assumption | ((with_reducible apply live_new) <;> (first | with_reducible rfl | (focus (simp; done)))) | with_reducible apply live_alloc | with_reducible apply live_drew | with_reducible apply live_drewN | ((with_reducible apply live_set_other); (case hb => first | omega | (simp; done))) | with_reducible apply live_set_same | (focus (simp; done))))); (intro L2q; obtain ⟨p2q, e2q, f2q⟩ := id L2q))); (try ((apply live_take (b := w1.heap.size + 1) hb2); (· (repeat (first | with_reducible assumption | ((with_reducible apply live_new) <;> (first | with_reducible rfl | (focus (simp; done)))) | with_reducible apply live_alloc | with_reducible apply live_drew | with_reducible apply live_drewN | ((with_reducible apply live_set_other); (case hb => first | omega | (simp; done))) | with_reducible apply live_set_same | (focus (simp; done))))); (intro L2r; obtain ⟨p2r, e2r, f2r⟩ := id L2r)))))
    all_goals (try go_wp2_with fail)
    all_goals go_meet
    all_goals refine ⟨_, _, rfl, rfl, ?_, ?_, ?_, ?_, ?_, ?_, ?_⟩
    all_goals first | omega | (focus (((apply live_conv); (· (repeat (first | with_reducible assumption | ((with_reducible apply live_new) <;> (first | with_reducible rfl | (focus (simp; done)))) | with_reducible apply live_alloc | with_reducible apply live_drew | with_reducible apply live_drewN | ((with_reducible apply live_set_other); (case hb => first | omega | (simp; done))) | with_reducible apply live_set_same | (focus (simp; done))))); (· first | rfl | (simp; done))); done)) | (repeat' (first | with_reducible exact Below.refl _ _ | with_reducible refine Below.drew ?_ | with_reducible refine below_drewN ?_ _ | with_reducible refine Below.alloc ?_ ?_ _ | with_reducible refine Below.setCell ?_ ?_ _ | with_reducible refine Below.trans ?_ (Below.mono (by with_reducible assumption) ?_) | (simp; done) | (simp; omega) | omega))
  case rest =>
    obtain ⟨x, y, rfl, rfl, hx, hy, hxy, LX, LY, LR, hb⟩ := hcut
    obtain ⟨px, ex, fx⟩ := id LX
    obtain ⟨py, ey, fy⟩ := id LY
    obtain ⟨pr, er, fr⟩ := id LR
    have hyx : y ≠ x := fun h => hxy h.symm
    go_wp2
    refine wp_loop_rounds 5 ?_
    iterate 4
      rw [rounds_succ]
      go_wp2
      go_region
      go_wp2
    rw [rounds_succ]
    go_wp2
    refine bodyPost_ret (v := .agg #[.int .i64 (puM n i a), .int .i64 (puM n i b), .int .i64 (puM n i c), .int .i64 (puM n i d)]) (by simp [results, Try.results31, go_sem, er]) rfl ⟨rfl, ?_⟩
    refine Below.trans hb ?_
    (repeat' (first | with_reducible exact Below.refl _ _ | with_reducible refine Below.drew ?_ | with_reducible refine below_drewN ?_ _ | with_reducible refine Below.alloc ?_ ?_ _ | with_reducible refine Below.setCell ?_ ?_ _ | with_reducible refine Below.trans ?_ (Below.mono (by with_reducible assumption) ?_) | (simp; done) | (simp; omega) | omega))

def DpQRel (n a b c d i : Int) (w : World) (s6 s7 : Value) (wx : World) : Prop :=
  ∃ y x : Nat, s6 = .pointer (some ⟨y, 0, none⟩) ∧ s7 = .pointer (some ⟨x, 0, none⟩) ∧ w.heap.size + 1 + 1 < y ∧ w.heap.size + 1 + 1 < x ∧ y ≠ x ∧
    Live wx y #[.int .i64 (atM n (i - 1) a), .int .i64 (atM n (i - 1) b), .int .i64 (atM n (i - 1) c), .int .i64 (atM n (i - 1) d)] ∧
    Live wx x #[.int .i64 (atM n i a), .int .i64 (atM n i b), .int .i64 (atM n i c), .int .i64 (atM n i d)] ∧
    Live wx (w.heap.size + 1 + 1) #[.int .i64 0, .int .i64 0, .int .i64 0, .int .i64 0] ∧
    Live wx (w.heap.size + 1) #[.int .i64 0, .int .i64 0, .int .i64 0, .int .i64 0] ∧ Below w.heap.size w wx


theorem dda_pulse (a b c d i : Int) (w : World) :
    Calls Try.prog 31 #[.agg #[.int .i64 a, .int .i64 b, .int .i64 c, .int .i64 d], .int .i64 i] w fun e w' =>
      e = .returned (.agg #[.int .i64 (puM (ddaDom a b c d) i a), .int .i64 (puM (ddaDom a b c d) i b), .int .i64 (puM (ddaDom a b c d) i c), .int .i64 (puM (ddaDom a b c d) i d)]) ∧ Below w.heap.size w w' := by
  by_cases h : i < 1 ∨ ddaDom a b c d < i
  · have e : ∀ x, puM (ddaDom a b c d) i x = 0 := fun x => by unfold puM; rw [if_pos h]
    rw [e, e, e, e]
    exact dda_pulse_none a b c d i w h
  · exact dda_pulse_some a b c d i w (by omega) (by omega)
end Go.Proofs.Ytkiadcgdmeebmaa
