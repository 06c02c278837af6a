/- DdaSigns: counts with the opposite sign give the opposite steps, and numbers outside of 0 to n count as the nearest one -/
import Derived.Deep.RegionWith
import Derived.Deep.RegionHeld3
import Derived.Deep.DeepCutAuto
import Derived.Handy
import Derived.RegionTactic
import Derived.BigRegion
import Derived.Test.YtjcnheakjgmidaaBase
import Derived.Test.YtjcnheakjgmidaaKit3
import Derived.Test.YtjcnheakjgmidaaL42Awake
import Derived.Test.YtjcnheakjgmidaaDdaPlain
namespace Go.Proofs.Ytjcnheakjgmidaa.ddaSigns
open Go.ChangeShapes Go.WideShapes Go.ChangeAt Go.RowKit
set_option linter.unusedVariables false

attribute [local go_sem] cell_past1 cell_past2 cell_past3 cell_past4 froz_past1 froz_past2 froz_past3

theorem and_eight {p1 p2 p3 p4 q1 q2 q3 q4 : Prop} (h : p1 ∧ p2 ∧ p3 ∧ p4) (k : q1 ∧ q2 ∧ q3 ∧ q4) : p1 ∧ p2 ∧ p3 ∧ p4 ∧ q1 ∧ q2 ∧ q3 ∧ q4 := ⟨h.1, h.2.1, h.2.2.1, h.2.2.2, k.1, k.2.1, k.2.2.1, k.2.2.2⟩

def SRel (a b c d A B C D : Int) (w : World) (s6 s7 : Value) (wx : World) : Prop :=
  ∃ x y : Nat, s6 = .pointer (some ⟨x, 0, none⟩) ∧ s7 = .pointer (some ⟨y, 0, none⟩) ∧ w.heap.size + 1 + 1 < x ∧ w.heap.size + 1 + 1 < y ∧ x ≠ y ∧
    Live wx x #[.int .i64 A, .int .i64 B, .int .i64 C, .int .i64 D] ∧ Live wx y #[.int .i64 (-A), .int .i64 (-B), .int .i64 (-C), .int .i64 (-D)] ∧
    Live wx w.heap.size #[.int .i64 a, .int .i64 b, .int .i64 c, .int .i64 d] ∧ Live wx (w.heap.size + 1 + 1) #[.int .i64 (-a), .int .i64 (-b), .int .i64 (-c), .int .i64 (-d)] ∧ Below w.heap.size w wx

set_option maxRecDepth 100000 in
set_option maxHeartbeats 4000000 in
theorem walk_out (a b c d i : Int) (w : World) (hv : ddaValid a b c d = false) :
    Calls Try.prog 8 #[.agg #[.int .i64 a, .int .i64 b, .int .i64 c, .int .i64 d], .int .i64 i] w fun e w' => e = .returned (.bool true) ∧ Below w.heap.size w w' := by
  have HV := Lib.hid hv
  clear hv
  go_enter Try.func8, Try.ntmps8
  go_wp2_with (first | (go_at_call 15; refine (dda_valid _ _ _ _ _).mono ?_; rw [HV.out]; rintro e w1 ⟨rfl, rfl⟩) | (go_at_call 19; refine (law42_awake _).mono ?_; rintro e w9 ⟨rfl, hb9⟩; have z9 := hb9.size; (try simp at z9); have L9a := live_below hb9 (b := w.heap.size) (by (repeat (first | with_reducible assumption | ((with_reducible apply live_new) <;> (first | with_reducible rfl | (focus (simp; done)))) | with_reducible apply live_alloc | with_reducible apply live_drew | with_reducible apply live_drewN | ((with_reducible apply live_set_other); (case hb => first | omega | (simp; done))) | with_reducible apply live_set_same | (focus (simp; done))))); obtain ⟨p9a, e9a, f9a⟩ := id L9a))
  all_goals go_ret
  all_goals refine ⟨rfl, ?_⟩
  all_goals (repeat' (first | with_reducible exact Below.refl _ _ | with_reducible refine Below.drew ?_ | with_reducible refine below_drewN ?_ _ | with_reducible refine Below.alloc ?_ ?_ _ | with_reducible refine Below.setCell ?_ ?_ _ | with_reducible refine Below.trans ?_ (Below.mono (by with_reducible assumption) ?_) | (simp; done) | (simp; omega) | omega))

set_option maxRecDepth 100000 in
set_option maxHeartbeats 4000000 in
theorem walk_in (a b c d i : Int) (w : World) (hv : ddaValid a b c d = true) :
    Calls Try.prog 8 #[.agg #[.int .i64 a, .int .i64 b, .int .i64 c, .int .i64 d], .int .i64 i] w fun e w' => e = .returned (.bool true) ∧ Below w.heap.size w w' := by
  have hn1 := ddaDom_pos a b c d hv
  have hn2 := (ddaDom_in a b c d).2
  have hbd : (-16777216 ≤ a ∧ a ≤ 16777216) ∧ (-16777216 ≤ b ∧ b ≤ 16777216) ∧ (-16777216 ≤ c ∧ c ≤ 16777216) ∧ (-16777216 ≤ d ∧ d ≤ 16777216) := by
    have := hv; simp [ddaValid] at this; omega
  obtain ⟨ha, hb, hc, hd⟩ := hbd
  have hnn := ddaDom_neg a b c d
  generalize hn : ddaDom a b c d = n at *
  generalize hm : ddaDom (-a) (-b) (-c) (-d) = n' at *
  subst hnn
  have hM : ∀ x, atM n' i x = atI n' (atClamp n' i) x := fun x => by unfold atM; rw [if_neg (by omega)]
  have hI : 0 ≤ atClamp n' i ∧ atClamp n' i ≤ n' := by unfold atClamp; omega
  have la := atI_le n' (atClamp n' i) a hn1 hI.1 hI.2 ha
  have lb := atI_le n' (atClamp n' i) b hn1 hI.1 hI.2 hb
  have lc := atI_le n' (atClamp n' i) c hn1 hI.1 hI.2 hc
  have ld := atI_le n' (atClamp n' i) d hn1 hI.1 hI.2 hd
  rw [← hM] at la lb lc ld
  have hlow : i ≤ 0 → ∀ x, atM n' i x = 0 := fun h x => by rw [hM, show atClamp n' i = 0 from by unfold atClamp; omega]; exact atI_none n' x hn1
  have hhigh : n' ≤ i → ∀ x, atM n' i x = x := fun h x => by rw [hM, show atClamp n' i = n' from by unfold atClamp; omega]; exact atI_full n' x hn1
  have qa := atM_neg n' i a (by omega)
  have qb := atM_neg n' i b (by omega)
  have qc := atM_neg n' i c (by omega)
  have qd := atM_neg n' i d (by omega)
  have HLa := Lib.hid (fun h => hlow h a)
  have HLb := Lib.hid (fun h => hlow h b)
  have HLc := Lib.hid (fun h => hlow h c)
  have HLd := Lib.hid (fun h => hlow h d)
  have HHa := Lib.hid (fun h => hhigh h a)
  have HHb := Lib.hid (fun h => hhigh h b)
  have HHc := Lib.hid (fun h => hhigh h c)
  have HHd := Lib.hid (fun h => hhigh h d)
  clear hM hI hlow hhigh
  generalize hA : atM n' i a = A at *
  generalize hB : atM n' i b = B at *
  generalize hC : atM n' i c = C at *
  generalize hD : atM n' i d = D at *
  have HV := Lib.hid hv
  have HN := Lib.hid hn
  have HM := Lib.hid hm
  have HQ : Hid (atM n' i a = A ∧ atM n' i b = B ∧ atM n' i c = C ∧ atM n' i d = D ∧ atM n' i (-a) = -A ∧ atM n' i (-b) = -B ∧ atM n' i (-c) = -C ∧ atM n' i (-d) = -D) := Lib.hid ⟨hA, hB, hC, hD, qa, qb, qc, qd⟩
  clear hv hn hm hA hB hC hD qa qb qc qd
  have wA : IntKind.i64.wrap (-(-A)) = A := by rw [Int.neg_neg]; exact IntWalk.i64_in _ (by omega)
  have wB : IntKind.i64.wrap (-(-B)) = B := by rw [Int.neg_neg]; exact IntWalk.i64_in _ (by omega)
  have wC : IntKind.i64.wrap (-(-C)) = C := by rw [Int.neg_neg]; exact IntWalk.i64_in _ (by omega)
  have wD : IntKind.i64.wrap (-(-D)) = D := by rw [Int.neg_neg]; exact IntWalk.i64_in _ (by omega)
  go_enter Try.func8, Try.ntmps8
  go_wp2_with (go_at_call 15; refine (dda_valid _ _ _ _ _).mono ?_; rw [HV.out]; rintro e w1 ⟨rfl, rfl⟩)
  go_cut [6, 7] (fun s6 s7 wx => SRel a b c d A B C D w s6 s7 wx)
  case first =>
    go_region_held3 (fun w' => w'.cell? ⟨w.heap.size, 0, none⟩ = some (.int .i64 (a)) ∧ w'.cell? ⟨w.heap.size, 1, none⟩ = some (.int .i64 (b)) ∧ w'.cell? ⟨w.heap.size, 2, none⟩ = some (.int .i64 (c)) ∧ w'.cell? ⟨w.heap.size, 3, none⟩ = some (.int .i64 (d)) ∧ w'.cell? ⟨w.heap.size + 1 + 1, 0, none⟩ = some (.int .i64 (-a)) ∧ w'.cell? ⟨w.heap.size + 1 + 1, 1, none⟩ = some (.int .i64 (-b)) ∧ w'.cell? ⟨w.heap.size + 1 + 1, 2, none⟩ = some (.int .i64 (-c)) ∧ w'.cell? ⟨w.heap.size + 1 + 1, 3, none⟩ = some (.int .i64 (-d))) (first | (focus ((with_reducible refine and_eight (live_four ?_) (live_four ?_)); (· (repeat (first | with_reducible assumption | ((with_reducible apply live_new) <;> (first | with_reducible rfl | (focus (simp; done)))) | with_reducible apply live_alloc | with_reducible apply live_drew | with_reducible apply live_drewN | ((with_reducible apply live_set_other); (case hb => first | omega | (simp; done))) | with_reducible apply live_set_same | (focus (simp; done))))); (· (repeat (first | with_reducible assumption | ((with_reducible apply live_new) <;> (first | with_reducible rfl | (focus (simp; done)))) | with_reducible apply live_alloc | with_reducible apply live_drew | with_reducible apply live_drewN | ((with_reducible apply live_set_other); (case hb => first | omega | (simp; done))) | with_reducible apply live_set_same | (focus (simp; done))))); done)) | go_keep)
      (first | (go_at_call 20; (with_reducible refine (dda_at a b c d i _).mono ?_); rw [HN.out, HQ.out.1, HQ.out.2.1, HQ.out.2.2.1, HQ.out.2.2.2.1]; rintro e w1 ⟨rfl, hb1⟩; have z1 := hb1.size; (try simp at z1); (try ((apply live_take (b := w.heap.size) hb1); (· (repeat (first | with_reducible assumption | ((with_reducible apply live_new) <;> (first | with_reducible rfl | (focus (simp; done)))) | with_reducible apply live_alloc | with_reducible apply live_drew | with_reducible apply live_drewN | ((with_reducible apply live_set_other); (case hb => first | omega | (simp; done))) | with_reducible apply live_set_same | (focus (simp; done))))); (intro L1m; obtain ⟨p1m, e1m, f1m⟩ := id L1m))); (try ((apply live_take (b := w.heap.size + 1 + 1) hb1); (· (repeat (first | with_reducible assumption | ((with_reducible apply live_new) <;> (first | with_reducible rfl | (focus (simp; done)))) | with_reducible apply live_alloc | with_reducible apply live_drew | with_reducible apply live_drewN | ((with_reducible apply live_set_other); (case hb => first | omega | (simp; done))) | with_reducible apply live_set_same | (focus (simp; done))))); (intro L1n; obtain ⟨p1n, e1n, f1n⟩ := id L1n))); (try ((apply live_take (b := w.heap.size + 1 + 1 + 1) hb1); (· (repeat (first | with_reducible assumption | ((with_reducible apply live_new) <;> (first | with_reducible rfl | (focus (simp; done)))) | with_reducible apply live_alloc | with_reducible apply live_drew | with_reducible apply live_drewN | ((with_reducible apply live_set_other); (case hb => first | omega | (simp; done))) | with_reducible apply live_set_same | (focus (simp; done))))); (intro L1o; obtain ⟨p1o, e1o, f1o⟩ := id L1o))); (try ((apply live_take (b := w.heap.size + 1 + 1 + 1 + 1) hb1); (· (repeat (first | with_reducible assumption | ((with_reducible apply live_new) <;> (first | with_reducible rfl | (focus (simp; done)))) | with_reducible apply live_alloc | with_reducible apply live_drew | with_reducible apply live_drewN | ((with_reducible apply live_set_other); (case hb => first | omega | (simp; done))) | with_reducible apply live_set_same | (focus (simp; done))))); (intro L1p; obtain ⟨p1p, e1p, f1p⟩ := id L1p)))) | (go_at_call 20; (with_reducible refine (dda_at (-a) (-b) (-c) (-d) i _).mono ?_); rw [HM.out, HQ.out.2.2.2.2.1, HQ.out.2.2.2.2.2.1, HQ.out.2.2.2.2.2.2.1, HQ.out.2.2.2.2.2.2.2]; rintro e w2 ⟨rfl, hb2⟩; have z2 := hb2.size; (try simp at z2); (try ((apply live_take (b := w.heap.size) hb2); (· (repeat (first | with_reducible assumption | ((with_reducible apply live_new) <;> (first | with_reducible rfl | (focus (simp; done)))) | with_reducible apply live_alloc | with_reducible apply live_drew | with_reducible apply live_drewN | ((with_reducible apply live_set_other); (case hb => first | omega | (simp; done))) | with_reducible apply live_set_same | (focus (simp; done))))); (intro L2m; obtain ⟨p2m, e2m, f2m⟩ := id L2m))); (try ((apply live_take (b := w.heap.size + 1 + 1) hb2); (· (repeat (first | with_reducible assumption | ((with_reducible apply live_new) <;> (first | with_reducible rfl | (focus (simp; done)))) | with_reducible apply live_alloc | with_reducible apply live_drew | with_reducible apply live_drewN | ((with_reducible apply live_set_other); (case hb => first | omega | (simp; done))) | with_reducible apply live_set_same | (focus (simp; done))))); (intro L2n; obtain ⟨p2n, e2n, f2n⟩ := id L2n))); (try ((apply live_take (b := w.heap.size + 1 + 1 + 1) hb2); (· (repeat (first | with_reducible assumption | ((with_reducible apply live_new) <;> (first | with_reducible rfl | (focus (simp; done)))) | with_reducible apply live_alloc | with_reducible apply live_drew | with_reducible apply live_drewN | ((with_reducible apply live_set_other); (case hb => first | omega | (simp; done))) | with_reducible apply live_set_same | (focus (simp; done))))); (intro L2o; obtain ⟨p2o, e2o, f2o⟩ := id L2o))); (try ((apply live_take (b := w.heap.size + 1 + 1 + 1 + 1) hb2); (· (repeat (first | with_reducible assumption | ((with_reducible apply live_new) <;> (first | with_reducible rfl | (focus (simp; done)))) | with_reducible apply live_alloc | with_reducible apply live_drew | with_reducible apply live_drewN | ((with_reducible apply live_set_other); (case hb => first | omega | (simp; done))) | with_reducible apply live_set_same | (focus (simp; done))))); (intro L2p; obtain ⟨p2p, e2p, f2p⟩ := id L2p))); (try ((apply live_take (b := w1.heap.size) hb2); (· (repeat (first | with_reducible assumption | ((with_reducible apply live_new) <;> (first | with_reducible rfl | (focus (simp; done)))) | with_reducible apply live_alloc | with_reducible apply live_drew | with_reducible apply live_drewN | ((with_reducible apply live_set_other); (case hb => first | omega | (simp; done))) | with_reducible apply live_set_same | (focus (simp; done))))); (intro L2q; obtain ⟨p2q, e2q, f2q⟩ := id L2q))); (try ((apply live_take (b := w1.heap.size + 1) hb2); (· (repeat (first | with_reducible assumption | ((with_reducible apply live_new) <;> (first | with_reducible rfl | (focus (simp; done)))) | with_reducible apply live_alloc | with_reducible apply live_drew | with_reducible apply live_drewN | ((with_reducible apply live_set_other); (case hb => first | omega | (simp; done))) | with_reducible apply live_set_same | (focus (simp; done))))); (intro L2r; obtain ⟨p2r, e2r, f2r⟩ := id L2r)))))
    all_goals (try go_wp2_with fail)
    all_goals go_meet
    all_goals refine ⟨_, _, rfl, rfl, ?_, ?_, ?_, ?_, ?_, ?_, ?_, ?_⟩
    all_goals first | omega | (focus (((apply live_conv); (· (repeat (first | with_reducible assumption | ((with_reducible apply live_new) <;> (first | with_reducible rfl | (focus (simp; done)))) | with_reducible apply live_alloc | with_reducible apply live_drew | with_reducible apply live_drewN | ((with_reducible apply live_set_other); (case hb => first | omega | (simp; done))) | with_reducible apply live_set_same | (focus (simp; done))))); (· first | rfl | (simp; done))); done)) | (repeat' (first | with_reducible exact Below.refl _ _ | with_reducible refine Below.drew ?_ | with_reducible refine below_drewN ?_ _ | with_reducible refine Below.alloc ?_ ?_ _ | with_reducible refine Below.setCell ?_ ?_ _ | with_reducible refine Below.trans ?_ (Below.mono (by with_reducible assumption) ?_) | (simp; done) | (simp; omega) | omega))
  case rest =>
    obtain ⟨x, y, rfl, rfl, hx, hy, hxy, LX, LY, L0, L2, hbel⟩ := hcut
    obtain ⟨px, ex, fx⟩ := id LX
    obtain ⟨py, ey, fy⟩ := id LY
    obtain ⟨p0, e0, f0⟩ := id L0
    obtain ⟨p2, e2, f2⟩ := id L2
    have hyx : y ≠ x := fun h => hxy h.symm
    go_wp2
    refine wp_loop_rounds 5 ?_
    iterate 4
      rw [rounds_succ]
      go_wp2
      go_region
      go_wp2
    rw [rounds_succ]
    have q0 : ∀ (w : World), (binOp .eql 22 (.agg #[.int .i64 0, .int .i64 0, .int .i64 0, .int .i64 0]) (.agg #[.int .i64 0, .int .i64 0, .int .i64 0, .int .i64 0])).run Try.prog w = .ok (.bool true) w := fun w => by rw [arr_eql]; rfl
    have q1 : ∀ (w : World), (binOp .eql 22 (.agg #[.int .i64 a, .int .i64 b, .int .i64 c, .int .i64 d]) (.agg #[.int .i64 a, .int .i64 b, .int .i64 c, .int .i64 d])).run Try.prog w = .ok (.bool true) w := fun w => by rw [arr_eql]; simp [same4]
    clear wA wB wC wD la lb lc ld
    rcases (by omega : i ≤ 0 ∨ (1 ≤ i ∧ i < n') ∨ n' ≤ i) with h | h | h
    · obtain rfl := HLa.out h
      obtain rfl := HLb.out h
      obtain rfl := HLc.out h
      obtain rfl := HLd.out h
      go_wp2_with (first | (go_at_call 17; refine (dda_dom _ _ _ _ _).mono ?_; rw [HN.out]; rintro e w8 ⟨rfl, rfl⟩) | (go_at_call 17; refine (dda_dom _ _ _ _ _).mono ?_; rw [HM.out]; rintro e w8 ⟨rfl, rfl⟩) | (go_at_call 19; refine (law42_awake _).mono ?_; rintro e w9 ⟨rfl, hb9⟩; have z9 := hb9.size; (try simp at z9); have L9a := live_below hb9 (b := w.heap.size) (by (repeat (first | with_reducible assumption | ((with_reducible apply live_new) <;> (first | with_reducible rfl | (focus (simp; done)))) | with_reducible apply live_alloc | with_reducible apply live_drew | with_reducible apply live_drewN | ((with_reducible apply live_set_other); (case hb => first | omega | (simp; done))) | with_reducible apply live_set_same | (focus (simp; done))))); obtain ⟨p9a, e9a, f9a⟩ := id L9a))
      all_goals go_ret
      all_goals refine ⟨rfl, ?_⟩
      all_goals (refine Below.trans hbel ?_; (repeat' (first | with_reducible exact Below.refl _ _ | with_reducible refine Below.drew ?_ | with_reducible refine below_drewN ?_ _ | with_reducible refine Below.alloc ?_ ?_ _ | with_reducible refine Below.setCell ?_ ?_ _ | with_reducible refine Below.trans ?_ (Below.mono (by with_reducible assumption) ?_) | (simp; done) | (simp; omega) | omega)))
    · obtain ⟨h, h'⟩ := h
      go_wp2_with (first | (go_at_call 17; refine (dda_dom _ _ _ _ _).mono ?_; rw [HN.out]; rintro e w8 ⟨rfl, rfl⟩) | (go_at_call 17; refine (dda_dom _ _ _ _ _).mono ?_; rw [HM.out]; rintro e w8 ⟨rfl, rfl⟩) | (go_at_call 19; refine (law42_awake _).mono ?_; rintro e w9 ⟨rfl, hb9⟩; have z9 := hb9.size; (try simp at z9); have L9a := live_below hb9 (b := w.heap.size) (by (repeat (first | with_reducible assumption | ((with_reducible apply live_new) <;> (first | with_reducible rfl | (focus (simp; done)))) | with_reducible apply live_alloc | with_reducible apply live_drew | with_reducible apply live_drewN | ((with_reducible apply live_set_other); (case hb => first | omega | (simp; done))) | with_reducible apply live_set_same | (focus (simp; done))))); obtain ⟨p9a, e9a, f9a⟩ := id L9a))
      all_goals go_ret
      all_goals refine ⟨rfl, ?_⟩
      all_goals (refine Below.trans hbel ?_; (repeat' (first | with_reducible exact Below.refl _ _ | with_reducible refine Below.drew ?_ | with_reducible refine below_drewN ?_ _ | with_reducible refine Below.alloc ?_ ?_ _ | with_reducible refine Below.setCell ?_ ?_ _ | with_reducible refine Below.trans ?_ (Below.mono (by with_reducible assumption) ?_) | (simp; done) | (simp; omega) | omega)))
    · obtain rfl := HHa.out h
      obtain rfl := HHb.out h
      obtain rfl := HHc.out h
      obtain rfl := HHd.out h
      go_wp2_with (first | (go_at_call 17; refine (dda_dom _ _ _ _ _).mono ?_; rw [HN.out]; rintro e w8 ⟨rfl, rfl⟩) | (go_at_call 17; refine (dda_dom _ _ _ _ _).mono ?_; rw [HM.out]; rintro e w8 ⟨rfl, rfl⟩) | (go_at_call 19; refine (law42_awake _).mono ?_; rintro e w9 ⟨rfl, hb9⟩; have z9 := hb9.size; (try simp at z9); have L9a := live_below hb9 (b := w.heap.size) (by (repeat (first | with_reducible assumption | ((with_reducible apply live_new) <;> (first | with_reducible rfl | (focus (simp; done)))) | with_reducible apply live_alloc | with_reducible apply live_drew | with_reducible apply live_drewN | ((with_reducible apply live_set_other); (case hb => first | omega | (simp; done))) | with_reducible apply live_set_same | (focus (simp; done))))); obtain ⟨p9a, e9a, f9a⟩ := id L9a))
      all_goals go_ret
      all_goals refine ⟨rfl, ?_⟩
      all_goals (refine Below.trans hbel ?_; (repeat' (first | with_reducible exact Below.refl _ _ | with_reducible refine Below.drew ?_ | with_reducible refine below_drewN ?_ _ | with_reducible refine Below.alloc ?_ ?_ _ | with_reducible refine Below.setCell ?_ ?_ _ | with_reducible refine Below.trans ?_ (Below.mono (by with_reducible assumption) ?_) | (simp; done) | (simp; omega) | omega)))

theorem walk (a b c d i : Int) (w : World) :
    Calls Try.prog 8 #[.agg #[.int .i64 a, .int .i64 b, .int .i64 c, .int .i64 d], .int .i64 i] w fun e w' => e = .returned (.bool true) ∧ Below w.heap.size w w' := by
  cases hv : ddaValid a b c d
  · exact walk_out a b c d i w hv
  · exact walk_in a b c d i w hv

set_option maxRecDepth 100000 in
theorem lifted (os : Os) (started : os.Started) (H : Type) (enc : TypeId × Value → H) :
    ReturnsInHanded {} Try.checked os 8 .any (Rows.ddaSignsSpec.pre6 enc Try.prog Try.f8 Rows.ddaSignsRow.domain false) (Rows.ddaSignsSpec.post enc Try.prog Try.f8 false true false false) := by
  refine returnsInHanded_of_change (C := Try.checked) own started (by kernel_rfl) Try.func8
    (ChangeSpec.witness6 (enc := enc) (C := Try.checked) false ⟨#[], #[.agg #[.int .i64 0, .int .i64 0, .int .i64 0, .int .i64 0], .int .i64 0], []⟩ 8 (by kernel_rfl) (by kernel_rfl) (by kernel_rfl) (by kernel_rfl)) ?_
  intro W base args ds gs before hval0 hW _ _
  have hval : ∀ (j : Nat) t v, Try.f8.params[j]? = some t → args[j]? = some v → Value.okWide Try.prog W .any base t v := hval0
  have hW' := hW
  obtain ⟨p, q, hA0, hV, rfl, _, _⟩ := hW
  have hA : DataW.TrodAll enc Try.prog W 0 (fun _ => true) true Try.f8.params.toList args.toList ds p := hA0
  rw [Try.params8] at hA hval
  obtain ⟨v0, v1, d0, d1, p0, p1, rfl, rfl, rfl, h0, h1⟩ := trodAll_two hA
  clear hA hA0 hval0
  obtain ⟨f0, bf0, rfl⟩ := flat_ints (n := 4) (u := 3) (by kernel_rfl) (by kernel_rfl) (by kernel_rfl) Try.underlying3 (hval 0 22 v0 rfl rfl)
  obtain ⟨a1, rfl, ba1⟩ := int_open Try.underlying3 (hval 1 3 v1 rfl rfl)
  exact (walk (f0 0) (f0 1) (f0 2) (f0 3) a1 W).mono fun e W' ⟨he, hb⟩ => ⟨_, he, law_post laidOut (by kernel_rfl) rfl (fun _ => rfl) rfl Try.underlying4 hW' hb⟩

theorem holds : Rows.DdaSignsSaid :=
  OpenClaim.holds_of_wide 8 Try.f8 rfl rfl rfl rfl rfl rfl rfl ⟨rfl, rfl, rfl, rfl, rfl⟩ rfl rfl rfl rfl rfl (by kernel_rfl) Try.func8 (by kernel_rfl)
    (of_decide_eq_true (by kernel_rfl)) (by unfold Func.isWrapper; rw [if_neg (of_decide_eq_false (by kernel_rfl))]; exact ⟨rfl, rfl⟩)
    (fun os started H enc _ => lifted os started H enc)

#print axioms holds
end Go.Proofs.Ytjcnheakjgmidaa.ddaSigns
