/- DdaExact: the pulses of all steps add up to the counts; each is 0 or the sign of its count; a dominant motor makes one in each step -/
import Derived.Deep.RegionWith
import Derived.Deep.RegionHeld3
import Derived.Deep.DeepCutAuto
import Derived.Deep.DrawnRows
import Derived.Deep.QuietTactic
import Derived.BigQuiet
import Derived.RegionTactic
import Derived.BigRegion
import Derived.IntWalk
import Derived.Handy
import Derived.Outline
import Derived.Test.YtjcnheakjgmidaaBase
import Derived.Test.YtjcnheakjgmidaaKit3
import Derived.Test.YtjcnheakjgmidaaDdaPlain
import Derived.Test.YtjcnheakjgmidaaL42Awake
namespace Go.Proofs.Ytjcnheakjgmidaa.ddaExact
open Go.ChangeShapes Go.WideShapes Go.ChangeAt Go.RowKit
set_option linter.unusedVariables false

attribute [local go_sem] cell_past1 cell_past2 cell_past3 cell_past4 froz_past1 froz_past2 froz_past3
attribute [local go_sem ↓] Go.wp_at_zero Go.wp_at_succ

def sg (x : Int) : Int := if 0 < x then 1 else if x < 0 then -1 else 0

theorem at_step (n i x : Int) (hn : 1 ≤ n) (hx : ab x ≤ n) : (2 * i * ab x + n) / (2 * n) ≤ (2 * (i + 1) * ab x + n) / (2 * n) ∧ (2 * (i + 1) * ab x + n) / (2 * n) ≤ (2 * i * ab x + n) / (2 * n) + 1 := by
  have hab : 0 ≤ ab x := by unfold ab; omega
  have e : 2 * (i + 1) * ab x = 2 * i * ab x + 2 * ab x := by rw [Int.mul_add, Int.add_mul]; omega
  rw [e]
  generalize 2 * i * ab x = y
  constructor
  · exact Int.ediv_le_ediv (by omega) (by omega)
  · have h3 : (y + 2 * ab x + n) / (2 * n) ≤ (y + n + 1 * (2 * n)) / (2 * n) := Int.ediv_le_ediv (by omega) (by omega)
    rw [Int.add_mul_ediv_right _ _ (by omega)] at h3
    exact h3
theorem at_top (n i x : Int) (hn : 1 ≤ n) (hx : ab x = n) : (2 * i * ab x + n) / (2 * n) = i := by
  rw [hx, show 2 * i * n + n = n + i * (2 * n) from by rw [Int.mul_comm i, Int.mul_assoc, Int.mul_comm i n, ← Int.mul_assoc]; omega, Int.add_mul_ediv_right _ _ (by omega), Int.ediv_eq_zero_of_lt (by omega) (by omega)]; omega
theorem at_zero (n i : Int) (hn : 1 ≤ n) : (2 * i * ab 0 + n) / (2 * n) = 0 := by
  rw [show ab 0 = 0 from by decide, Int.mul_zero, Int.zero_add]; exact Int.ediv_eq_zero_of_lt (by omega) (by omega)

theorem bit (n i x : Int) (hn : 1 ≤ n) (h0 : 0 ≤ i) (h1 : i < n) (hx : ab x ≤ n) :
    (puM n (i + 1) x = 0 ∧ x ≠ n ∧ x ≠ -n) ∨ (puM n (i + 1) x = sg x ∧ sg x ≠ 0) := by
  have hs := at_step n i x hn hx
  have c0 : atClamp n (i + 1) = i + 1 := by unfold atClamp; omega
  have c1 : atClamp n i = i := by unfold atClamp; omega
  unfold puM
  rw [if_neg (by omega), show i + 1 - 1 = i from by omega]
  unfold atM
  rw [if_neg (by omega), if_neg (by omega), c0, c1]
  unfold atI
  by_cases hz : x = 0
  · subst hz
    left
    rw [at_zero n i hn, at_zero n (i + 1) hn]
    simp; omega
  · by_cases ht : ab x = n
    · have e1 := at_top n i x hn ht
      have e2 := at_top n (i + 1) x hn ht
      rw [e1, e2]
      right
      unfold sg
      unfold ab at ht
      split <;> split <;> omega
    · generalize (2 * i * ab x + n) / (2 * n) = p at *
      generalize (2 * (i + 1) * ab x + n) / (2 * n) = q at *
      unfold ab at ht
      unfold sg
      rcases (by omega : q = p ∨ q = p + 1) with h | h
      · left
        refine ⟨by split <;> omega, by omega, by omega⟩
      · right
        split <;> split <;> omega

theorem pu_next (n i x : Int) (h0 : 0 ≤ i) (h1 : i < n) : atM n i x + puM n (i + 1) x = atM n (i + 1) x := by
  unfold puM
  rw [if_neg (by omega), show i + 1 - 1 = i from by omega]
  omega

theorem dom_le (a b c d : Int) (h : ddaValid a b c d = true) : ab a ≤ ddaDom a b c d ∧ ab b ≤ ddaDom a b c d ∧ ab c ≤ ddaDom a b c d ∧ ab d ≤ ddaDom a b c d := by
  unfold ddaDom; rw [if_pos h]; unfold dom4; omega

set_option maxRecDepth 100000 in
theorem law42_sign (x : Int) (w : World) : Calls Try.prog 24 #[.int .i64 x] w fun e w' => e = .returned (.int .i64 (sg x)) ∧ w' = w := by
  rcases (by omega : 0 < x ∨ x < 0 ∨ x = 0) with h | h | h
  · go_enter Try.func24, Try.ntmps24
    go_wp2
    go_ret
    exact ⟨ret_int (by unfold sg; rw [if_pos h]), rfl⟩
  · go_enter Try.func24, Try.ntmps24
    go_wp2
    go_ret
    exact ⟨ret_int (by unfold sg; rw [if_neg (by omega), if_pos h]), rfl⟩
  · subst h
    go_enter Try.func24, Try.ntmps24
    go_wp2
    go_ret
    exact ⟨rfl, rfl⟩

def sel (k j : Nat) (o p : Int) : Int := if j < k then o + p else o

set_option maxRecDepth 100000 in
set_option maxHeartbeats 16000000 in
theorem few (a b c d : Int) (w : World) (h : 300 < ddaDom a b c d ∨ ddaValid a b c d = false) :
    Calls Try.prog 6 #[.agg #[.int .i64 a, .int .i64 b, .int .i64 c, .int .i64 d]] w fun e w' => e = .returned (.bool true) ∧ Below w.heap.size w w' := by
  have q0 : ∀ (w : World), (binOp .eql 22 (.agg #[.int .i64 0, .int .i64 0, .int .i64 0, .int .i64 0]) (.agg #[.int .i64 0, .int .i64 0, .int .i64 0, .int .i64 0])).run Try.prog w = .ok (.bool true) w := fun w => by rw [arr_eql]; rfl
  by_cases h1 : 300 < ddaDom a b c d
  · generalize hn : ddaDom a b c d = n at *
    have HN := Lib.hid hn
    clear hn h
    go_enter Try.func6, Try.ntmps6
    go_wp2_with (first | (go_at_call 17; refine (dda_dom _ _ _ _ _).mono ?_; rw [HN.out]; rintro e w1 ⟨rfl, rfl⟩) | (go_at_call 19; refine (law42_awake _).mono ?_; rintro e w9 ⟨rfl, hb9⟩; have z9 := hb9.size; (try simp at z9); have L9a := live_below hb9 (b := w.heap.size) (by (repeat (first | with_reducible assumption | ((with_reducible apply live_new) <;> (first | with_reducible rfl | (focus (simp; done)))) | with_reducible apply live_alloc | with_reducible apply live_drew | with_reducible apply live_drewN | ((with_reducible apply live_set_other); (case hb => first | omega | (simp; done))) | with_reducible apply live_set_same | (focus (simp; done))))); obtain ⟨p9a, e9a, f9a⟩ := id L9a))
    all_goals go_ret
    all_goals refine ⟨rfl, ?_⟩
    all_goals (repeat' (first | with_reducible exact Below.refl _ _ | with_reducible refine Below.drew ?_ | with_reducible refine below_drewN ?_ _ | with_reducible refine Below.alloc ?_ ?_ _ | with_reducible refine Below.setCell ?_ ?_ _ | with_reducible refine Below.trans ?_ (Below.mono (by with_reducible assumption) ?_) | (simp; done) | (simp; omega) | omega))
  · have hv : ddaValid a b c d = false := by
      rcases h with h | h
      · exact absurd h h1
      · exact h
    have HN : Hid (ddaDom a b c d = 0) := by show _ = _; unfold ddaDom; simp [hv]
    have HV := Lib.hid hv
    have HA : Hid (∀ x, atM 0 1 x = 0) := Lib.hid (fun x => by unfold atM; rw [if_pos rfl])
    have HP : Hid (∀ x, puM 0 1 x = 0) := Lib.hid (fun x => by unfold puM; rw [if_pos (by omega)])
    clear hv h h1
    go_enter Try.func6, Try.ntmps6
    go_wp2_with (first | (go_at_call 17; refine (dda_dom _ _ _ _ _).mono ?_; rw [HN.out]; rintro e w1 ⟨rfl, rfl⟩) | (go_at_call 15; refine (dda_valid _ _ _ _ _).mono ?_; rw [HV.out]; rintro e w1 ⟨rfl, rfl⟩) | (go_at_call 20; refine (dda_at _ _ _ _ _ _).mono ?_; rw [HN.out, HA.out, HA.out, HA.out, HA.out]; rintro e w2 ⟨rfl, hb2⟩; have z2 := hb2.size; (try simp at z2); have L2a := live_below hb2 (b := w.heap.size) (by (repeat (first | with_reducible assumption | ((with_reducible apply live_new) <;> (first | with_reducible rfl | (focus (simp; done)))) | with_reducible apply live_alloc | with_reducible apply live_drew | with_reducible apply live_drewN | ((with_reducible apply live_set_other); (case hb => first | omega | (simp; done))) | with_reducible apply live_set_same | (focus (simp; done))))); obtain ⟨p2a, e2a, f2a⟩ := id L2a) | (go_at_call 22; refine (dda_pulse _ _ _ _ _ _).mono ?_; rw [HN.out, HP.out, HP.out, HP.out, HP.out]; rintro e w3 ⟨rfl, hb3⟩; have z3 := hb3.size; (try simp at z3); have L3a := live_below hb3 (b := w.heap.size) (by (repeat (first | with_reducible assumption | ((with_reducible apply live_new) <;> (first | with_reducible rfl | (focus (simp; done)))) | with_reducible apply live_alloc | with_reducible apply live_drew | with_reducible apply live_drewN | ((with_reducible apply live_set_other); (case hb => first | omega | (simp; done))) | with_reducible apply live_set_same | (focus (simp; done))))); obtain ⟨p3a, e3a, f3a⟩ := id L3a) | (go_at_call 19; refine (law42_awake _).mono ?_; rintro e w9 ⟨rfl, hb9⟩; have z9 := hb9.size; (try simp at z9); have L9a := live_below hb9 (b := w.heap.size) (by (repeat (first | with_reducible assumption | ((with_reducible apply live_new) <;> (first | with_reducible rfl | (focus (simp; done)))) | with_reducible apply live_alloc | with_reducible apply live_drew | with_reducible apply live_drewN | ((with_reducible apply live_set_other); (case hb => first | omega | (simp; done))) | with_reducible apply live_set_same | (focus (simp; done))))); obtain ⟨p9a, e9a, f9a⟩ := id L9a))
    all_goals go_ret
    all_goals refine ⟨rfl, ?_⟩
    all_goals (repeat' (first | with_reducible exact Below.refl _ _ | with_reducible refine Below.drew ?_ | with_reducible refine below_drewN ?_ _ | with_reducible refine Below.alloc ?_ ?_ _ | with_reducible refine Below.setCell ?_ ?_ _ | with_reducible refine Below.trans ?_ (Below.mono (by with_reducible assumption) ?_) | (simp; done) | (simp; omega) | omega))

def Rel (n a b c d : Int) (B S : Nat) (w : World) (s5 : Value) (wr : World) : Prop :=
  ∃ i : Int, s5 = .int .i64 (i + 1) ∧ 0 ≤ i ∧ i ≤ n ∧ Live wr B #[.int .i64 a, .int .i64 b, .int .i64 c, .int .i64 d] ∧ Live wr S #[.int .i64 (atM n i a), .int .i64 (atM n i b), .int .i64 (atM n i c), .int .i64 (atM n i d)] ∧ Below w.heap.size w wr

def Inner (a b c d oa ob oc od pa pb pc pd : Int) (B S P : Nat) (w : World) (s7 : Value) (wr : World) : Prop :=
  ∃ k : Nat, s7 = .int .i64 k ∧ k ≤ 4 ∧ Live wr B #[.int .i64 a, .int .i64 b, .int .i64 c, .int .i64 d] ∧ Live wr S #[.int .i64 (sel k 0 oa pa), .int .i64 (sel k 1 ob pb), .int .i64 (sel k 2 oc pc), .int .i64 (sel k 3 od pd)] ∧ Live wr P #[.int .i64 pa, .int .i64 pb, .int .i64 pc, .int .i64 pd] ∧ Below w.heap.size w wr

set_option maxRecDepth 100000 in
set_option maxHeartbeats 16000000 in
theorem many (a b c d : Int) (w : World) (hv : ddaValid a b c d = true) (hm : ddaDom a b c d ≤ 300) :
    Calls Try.prog 6 #[.agg #[.int .i64 a, .int .i64 b, .int .i64 c, .int .i64 d]] w fun e w' => e = .returned (.bool true) ∧ Below w.heap.size w w' := by
  have hn := ddaDom_pos a b c d hv
  obtain ⟨xa, xb, xc, xd⟩ := dom_le a b c d hv
  have hbd : (-16777216 ≤ a ∧ a ≤ 16777216) ∧ (-16777216 ≤ b ∧ b ≤ 16777216) ∧ (-16777216 ≤ c ∧ c ≤ 16777216) ∧ (-16777216 ≤ d ∧ d ≤ 16777216) := by
    have := hv; simp [ddaValid] at this; omega
  obtain ⟨⟨a0, a1⟩, ⟨b0, b1⟩, ⟨c0, c1⟩, d0, d1⟩ := hbd
  have HV := Lib.hid hv
  clear hv
  generalize hN : ddaDom a b c d = n at *
  have HN := Lib.hid hN
  clear hN
  have HZ : Hid (∀ x, atM n 0 x = 0) := Lib.hid (fun x => by unfold atM; rw [if_neg (by omega), show atClamp n 0 = 0 from by unfold atClamp; omega, atI_none n x hn])
  have HF : Hid (∀ x, atM n n x = x) := Lib.hid (fun x => by unfold atM; rw [if_neg (by omega), show atClamp n n = n from by unfold atClamp; omega, atI_full n x hn])
  have hq : ∀ (x y z u : Int) (w : World), (binOp .neq 22 (.agg #[.int .i64 x, .int .i64 y, .int .i64 z, .int .i64 u]) (.agg #[.int .i64 x, .int .i64 y, .int .i64 z, .int .i64 u])).run Try.prog w = .ok (.bool false) w := fun x y z u w => by
    rw [arr_neq]; simp [same4]
  have hq2 : ∀ (x y z u : Int) (w : World), (binOp .eql 22 (.agg #[.int .i64 x, .int .i64 y, .int .i64 z, .int .i64 u]) (.agg #[.int .i64 x, .int .i64 y, .int .i64 z, .int .i64 u])).run Try.prog w = .ok (.bool true) w := fun x y z u w => by
    rw [arr_eql]; simp [same4]
  go_enter Try.func6, Try.ntmps6
  go_wp2_with (first | (go_at_call 17; refine (dda_dom _ _ _ _ _).mono ?_; rw [HN.out]; rintro e w1 ⟨rfl, rfl⟩) | (go_at_call 15; refine (dda_valid _ _ _ _ _).mono ?_; rw [HV.out]; rintro e w1 ⟨rfl, rfl⟩))
  go_loopw [5] (Rel n a b c d w.heap.size (w.heap.size + 1 + 1 + 1 + 1) w) (fun i _ => (n + 1 - intOf i).toNat)
  case atStart => exact ⟨0, rfl, by omega, by omega, by (repeat (first | with_reducible assumption | ((with_reducible apply live_new) <;> (first | with_reducible rfl | (focus (simp; done)))) | with_reducible apply live_alloc | with_reducible apply live_drew | with_reducible apply live_drewN | ((with_reducible apply live_set_other); (case hb => first | omega | (simp; done))) | with_reducible apply live_set_same | (focus (simp; done)))), by rw [HZ.out, HZ.out, HZ.out, HZ.out]; (repeat (first | with_reducible assumption | ((with_reducible apply live_new) <;> (first | with_reducible rfl | (focus (simp; done)))) | with_reducible apply live_alloc | with_reducible apply live_drew | with_reducible apply live_drewN | ((with_reducible apply live_set_other); (case hb => first | omega | (simp; done))) | with_reducible apply live_set_same | (focus (simp; done)))), by (repeat' (first | with_reducible exact Below.refl _ _ | with_reducible refine Below.drew ?_ | with_reducible refine below_drewN ?_ _ | with_reducible refine Below.alloc ?_ ?_ _ | with_reducible refine Below.setCell ?_ ?_ _ | with_reducible refine Below.trans ?_ (Below.mono (by with_reducible assumption) ?_) | (simp; done) | (simp; omega) | omega))⟩
  case round =>
    obtain ⟨i, rfl, i0, i1, L0, LS, hb0⟩ := hrel
    obtain ⟨p0, e0, f0⟩ := id L0
    obtain ⟨ps, es, fs⟩ := id LS
    by_cases hlt : i < n
    · have ha := bit n i a hn i0 hlt xa
      have hb := bit n i b hn i0 hlt xb
      have hc := bit n i c hn i0 hlt xc
      have hd := bit n i d hn i0 hlt xd
      have ga := pu_next n i a i0 hlt
      have gb := pu_next n i b i0 hlt
      have gc := pu_next n i c i0 hlt
      have gd := pu_next n i d i0 hlt
      have ra := atM_in n i a (by omega) hn a0 a1
      have rb := atM_in n i b (by omega) hn b0 b1
      have rc := atM_in n i c (by omega) hn c0 c1
      have rd := atM_in n i d (by omega) hn d0 d1
      generalize hPa : puM n (i + 1) a = pa at *
      generalize hPb : puM n (i + 1) b = pb at *
      generalize hPc : puM n (i + 1) c = pc at *
      generalize hPd : puM n (i + 1) d = pd at *
      generalize hOa : atM n i a = oa at *
      generalize hOb : atM n i b = ob at *
      generalize hOc : atM n i c = oc at *
      generalize hOd : atM n i d = od at *
      have HP : Hid (puM n (i + 1) a = pa ∧ puM n (i + 1) b = pb ∧ puM n (i + 1) c = pc ∧ puM n (i + 1) d = pd) := Lib.hid ⟨hPa, hPb, hPc, hPd⟩
      have HG : Hid (oa + pa = atM n (i + 1) a ∧ ob + pb = atM n (i + 1) b ∧ oc + pc = atM n (i + 1) c ∧ od + pd = atM n (i + 1) d) := Lib.hid ⟨ga, gb, gc, gd⟩
      have HA := Lib.hid ha
      have HB := Lib.hid hb
      have HC := Lib.hid hc
      have HD := Lib.hid hd
      have sa : -2 ≤ pa ∧ pa ≤ 2 := by unfold sg at ha; rcases ha with ⟨h, _⟩ | ⟨h, _⟩ <;> (try split at h) <;> (try split at h) <;> omega
      have sb : -2 ≤ pb ∧ pb ≤ 2 := by unfold sg at hb; rcases hb with ⟨h, _⟩ | ⟨h, _⟩ <;> (try split at h) <;> (try split at h) <;> omega
      have sc : -2 ≤ pc ∧ pc ≤ 2 := by unfold sg at hc; rcases hc with ⟨h, _⟩ | ⟨h, _⟩ <;> (try split at h) <;> (try split at h) <;> omega
      have sd : -2 ≤ pd ∧ pd ≤ 2 := by unfold sg at hd; rcases hd with ⟨h, _⟩ | ⟨h, _⟩ <;> (try split at h) <;> (try split at h) <;> omega
      clear ha hb hc hd ga gb gc gd hPa hPb hPc hPd hOa hOb hOc hOd
      obtain ⟨ra0, ra1⟩ := ra
      obtain ⟨rb0, rb1⟩ := rb
      obtain ⟨rc0, rc1⟩ := rc
      obtain ⟨rd0, rd1⟩ := rd
      obtain ⟨sa0, sa1⟩ := sa
      obtain ⟨sb0, sb1⟩ := sb
      obtain ⟨sc0, sc1⟩ := sc
      obtain ⟨sd0, sd1⟩ := sd
      obtain ⟨wo, rfl⟩ : ∃ wo : World, wo = wr := ⟨_, rfl⟩
      go_wp2_with (go_at_call 22; refine (dda_pulse _ _ _ _ _ _).mono ?_; rw [HN.out, HP.out.1, HP.out.2.1, HP.out.2.2.1, HP.out.2.2.2]; rintro e w2 ⟨rfl, hb2⟩; have z2 := hb2.size; (try simp at z2); have L2a := live_below hb2 (b := w.heap.size) (by (repeat (first | with_reducible assumption | ((with_reducible apply live_new) <;> (first | with_reducible rfl | (focus (simp; done)))) | with_reducible apply live_alloc | with_reducible apply live_drew | with_reducible apply live_drewN | ((with_reducible apply live_set_other); (case hb => first | omega | (simp; done))) | with_reducible apply live_set_same | (focus (simp; done))))); obtain ⟨p2a, e2a, f2a⟩ := id L2a; have L2b := live_below hb2 (b := w.heap.size + 1 + 1 + 1 + 1) (by (repeat (first | with_reducible assumption | ((with_reducible apply live_new) <;> (first | with_reducible rfl | (focus (simp; done)))) | with_reducible apply live_alloc | with_reducible apply live_drew | with_reducible apply live_drewN | ((with_reducible apply live_set_other); (case hb => first | omega | (simp; done))) | with_reducible apply live_set_same | (focus (simp; done))))); obtain ⟨p2b, e2b, f2b⟩ := id L2b)
      go_loopw [7] (Inner a b c d oa ob oc od pa pb pc pd w.heap.size (w.heap.size + 1 + 1 + 1 + 1) w2.heap.size w) (fun k _ => 4 - (intOf k).toNat)
      case atStart => exact ⟨0, rfl, by omega, by (repeat (first | with_reducible assumption | ((with_reducible apply live_new) <;> (first | with_reducible rfl | (focus (simp; done)))) | with_reducible apply live_alloc | with_reducible apply live_drew | with_reducible apply live_drewN | ((with_reducible apply live_set_other); (case hb => first | omega | (simp; done))) | with_reducible apply live_set_same | (focus (simp; done)))), by show Live _ _ #[.int .i64 oa, .int .i64 ob, .int .i64 oc, .int .i64 od]; (repeat (first | with_reducible assumption | ((with_reducible apply live_new) <;> (first | with_reducible rfl | (focus (simp; done)))) | with_reducible apply live_alloc | with_reducible apply live_drew | with_reducible apply live_drewN | ((with_reducible apply live_set_other); (case hb => first | omega | (simp; done))) | with_reducible apply live_set_same | (focus (simp; done)))), by (repeat (first | with_reducible assumption | ((with_reducible apply live_new) <;> (first | with_reducible rfl | (focus (simp; done)))) | with_reducible apply live_alloc | with_reducible apply live_drew | with_reducible apply live_drewN | ((with_reducible apply live_set_other); (case hb => first | omega | (simp; done))) | with_reducible apply live_set_same | (focus (simp; done)))), by refine Below.trans hb0 ?_; (repeat' (first | with_reducible exact Below.refl _ _ | with_reducible refine Below.drew ?_ | with_reducible refine below_drewN ?_ _ | with_reducible refine Below.alloc ?_ ?_ _ | with_reducible refine Below.setCell ?_ ?_ _ | with_reducible refine Below.trans ?_ (Below.mono (by with_reducible assumption) ?_) | (simp; done) | (simp; omega) | omega))⟩
      case round =>
        obtain ⟨k, rfl, hk, M0, MS, MP, hb1⟩ := hrel
        obtain ⟨q0, g0, h0⟩ := id M0
        obtain ⟨qs, gs, hs⟩ := id MS
        obtain ⟨qp, gp, hp⟩ := id MP
        rcases (by omega : k = 0 ∨ k = 1 ∨ k = 2 ∨ k = 3 ∨ k = 4) with rfl | rfl | rfl | rfl | rfl
        · have MS' : Live wr (w.heap.size + 1 + 1 + 1 + 1) #[.int .i64 oa, .int .i64 ob, .int .i64 oc, .int .i64 od] := MS
          clear MS qs gs hs
          obtain ⟨qs, gs, hs⟩ := id MS'
          have wP : IntKind.i64.wrap (-n) = -n := IntWalk.i64_in _ (by omega)
          have wS : IntKind.i64.wrap (oa + pa) = oa + pa := IntWalk.i64_in _ (by omega)
          rcases HA.out with ⟨hz, hn1, hn2⟩ | ⟨hz, hn1⟩
          · subst hz
            have t1 : (a == n) = false := beq_eq_false_iff_ne.2 hn1
            have t2 : (a == -n) = false := beq_eq_false_iff_ne.2 hn2
            go_wp2_with fail
            go_quiet (fail)
            go_wp2_with fail
            go_region
            all_goals go_wp2_with fail
            all_goals go_roundw
            case rel => exact ⟨1, by go_num, by omega, by (repeat (first | with_reducible assumption | ((with_reducible apply live_new) <;> (first | with_reducible rfl | (focus (simp; done)))) | with_reducible apply live_alloc | with_reducible apply live_drew | with_reducible apply live_drewN | ((with_reducible apply live_set_other); (case hb => first | omega | (simp; done))) | with_reducible apply live_set_same | (focus (simp; done)))), by show Live _ _ #[.int .i64 (oa + 0), .int .i64 ob, .int .i64 oc, .int .i64 od]; ((apply live_conv); (· (repeat (first | with_reducible assumption | ((with_reducible apply live_new) <;> (first | with_reducible rfl | (focus (simp; done)))) | with_reducible apply live_alloc | with_reducible apply live_drew | with_reducible apply live_drewN | ((with_reducible apply live_set_other); (case hb => first | omega | (simp; done))) | with_reducible apply live_set_same | (focus (simp; done))))); (· first | rfl | (simp; done))), by (repeat (first | with_reducible assumption | ((with_reducible apply live_new) <;> (first | with_reducible rfl | (focus (simp; done)))) | with_reducible apply live_alloc | with_reducible apply live_drew | with_reducible apply live_drewN | ((with_reducible apply live_set_other); (case hb => first | omega | (simp; done))) | with_reducible apply live_set_same | (focus (simp; done)))), by refine Below.trans hb1 ?_; (repeat' (first | with_reducible exact Below.refl _ _ | with_reducible refine Below.drew ?_ | with_reducible refine below_drewN ?_ _ | with_reducible refine Below.alloc ?_ ?_ _ | with_reducible refine Below.setCell ?_ ?_ _ | with_reducible refine Below.trans ?_ (Below.mono (by with_reducible assumption) ?_) | (simp; done) | (simp; omega) | omega))⟩
            case measure => first | (simp [intOf]; done) | (simp [intOf]; omega)
          · subst hz
            have t3 : (sg a != 0) = true := by simp [hn1]
            have t4 : (sg a == 0) = false := beq_eq_false_iff_ne.2 hn1
            have t5 : (sg a != sg a) = false := by simp
            rcases (by cases h1 : (a == n); (cases h2 : (a == -n); exact .inl ⟨rfl, rfl⟩; exact .inr (.inl ⟨rfl, rfl⟩)); exact .inr (.inr rfl) : ((a == n) = false ∧ (a == -n) = false) ∨ ((a == n) = false ∧ (a == -n) = true) ∨ (a == n) = true) with ⟨t1, t2⟩ | ⟨t1, t2⟩ | t1
            all_goals
              go_wp2_with fail
              go_quiet ((go_at_call 24; exact Calls.quiet_of_same (law42_sign _ _)))
              go_wp2_with fail
              go_region
              all_goals go_wp2_with fail
              all_goals go_roundw
              case rel => exact ⟨1, by go_num, by omega, by (repeat (first | with_reducible assumption | ((with_reducible apply live_new) <;> (first | with_reducible rfl | (focus (simp; done)))) | with_reducible apply live_alloc | with_reducible apply live_drew | with_reducible apply live_drewN | ((with_reducible apply live_set_other); (case hb => first | omega | (simp; done))) | with_reducible apply live_set_same | (focus (simp; done)))), by show Live _ _ #[.int .i64 (oa + sg a), .int .i64 ob, .int .i64 oc, .int .i64 od]; ((apply live_conv); (· (repeat (first | with_reducible assumption | ((with_reducible apply live_new) <;> (first | with_reducible rfl | (focus (simp; done)))) | with_reducible apply live_alloc | with_reducible apply live_drew | with_reducible apply live_drewN | ((with_reducible apply live_set_other); (case hb => first | omega | (simp; done))) | with_reducible apply live_set_same | (focus (simp; done))))); (· first | rfl | (simp; done))), by (repeat (first | with_reducible assumption | ((with_reducible apply live_new) <;> (first | with_reducible rfl | (focus (simp; done)))) | with_reducible apply live_alloc | with_reducible apply live_drew | with_reducible apply live_drewN | ((with_reducible apply live_set_other); (case hb => first | omega | (simp; done))) | with_reducible apply live_set_same | (focus (simp; done)))), by refine Below.trans hb1 ?_; (repeat' (first | with_reducible exact Below.refl _ _ | with_reducible refine Below.drew ?_ | with_reducible refine below_drewN ?_ _ | with_reducible refine Below.alloc ?_ ?_ _ | with_reducible refine Below.setCell ?_ ?_ _ | with_reducible refine Below.trans ?_ (Below.mono (by with_reducible assumption) ?_) | (simp; done) | (simp; omega) | omega))⟩
              case measure => first | (simp [intOf]; done) | (simp [intOf]; omega)
        · have MS' : Live wr (w.heap.size + 1 + 1 + 1 + 1) #[.int .i64 (oa + pa), .int .i64 ob, .int .i64 oc, .int .i64 od] := MS
          clear MS qs gs hs
          obtain ⟨qs, gs, hs⟩ := id MS'
          have wP : IntKind.i64.wrap (-n) = -n := IntWalk.i64_in _ (by omega)
          have wS : IntKind.i64.wrap (ob + pb) = ob + pb := IntWalk.i64_in _ (by omega)
          rcases HB.out with ⟨hz, hn1, hn2⟩ | ⟨hz, hn1⟩
          · subst hz
            have t1 : (b == n) = false := beq_eq_false_iff_ne.2 hn1
            have t2 : (b == -n) = false := beq_eq_false_iff_ne.2 hn2
            go_wp2_with fail
            go_quiet (fail)
            go_wp2_with fail
            go_region
            all_goals go_wp2_with fail
            all_goals go_roundw
            case rel => exact ⟨2, by go_num, by omega, by (repeat (first | with_reducible assumption | ((with_reducible apply live_new) <;> (first | with_reducible rfl | (focus (simp; done)))) | with_reducible apply live_alloc | with_reducible apply live_drew | with_reducible apply live_drewN | ((with_reducible apply live_set_other); (case hb => first | omega | (simp; done))) | with_reducible apply live_set_same | (focus (simp; done)))), by show Live _ _ #[.int .i64 (oa + pa), .int .i64 (ob + 0), .int .i64 oc, .int .i64 od]; ((apply live_conv); (· (repeat (first | with_reducible assumption | ((with_reducible apply live_new) <;> (first | with_reducible rfl | (focus (simp; done)))) | with_reducible apply live_alloc | with_reducible apply live_drew | with_reducible apply live_drewN | ((with_reducible apply live_set_other); (case hb => first | omega | (simp; done))) | with_reducible apply live_set_same | (focus (simp; done))))); (· first | rfl | (simp; done))), by (repeat (first | with_reducible assumption | ((with_reducible apply live_new) <;> (first | with_reducible rfl | (focus (simp; done)))) | with_reducible apply live_alloc | with_reducible apply live_drew | with_reducible apply live_drewN | ((with_reducible apply live_set_other); (case hb => first | omega | (simp; done))) | with_reducible apply live_set_same | (focus (simp; done)))), by refine Below.trans hb1 ?_; (repeat' (first | with_reducible exact Below.refl _ _ | with_reducible refine Below.drew ?_ | with_reducible refine below_drewN ?_ _ | with_reducible refine Below.alloc ?_ ?_ _ | with_reducible refine Below.setCell ?_ ?_ _ | with_reducible refine Below.trans ?_ (Below.mono (by with_reducible assumption) ?_) | (simp; done) | (simp; omega) | omega))⟩
            case measure => first | (simp [intOf]; done) | (simp [intOf]; omega)
          · subst hz
            have t3 : (sg b != 0) = true := by simp [hn1]
            have t4 : (sg b == 0) = false := beq_eq_false_iff_ne.2 hn1
            have t5 : (sg b != sg b) = false := by simp
            rcases (by cases h1 : (b == n); (cases h2 : (b == -n); exact .inl ⟨rfl, rfl⟩; exact .inr (.inl ⟨rfl, rfl⟩)); exact .inr (.inr rfl) : ((b == n) = false ∧ (b == -n) = false) ∨ ((b == n) = false ∧ (b == -n) = true) ∨ (b == n) = true) with ⟨t1, t2⟩ | ⟨t1, t2⟩ | t1
            all_goals
              go_wp2_with fail
              go_quiet ((go_at_call 24; exact Calls.quiet_of_same (law42_sign _ _)))
              go_wp2_with fail
              go_region
              all_goals go_wp2_with fail
              all_goals go_roundw
              case rel => exact ⟨2, by go_num, by omega, by (repeat (first | with_reducible assumption | ((with_reducible apply live_new) <;> (first | with_reducible rfl | (focus (simp; done)))) | with_reducible apply live_alloc | with_reducible apply live_drew | with_reducible apply live_drewN | ((with_reducible apply live_set_other); (case hb => first | omega | (simp; done))) | with_reducible apply live_set_same | (focus (simp; done)))), by show Live _ _ #[.int .i64 (oa + pa), .int .i64 (ob + sg b), .int .i64 oc, .int .i64 od]; ((apply live_conv); (· (repeat (first | with_reducible assumption | ((with_reducible apply live_new) <;> (first | with_reducible rfl | (focus (simp; done)))) | with_reducible apply live_alloc | with_reducible apply live_drew | with_reducible apply live_drewN | ((with_reducible apply live_set_other); (case hb => first | omega | (simp; done))) | with_reducible apply live_set_same | (focus (simp; done))))); (· first | rfl | (simp; done))), by (repeat (first | with_reducible assumption | ((with_reducible apply live_new) <;> (first | with_reducible rfl | (focus (simp; done)))) | with_reducible apply live_alloc | with_reducible apply live_drew | with_reducible apply live_drewN | ((with_reducible apply live_set_other); (case hb => first | omega | (simp; done))) | with_reducible apply live_set_same | (focus (simp; done)))), by refine Below.trans hb1 ?_; (repeat' (first | with_reducible exact Below.refl _ _ | with_reducible refine Below.drew ?_ | with_reducible refine below_drewN ?_ _ | with_reducible refine Below.alloc ?_ ?_ _ | with_reducible refine Below.setCell ?_ ?_ _ | with_reducible refine Below.trans ?_ (Below.mono (by with_reducible assumption) ?_) | (simp; done) | (simp; omega) | omega))⟩
              case measure => first | (simp [intOf]; done) | (simp [intOf]; omega)
        · have MS' : Live wr (w.heap.size + 1 + 1 + 1 + 1) #[.int .i64 (oa + pa), .int .i64 (ob + pb), .int .i64 oc, .int .i64 od] := MS
          clear MS qs gs hs
          obtain ⟨qs, gs, hs⟩ := id MS'
          have wP : IntKind.i64.wrap (-n) = -n := IntWalk.i64_in _ (by omega)
          have wS : IntKind.i64.wrap (oc + pc) = oc + pc := IntWalk.i64_in _ (by omega)
          rcases HC.out with ⟨hz, hn1, hn2⟩ | ⟨hz, hn1⟩
          · subst hz
            have t1 : (c == n) = false := beq_eq_false_iff_ne.2 hn1
            have t2 : (c == -n) = false := beq_eq_false_iff_ne.2 hn2
            go_wp2_with fail
            go_quiet (fail)
            go_wp2_with fail
            go_region
            all_goals go_wp2_with fail
            all_goals go_roundw
            case rel => exact ⟨3, by go_num, by omega, by (repeat (first | with_reducible assumption | ((with_reducible apply live_new) <;> (first | with_reducible rfl | (focus (simp; done)))) | with_reducible apply live_alloc | with_reducible apply live_drew | with_reducible apply live_drewN | ((with_reducible apply live_set_other); (case hb => first | omega | (simp; done))) | with_reducible apply live_set_same | (focus (simp; done)))), by show Live _ _ #[.int .i64 (oa + pa), .int .i64 (ob + pb), .int .i64 (oc + 0), .int .i64 od]; ((apply live_conv); (· (repeat (first | with_reducible assumption | ((with_reducible apply live_new) <;> (first | with_reducible rfl | (focus (simp; done)))) | with_reducible apply live_alloc | with_reducible apply live_drew | with_reducible apply live_drewN | ((with_reducible apply live_set_other); (case hb => first | omega | (simp; done))) | with_reducible apply live_set_same | (focus (simp; done))))); (· first | rfl | (simp; done))), by (repeat (first | with_reducible assumption | ((with_reducible apply live_new) <;> (first | with_reducible rfl | (focus (simp; done)))) | with_reducible apply live_alloc | with_reducible apply live_drew | with_reducible apply live_drewN | ((with_reducible apply live_set_other); (case hb => first | omega | (simp; done))) | with_reducible apply live_set_same | (focus (simp; done)))), by refine Below.trans hb1 ?_; (repeat' (first | with_reducible exact Below.refl _ _ | with_reducible refine Below.drew ?_ | with_reducible refine below_drewN ?_ _ | with_reducible refine Below.alloc ?_ ?_ _ | with_reducible refine Below.setCell ?_ ?_ _ | with_reducible refine Below.trans ?_ (Below.mono (by with_reducible assumption) ?_) | (simp; done) | (simp; omega) | omega))⟩
            case measure => first | (simp [intOf]; done) | (simp [intOf]; omega)
          · subst hz
            have t3 : (sg c != 0) = true := by simp [hn1]
            have t4 : (sg c == 0) = false := beq_eq_false_iff_ne.2 hn1
            have t5 : (sg c != sg c) = false := by simp
            rcases (by cases h1 : (c == n); (cases h2 : (c == -n); exact .inl ⟨rfl, rfl⟩; exact .inr (.inl ⟨rfl, rfl⟩)); exact .inr (.inr rfl) : ((c == n) = false ∧ (c == -n) = false) ∨ ((c == n) = false ∧ (c == -n) = true) ∨ (c == n) = true) with ⟨t1, t2⟩ | ⟨t1, t2⟩ | t1
            all_goals
              go_wp2_with fail
              go_quiet ((go_at_call 24; exact Calls.quiet_of_same (law42_sign _ _)))
              go_wp2_with fail
              go_region
              all_goals go_wp2_with fail
              all_goals go_roundw
              case rel => exact ⟨3, by go_num, by omega, by (repeat (first | with_reducible assumption | ((with_reducible apply live_new) <;> (first | with_reducible rfl | (focus (simp; done)))) | with_reducible apply live_alloc | with_reducible apply live_drew | with_reducible apply live_drewN | ((with_reducible apply live_set_other); (case hb => first | omega | (simp; done))) | with_reducible apply live_set_same | (focus (simp; done)))), by show Live _ _ #[.int .i64 (oa + pa), .int .i64 (ob + pb), .int .i64 (oc + sg c), .int .i64 od]; ((apply live_conv); (· (repeat (first | with_reducible assumption | ((with_reducible apply live_new) <;> (first | with_reducible rfl | (focus (simp; done)))) | with_reducible apply live_alloc | with_reducible apply live_drew | with_reducible apply live_drewN | ((with_reducible apply live_set_other); (case hb => first | omega | (simp; done))) | with_reducible apply live_set_same | (focus (simp; done))))); (· first | rfl | (simp; done))), by (repeat (first | with_reducible assumption | ((with_reducible apply live_new) <;> (first | with_reducible rfl | (focus (simp; done)))) | with_reducible apply live_alloc | with_reducible apply live_drew | with_reducible apply live_drewN | ((with_reducible apply live_set_other); (case hb => first | omega | (simp; done))) | with_reducible apply live_set_same | (focus (simp; done)))), by refine Below.trans hb1 ?_; (repeat' (first | with_reducible exact Below.refl _ _ | with_reducible refine Below.drew ?_ | with_reducible refine below_drewN ?_ _ | with_reducible refine Below.alloc ?_ ?_ _ | with_reducible refine Below.setCell ?_ ?_ _ | with_reducible refine Below.trans ?_ (Below.mono (by with_reducible assumption) ?_) | (simp; done) | (simp; omega) | omega))⟩
              case measure => first | (simp [intOf]; done) | (simp [intOf]; omega)
        · have MS' : Live wr (w.heap.size + 1 + 1 + 1 + 1) #[.int .i64 (oa + pa), .int .i64 (ob + pb), .int .i64 (oc + pc), .int .i64 od] := MS
          clear MS qs gs hs
          obtain ⟨qs, gs, hs⟩ := id MS'
          have wP : IntKind.i64.wrap (-n) = -n := IntWalk.i64_in _ (by omega)
          have wS : IntKind.i64.wrap (od + pd) = od + pd := IntWalk.i64_in _ (by omega)
          rcases HD.out with ⟨hz, hn1, hn2⟩ | ⟨hz, hn1⟩
          · subst hz
            have t1 : (d == n) = false := beq_eq_false_iff_ne.2 hn1
            have t2 : (d == -n) = false := beq_eq_false_iff_ne.2 hn2
            go_wp2_with fail
            go_quiet (fail)
            go_wp2_with fail
            go_region
            all_goals go_wp2_with fail
            all_goals go_roundw
            case rel => exact ⟨4, by go_num, by omega, by (repeat (first | with_reducible assumption | ((with_reducible apply live_new) <;> (first | with_reducible rfl | (focus (simp; done)))) | with_reducible apply live_alloc | with_reducible apply live_drew | with_reducible apply live_drewN | ((with_reducible apply live_set_other); (case hb => first | omega | (simp; done))) | with_reducible apply live_set_same | (focus (simp; done)))), by show Live _ _ #[.int .i64 (oa + pa), .int .i64 (ob + pb), .int .i64 (oc + pc), .int .i64 (od + 0)]; ((apply live_conv); (· (repeat (first | with_reducible assumption | ((with_reducible apply live_new) <;> (first | with_reducible rfl | (focus (simp; done)))) | with_reducible apply live_alloc | with_reducible apply live_drew | with_reducible apply live_drewN | ((with_reducible apply live_set_other); (case hb => first | omega | (simp; done))) | with_reducible apply live_set_same | (focus (simp; done))))); (· first | rfl | (simp; done))), by (repeat (first | with_reducible assumption | ((with_reducible apply live_new) <;> (first | with_reducible rfl | (focus (simp; done)))) | with_reducible apply live_alloc | with_reducible apply live_drew | with_reducible apply live_drewN | ((with_reducible apply live_set_other); (case hb => first | omega | (simp; done))) | with_reducible apply live_set_same | (focus (simp; done)))), by refine Below.trans hb1 ?_; (repeat' (first | with_reducible exact Below.refl _ _ | with_reducible refine Below.drew ?_ | with_reducible refine below_drewN ?_ _ | with_reducible refine Below.alloc ?_ ?_ _ | with_reducible refine Below.setCell ?_ ?_ _ | with_reducible refine Below.trans ?_ (Below.mono (by with_reducible assumption) ?_) | (simp; done) | (simp; omega) | omega))⟩
            case measure => first | (simp [intOf]; done) | (simp [intOf]; omega)
          · subst hz
            have t3 : (sg d != 0) = true := by simp [hn1]
            have t4 : (sg d == 0) = false := beq_eq_false_iff_ne.2 hn1
            have t5 : (sg d != sg d) = false := by simp
            rcases (by cases h1 : (d == n); (cases h2 : (d == -n); exact .inl ⟨rfl, rfl⟩; exact .inr (.inl ⟨rfl, rfl⟩)); exact .inr (.inr rfl) : ((d == n) = false ∧ (d == -n) = false) ∨ ((d == n) = false ∧ (d == -n) = true) ∨ (d == n) = true) with ⟨t1, t2⟩ | ⟨t1, t2⟩ | t1
            all_goals
              go_wp2_with fail
              go_quiet ((go_at_call 24; exact Calls.quiet_of_same (law42_sign _ _)))
              go_wp2_with fail
              go_region
              all_goals go_wp2_with fail
              all_goals go_roundw
              case rel => exact ⟨4, by go_num, by omega, by (repeat (first | with_reducible assumption | ((with_reducible apply live_new) <;> (first | with_reducible rfl | (focus (simp; done)))) | with_reducible apply live_alloc | with_reducible apply live_drew | with_reducible apply live_drewN | ((with_reducible apply live_set_other); (case hb => first | omega | (simp; done))) | with_reducible apply live_set_same | (focus (simp; done)))), by show Live _ _ #[.int .i64 (oa + pa), .int .i64 (ob + pb), .int .i64 (oc + pc), .int .i64 (od + sg d)]; ((apply live_conv); (· (repeat (first | with_reducible assumption | ((with_reducible apply live_new) <;> (first | with_reducible rfl | (focus (simp; done)))) | with_reducible apply live_alloc | with_reducible apply live_drew | with_reducible apply live_drewN | ((with_reducible apply live_set_other); (case hb => first | omega | (simp; done))) | with_reducible apply live_set_same | (focus (simp; done))))); (· first | rfl | (simp; done))), by (repeat (first | with_reducible assumption | ((with_reducible apply live_new) <;> (first | with_reducible rfl | (focus (simp; done)))) | with_reducible apply live_alloc | with_reducible apply live_drew | with_reducible apply live_drewN | ((with_reducible apply live_set_other); (case hb => first | omega | (simp; done))) | with_reducible apply live_set_same | (focus (simp; done)))), by refine Below.trans hb1 ?_; (repeat' (first | with_reducible exact Below.refl _ _ | with_reducible refine Below.drew ?_ | with_reducible refine below_drewN ?_ _ | with_reducible refine Below.alloc ?_ ?_ _ | with_reducible refine Below.setCell ?_ ?_ _ | with_reducible refine Below.trans ?_ (Below.mono (by with_reducible assumption) ?_) | (simp; done) | (simp; omega) | omega))⟩
              case measure => first | (simp [intOf]; done) | (simp [intOf]; omega)
        · have MS' : Live wr (w.heap.size + 1 + 1 + 1 + 1) #[.int .i64 (oa + pa), .int .i64 (ob + pb), .int .i64 (oc + pc), .int .i64 (od + pd)] := MS
          clear MS qs gs hs
          obtain ⟨qs, gs, hs⟩ := id MS'
          obtain ⟨y0, y1, y2, y3⟩ : atM n (i + 1) a = oa + pa ∧ atM n (i + 1) b = ob + pb ∧ atM n (i + 1) c = oc + pc ∧ atM n (i + 1) d = od + pd := ⟨HG.out.1.symm, HG.out.2.1.symm, HG.out.2.2.1.symm, HG.out.2.2.2.symm⟩
          have HY := Lib.hid (And.intro y0 (And.intro y1 (And.intro y2 y3)))
          clear y0 y1 y2 y3
          go_wp2_with fail
          go_region_held3 (fun w' => (w'.cell? ⟨w.heap.size, 0, none⟩ = some (.int .i64 a) ∧ w'.cell? ⟨w.heap.size, 1, none⟩ = some (.int .i64 b) ∧ w'.cell? ⟨w.heap.size, 2, none⟩ = some (.int .i64 c) ∧ w'.cell? ⟨w.heap.size, 3, none⟩ = some (.int .i64 d)) ∧ (w'.cell? ⟨w.heap.size + 1 + 1 + 1 + 1, 0, none⟩ = some (.int .i64 (oa + pa)) ∧ w'.cell? ⟨w.heap.size + 1 + 1 + 1 + 1, 1, none⟩ = some (.int .i64 (ob + pb)) ∧ w'.cell? ⟨w.heap.size + 1 + 1 + 1 + 1, 2, none⟩ = some (.int .i64 (oc + pc)) ∧ w'.cell? ⟨w.heap.size + 1 + 1 + 1 + 1, 3, none⟩ = some (.int .i64 (od + pd)))) (first | (focus ((with_reducible refine ⟨?_, ?_⟩) <;> ((with_reducible apply live_four); (repeat (first | with_reducible assumption | ((with_reducible apply live_new) <;> (first | with_reducible rfl | (focus (simp; done)))) | with_reducible apply live_alloc | with_reducible apply live_drew | with_reducible apply live_drewN | ((with_reducible apply live_set_other); (case hb => first | omega | (simp; done))) | with_reducible apply live_set_same | (focus (simp; done)))); done))) | go_keep)
            ((go_at_call 20; refine (dda_at _ _ _ _ _ _).mono ?_; rw [HN.out, HY.out.1, HY.out.2.1, HY.out.2.2.1, HY.out.2.2.2]; rintro e w4 ⟨rfl, hb4⟩; have z4 := hb4.size; (try simp at z4); have L4a := live_below hb4 (b := w.heap.size) (by (repeat (first | with_reducible assumption | ((with_reducible apply live_new) <;> (first | with_reducible rfl | (focus (simp; done)))) | with_reducible apply live_alloc | with_reducible apply live_drew | with_reducible apply live_drewN | ((with_reducible apply live_set_other); (case hb => first | omega | (simp; done))) | with_reducible apply live_set_same | (focus (simp; done))))); obtain ⟨p4a, e4a, f4a⟩ := id L4a; have L4b := live_below hb4 (b := w.heap.size + 1 + 1 + 1 + 1) (by (repeat (first | with_reducible assumption | ((with_reducible apply live_new) <;> (first | with_reducible rfl | (focus (simp; done)))) | with_reducible apply live_alloc | with_reducible apply live_drew | with_reducible apply live_drewN | ((with_reducible apply live_set_other); (case hb => first | omega | (simp; done))) | with_reducible apply live_set_same | (focus (simp; done))))); obtain ⟨p4b, e4b, f4b⟩ := id L4b))
          all_goals go_wp2_with fail
          all_goals go_roundw
          case rel => exact ⟨i + 1, rfl, by omega, by omega, by (repeat (first | with_reducible assumption | ((with_reducible apply live_new) <;> (first | with_reducible rfl | (focus (simp; done)))) | with_reducible apply live_alloc | with_reducible apply live_drew | with_reducible apply live_drewN | ((with_reducible apply live_set_other); (case hb => first | omega | (simp; done))) | with_reducible apply live_set_same | (focus (simp; done)))), by rw [HY.out.1, HY.out.2.1, HY.out.2.2.1, HY.out.2.2.2]; (repeat (first | with_reducible assumption | ((with_reducible apply live_new) <;> (first | with_reducible rfl | (focus (simp; done)))) | with_reducible apply live_alloc | with_reducible apply live_drew | with_reducible apply live_drewN | ((with_reducible apply live_set_other); (case hb => first | omega | (simp; done))) | with_reducible apply live_set_same | (focus (simp; done)))), by refine Below.trans hb1 ?_; (repeat' (first | with_reducible exact Below.refl _ _ | with_reducible refine Below.drew ?_ | with_reducible refine below_drewN ?_ _ | with_reducible refine Below.alloc ?_ ?_ _ | with_reducible refine Below.setCell ?_ ?_ _ | with_reducible refine Below.trans ?_ (Below.mono (by with_reducible assumption) ?_) | (simp; done) | (simp; omega) | omega))⟩
          case measure => simp [intOf]; omega
    · obtain rfl : i = n := by omega
      have LS' : Live wr (w.heap.size + 1 + 1 + 1 + 1) #[.int .i64 a, .int .i64 b, .int .i64 c, .int .i64 d] := by
        have h := LS
        rw [HF.out, HF.out, HF.out, HF.out] at h
        exact h
      clear LS ps es fs
      obtain ⟨ps, es, fs⟩ := id LS'
      go_wp2_with ((go_at_call 19; refine (law42_awake _).mono ?_; rintro e w9 ⟨rfl, hb9⟩; have z9 := hb9.size; (try simp at z9); have L9a := live_below hb9 (b := w.heap.size) (by (repeat (first | with_reducible assumption | ((with_reducible apply live_new) <;> (first | with_reducible rfl | (focus (simp; done)))) | with_reducible apply live_alloc | with_reducible apply live_drew | with_reducible apply live_drewN | ((with_reducible apply live_set_other); (case hb => first | omega | (simp; done))) | with_reducible apply live_set_same | (focus (simp; done))))); obtain ⟨p9a, e9a, f9a⟩ := id L9a))
      all_goals go_ret
      all_goals refine ⟨rfl, ?_⟩
      all_goals refine Below.trans hb0 ?_
      all_goals (repeat' (first | with_reducible exact Below.refl _ _ | with_reducible refine Below.drew ?_ | with_reducible refine below_drewN ?_ _ | with_reducible refine Below.alloc ?_ ?_ _ | with_reducible refine Below.setCell ?_ ?_ _ | with_reducible refine Below.trans ?_ (Below.mono (by with_reducible assumption) ?_) | (simp; done) | (simp; omega) | omega))

theorem walk (a b c d : Int) (w : World) : Calls Try.prog 6 #[.agg #[.int .i64 a, .int .i64 b, .int .i64 c, .int .i64 d]] w fun e w' => e = .returned (.bool true) ∧ Below w.heap.size w w' := by
  by_cases h : 300 < ddaDom a b c d ∨ ddaValid a b c d = false
  · exact few a b c d w h
  · exact many a b c d w (by cases hv : ddaValid a b c d; exact absurd (.inr hv) h; rfl) (by omega)

set_option maxRecDepth 100000 in
theorem lifted (os : Os) (started : os.Started) (H : Type) (enc : TypeId × Value → H) :
    ReturnsInHanded {} Try.checked os 6 .any (Rows.ddaExactSpec.pre6 enc Try.prog Try.f6 Rows.ddaExactRow.domain false) (Rows.ddaExactSpec.post enc Try.prog Try.f6 false true false false) := by
  refine returnsInHanded_of_change (C := Try.checked) own started (by kernel_rfl) Try.func6
    (ChangeSpec.witness6 (enc := enc) (C := Try.checked) false ⟨#[], #[.agg #[.int .i64 0, .int .i64 0, .int .i64 0, .int .i64 0]], []⟩ 8 (by kernel_rfl) (by kernel_rfl) (by kernel_rfl) (by kernel_rfl)) ?_
  intro W base args ds gs before hval0 hW _ _
  have hval : ∀ (j : Nat) t v, Try.f6.params[j]? = some t → args[j]? = some v → Value.okWide Try.prog W .any base t v := hval0
  have hW' := hW
  obtain ⟨p, q, hA0, hV, rfl, _, _⟩ := hW
  have hA : DataW.TrodAll enc Try.prog W 0 (fun _ => true) true Try.f6.params.toList args.toList ds p := hA0
  rw [Try.params6] at hA hval
  obtain ⟨v0, d0, rfl, rfl, h0⟩ := trodAll_one hA
  clear hA hA0 hval0
  obtain ⟨f0, bf0, rfl⟩ := flat_ints (n := 4) (u := 3) (by kernel_rfl) (by kernel_rfl) (by kernel_rfl) Try.underlying3 (hval 0 22 v0 rfl rfl)
  exact (walk (f0 0) (f0 1) (f0 2) (f0 3) W).mono fun e W' ⟨he, hb⟩ => ⟨_, he, law_post laidOut (by kernel_rfl) rfl (fun _ => rfl) rfl Try.underlying4 hW' hb⟩

theorem holds : Rows.DdaExactSaid :=
  OpenClaim.holds_of_wide 6 Try.f6 rfl rfl rfl rfl rfl rfl rfl ⟨rfl, rfl, rfl, rfl, rfl⟩ rfl rfl rfl rfl rfl (by kernel_rfl) Try.func6 (by kernel_rfl)
    (of_decide_eq_true (by kernel_rfl)) (by unfold Func.isWrapper; rw [if_neg (of_decide_eq_false (by kernel_rfl))]; exact ⟨rfl, rfl⟩)
    (fun os started H enc _ => lifted os started H enc)

#print axioms holds
end Go.Proofs.Ytjcnheakjgmidaa.ddaExact
