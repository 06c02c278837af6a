/- AheadCaps: lowering a cap never makes a junction faster, and a queue without a plan has none afterwards -/
import Derived.Deep.DeepCutAuto
import Derived.BigQuiet
import Derived.Deep.QuietTactic
import Derived.IntWalk
import Derived.Deep.RegionHeld3
import Derived.Deep.RegionWith
import Derived.RegionTactic
import Derived.BigRegion
import Derived.Test.YtleohgnnbpicjaaL44Law
import Derived.Test.YtleohgnnbpicjaaL44Awake
import Derived.Test.YtleohgnnbpicjaaAhdGrtR
namespace Go.Proofs.Ytleohgnnbpicjaa.aheadCaps
open Go.ChangeShapes Go.WideShapes Go.ChangeAt Go.RowKit
set_option linter.unusedVariables false

attribute [local go_sem] cell_past1 cell_past2 cell_past3 cell_past4 froz_past1 froz_past2 froz_past3

theorem byte_open {P : Program} {w : World} {r : Reach} {base : Nat} {t : TypeId} {v : Value} (ht : P.underlying t = some (.int .u8)) (h : Value.okWide P w r base t v) : ∃ a : Int, v = .int .u8 a ∧ 0 ≤ a ∧ a ≤ 255 := by
  unfold Value.okWide at h
  rw [ht] at h
  unfold Cell.okWide at h
  rw [ht] at h
  cases v <;> simp_all [Cell.ok, IntKind.has, IntKind.min, IntKind.max, IntKind.signed, IntKind.bits]
theorem pln_any {g : Nat → Nat → Int} {z : Nat → Int} {en : Int} {n m : Nat} {w w' : World} {e : Ending} (h : PlnPost g z en n m w e w') :
    ∃ a cap, e = .returned (.tuple #[.slice a (if plnE g z en n m = 0 then n else 0) cap, .int .i64 (plnE g z en n m)]) ∧ BlkS w' a (if plnE g z en n m = 0 then n else 0) (plnG g z en n n) ∧ Below w.heap.size w w' := by
  obtain ⟨a, k, cap, he, hk, hkc, hcap, hB, hf, hb⟩ := h
  subst hk
  exact ⟨a, cap, he, hB, hb⟩
theorem intS_list {w : World} {b off n : Nat} {z : Nat → Int} (h : IntS w (some ⟨b, off, none⟩) n z) (j : Nat) (v : Value) (hv : (listF n z)[j]? = some v) : w.cell? ((⟨b, off, none⟩ : Addr).add j) = some v := by
  have hj : j < n := by
    rcases Nat.lt_or_ge j n with h | h
    · exact h
    · rw [List.getElem?_eq_none (by simp [listF]; exact h)] at hv; cases hv
  rw [listF_at n z j hj] at hv
  cases hv
  rw [Go.WideShapes.add_plain]
  exact intS_cell h j hj
def lowz (z : Nat → Int) (i : Nat) (le : Int) : Nat → Int := upd z i (max (z i) (-4611686018427387904) - le)
theorem lowz_le (z : Nat → Int) (i : Nat) (le : Int) (h : 0 ≤ le) (j : Nat) (h0 : 0 ≤ lowz z i le j) : lowz z i le j ≤ z j := by
  unfold lowz upd at *
  split at h0
  · rename_i e; subst e; rw [if_pos rfl]; omega
  · rename_i e; rw [if_neg e]; exact Int.le_refl _
theorem lowz_in (z : Nat → Int) (i : Nat) (le : Int) (h : 0 ≤ le ∧ le ≤ 255) (hz : ∀ k, I64 (z k)) (j : Nat) : I64 (lowz z i le j) := by
  unfold lowz upd
  have h1 := hz i
  have h2 := hz j
  unfold I64 at *
  split <;> omega

set_option maxRecDepth 100000 in
set_option maxHeartbeats 8000000 in
theorem walk_long (sl sc : Option Addr) (n m cl cc : Nat) (en at' le : Int) (w : World) (hn : n ≤ 9223372036854775807) (hm : m ≤ 9223372036854775807) (hsh : shB n m = false) :
    Calls Try.prog 8 #[.agg #[.slice sl n cl, .slice sc m cc, .int .i64 en], .int .u8 at', .int .u8 le] w fun e w' => e = .returned (.bool true) ∧ Below w.heap.size w w' := by
  have KS := Lib.hid (fun w => law44_short sl sc n m cl cc en w hn hm)
  rw [hsh] at KS
  clear hsh
  go_enter Try.func8, Try.ntmps8
  go_upto_region 1 with (fail)
  refine gen_world (fun wx => Live wx w.heap.size #[.slice sl n cl, .slice sc m cc, .int .i64 en] ∧ Below w.heap.size w wx) ?_ ?_
  · exact ⟨live_new _ _ rfl, by (repeat' (first | with_reducible exact Below.refl _ _ | with_reducible refine Below.drew ?_ | with_reducible refine below_drewN ?_ _ | with_reducible refine Below.alloc ?_ ?_ _ | with_reducible refine Below.setCell ?_ ?_ _ | with_reducible refine Below.trans ?_ (Below.mono (by with_reducible assumption) ?_) | (simp; done) | (simp; omega) | omega))⟩
  rintro wx ⟨L, hb⟩
  have p0 := L.1
  obtain ⟨q0, q1, q2⟩ := live_q L
  go_wp2_with (first | (go_at_call 18; (with_reducible refine (KS.out _).mono ?_); rintro e w1 ⟨rfl, hb1⟩; have z1 := hb1.size; (try simp at z1); have L1a := live_below hb1 (b := w.heap.size) (by (repeat (first | with_reducible assumption | ((with_reducible apply live_new) <;> (first | with_reducible rfl | (focus (simp; done)))) | with_reducible apply live_alloc | with_reducible apply live_drew | with_reducible apply live_drewN | ((with_reducible apply live_set_other); (case hb => first | omega | (simp; done))) | with_reducible apply live_set_same | (focus (simp; done))))); obtain ⟨p1a, e1a, f1a⟩ := id L1a; clear e1a; obtain ⟨r0, r1, r2⟩ := live_q L1a) | (go_at_call 17; refine (law44_awake _).mono ?_; rintro e w9 ⟨rfl, hb9⟩; have z9 := hb9.size; (try simp at z9)))
  go_ret
  refine ⟨rfl, ?_⟩
  (repeat' (first | with_reducible exact Below.refl _ _ | with_reducible refine Below.drew ?_ | with_reducible refine below_drewN ?_ _ | with_reducible refine Below.alloc ?_ ?_ _ | with_reducible refine Below.setCell ?_ ?_ _ | with_reducible refine Below.trans ?_ (Below.mono (by with_reducible assumption) ?_) | (simp; done) | (simp; omega) | omega))

set_option maxRecDepth 100000 in
set_option maxHeartbeats 8000000 in
theorem walk_none (sl sc : Option Addr) (n cl cc : Nat) (en at' le : Int) (w : World) (hn : n ≤ 9223372036854775807) :
    Calls Try.prog 8 #[.agg #[.slice sl n cl, .slice sc 0 cc, .int .i64 en], .int .u8 at', .int .u8 le] w fun e w' => e = .returned (.bool true) ∧ Below w.heap.size w w' := by
  cases hsh : shB n 0
  · exact walk_long sl sc n 0 cl cc en at' le w hn (by omega) hsh
  have KS := Lib.hid (fun w => law44_short sl sc n 0 cl cc en w hn (by omega))
  rw [hsh] at KS
  clear hsh
  go_enter Try.func8, Try.ntmps8
  go_upto_region 1 with (fail)
  refine gen_world (fun wx => Live wx w.heap.size #[.slice sl n cl, .slice sc 0 cc, .int .i64 en] ∧ Below w.heap.size w wx) ?_ ?_
  · exact ⟨live_new _ _ rfl, by (repeat' (first | with_reducible exact Below.refl _ _ | with_reducible refine Below.drew ?_ | with_reducible refine below_drewN ?_ _ | with_reducible refine Below.alloc ?_ ?_ _ | with_reducible refine Below.setCell ?_ ?_ _ | with_reducible refine Below.trans ?_ (Below.mono (by with_reducible assumption) ?_) | (simp; done) | (simp; omega) | omega))⟩
  rintro wx ⟨L, hb⟩
  have p0 := L.1
  obtain ⟨q0, q1, q2⟩ := live_q L
  go_wp2_with (first | (go_at_call 18; (with_reducible refine (KS.out _).mono ?_); rintro e w1 ⟨rfl, hb1⟩; have z1 := hb1.size; (try simp at z1); have L1a := live_below hb1 (b := w.heap.size) (by (repeat (first | with_reducible assumption | ((with_reducible apply live_new) <;> (first | with_reducible rfl | (focus (simp; done)))) | with_reducible apply live_alloc | with_reducible apply live_drew | with_reducible apply live_drewN | ((with_reducible apply live_set_other); (case hb => first | omega | (simp; done))) | with_reducible apply live_set_same | (focus (simp; done))))); obtain ⟨p1a, e1a, f1a⟩ := id L1a; clear e1a; obtain ⟨r0, r1, r2⟩ := live_q L1a) | (go_at_call 17; refine (law44_awake _).mono ?_; rintro e w9 ⟨rfl, hb9⟩; have z9 := hb9.size; (try simp at z9)))
  go_ret
  refine ⟨rfl, ?_⟩
  (repeat' (first | with_reducible exact Below.refl _ _ | with_reducible refine Below.drew ?_ | with_reducible refine below_drewN ?_ _ | with_reducible refine Below.alloc ?_ ?_ _ | with_reducible refine Below.setCell ?_ ?_ _ | with_reducible refine Below.trans ?_ (Below.mono (by with_reducible assumption) ?_) | (simp; done) | (simp; omega) | omega))

def CRel (W0 : World) (n : Nat) (s73 : Value) (wx : World) : Prop := ∃ k : Nat, s73 = .int .i64 k ∧ k ≤ n ∧ Below W0.heap.size W0 wx

set_option maxRecDepth 100000 in
set_option maxHeartbeats 8000000 in
theorem walk_short (g : Nat → Nat → Int) (z : Nat → Int) (en at' le : Int) (sl sc : Option Addr) (n m cl cc : Nat) (w : World) (hat : 0 ≤ at' ∧ at' ≤ 255) (hle : 0 ≤ le ∧ le ≤ 255) (hg : ∀ k o, I64 (g k o)) (hz : ∀ k, I64 (z k)) (he : I64 en) (hn : n ≤ 9223372036854775807) (hm : m ≤ 9223372036854775807) (hl : BlkS w sl n g) (hc : IntS w sc m z) (hsh : shB n m = true) (h0 : 0 < m) :
    Calls Try.prog 8 #[.agg #[.slice sl n cl, .slice sc m cc, .int .i64 en], .int .u8 at', .int .u8 le] w fun e w' => e = .returned (.bool true) ∧ Below w.heap.size w w' := by
  obtain ⟨i0, hi, hz0, hz1, hz2⟩ := info_parts int_info2
  obtain ⟨b', off', rfl, hbl', _⟩ := hc h0
  have HL := Lib.hid hl
  have HC := Lib.hid hc
  have KS := Lib.hid (fun w => law44_short sl (some ⟨b', off', none⟩) n m cl cc en w hn hm)
  have hn40 : n ≤ 40 ∧ m ≤ 40 := by
    unfold shB at hsh
    rw [Bool.and_eq_true] at hsh
    exact ⟨of_decide_eq_true hsh.1, of_decide_eq_true hsh.2⟩
  rw [hsh] at KS
  clear hsh hl hc he
  obtain ⟨A, rfl⟩ := Int.eq_ofNat_of_zero_le hat.1
  obtain ⟨i, hiA⟩ : ∃ i, i = A % m := ⟨_, rfl⟩
  have him : i < m := by rw [hiA]; exact Nat.mod_lt _ h0
  have hrem : (A : Int).tmod (m : Int) = (i : Int) := by rw [hiA]; rfl
  have hrem2 : (A : Int) % (m : Int) = (i : Int) := by rw [hiA]; rfl
  have hrem3 : A % m = i := hiA.symm
  have hmne : ¬ (m : Int) = 0 := by omega
  have hmne2 : ¬ m = 0 := by omega
  clear hiA
  have hcap := lowz_le z i le hle.1
  have hzi := lowz_in z i le hle hz
  have KP := Lib.hid (fun w hl hc => (ahead_plan g z en sl (some ⟨b', off', none⟩) n m cl cc w hg hz (by omega) hm hl hc).mono (fun e w' h => pln_any h))
  have KQ := Lib.hid (fun (sb : Option Addr) (cb : Nat) w hl hc => (ahead_plan g (lowz z i le) en sl sb n m cl cb w hg hzi (by omega) hm hl hc).mono (fun e w' h => pln_any h))
  have hzb := hz i
  unfold I64 at hzb
  have x1 : RowKit.wrap64 (max (z i) (-4611686018427387904) - le) = max (z i) (-4611686018427387904) - le := by unfold RowKit.wrap64; omega
  have v1 : IntKind.i64.wrap (max (z i) (-4611686018427387904) - le) = max (z i) (-4611686018427387904) - le := IntWalk.i64_in _ (by omega)
  have hmx := @run_max2 Try.prog
  have b0 : ((m : Int) == 0) = false := beq_eq_false_iff_ne.2 (by omega)
  have HMM : Hid (listF m z = listF m z) := Lib.hid rfl
  go_enter Try.func8, Try.ntmps8
  go_upto_region 1 with (fail)
  refine gen_world (fun wx => Live wx w.heap.size #[.slice sl n cl, .slice (some ⟨b', off', none⟩) m cc, .int .i64 en] ∧ Below w.heap.size w wx) ?_ ?_
  · exact ⟨live_new _ _ rfl, by (repeat' (first | with_reducible exact Below.refl _ _ | with_reducible refine Below.drew ?_ | with_reducible refine below_drewN ?_ _ | with_reducible refine Below.alloc ?_ ?_ _ | with_reducible refine Below.setCell ?_ ?_ _ | with_reducible refine Below.trans ?_ (Below.mono (by with_reducible assumption) ?_) | (simp; done) | (simp; omega) | omega))⟩
  rintro wx ⟨L, hb⟩
  have p0 := L.1
  obtain ⟨q0, q1, q2⟩ := live_q L
  go_upto_region 3 with (go_at_call 18; (with_reducible refine (KS.out _).mono ?_); rintro e w1 ⟨rfl, hb1⟩; have z1 := hb1.size; (try simp at z1); have L1a := live_below hb1 (b := w.heap.size) (by (repeat (first | with_reducible assumption | ((with_reducible apply live_new) <;> (first | with_reducible rfl | (focus (simp; done)))) | with_reducible apply live_alloc | with_reducible apply live_drew | with_reducible apply live_drewN | ((with_reducible apply live_set_other); (case hb => first | omega | (simp; done))) | with_reducible apply live_set_same | (focus (simp; done))))); obtain ⟨p1a, e1a, f1a⟩ := id L1a; clear e1a; obtain ⟨r0, r1, r2⟩ := live_q L1a)
  refine gen_world (fun wx => Live wx w.heap.size #[.slice sl n cl, .slice (some ⟨b', off', none⟩) m cc, .int .i64 en] ∧ Below w.heap.size w wx) ?_ ?_
  · exact ⟨by (repeat (first | with_reducible assumption | ((with_reducible apply live_new) <;> (first | with_reducible rfl | (focus (simp; done)))) | with_reducible apply live_alloc | with_reducible apply live_drew | with_reducible apply live_drewN | ((with_reducible apply live_set_other); (case hb => first | omega | (simp; done))) | with_reducible apply live_set_same | (focus (simp; done)))), by (repeat' (first | with_reducible exact Below.refl _ _ | with_reducible refine Below.drew ?_ | with_reducible refine below_drewN ?_ _ | with_reducible refine Below.alloc ?_ ?_ _ | with_reducible refine Below.setCell ?_ ?_ _ | with_reducible refine Below.trans ?_ (Below.mono (by with_reducible assumption) ?_) | (simp; done) | (simp; omega) | omega))⟩
  clear L p0 q0 q1 q2 hb hb1 z1 L1a p1a f1a r0 r1 r2
  rintro W1 ⟨L, hb⟩
  have p0 := L.1
  have hbs := hb.size
  obtain ⟨q0, q1, q2⟩ := live_q L
  have hlit := World.ownsRow_lit (e := 3) (size := 1) (base := W1.heap.size) W1 #[] 0 (Nat.le_refl _) (by unfold maxLen; omega) rfl
  go_upto_region 4 with (at_builtin; refine wpList_append_own _ rfl _ _ 28 rfl W1.heap.size 3 i0 _ 1 8 Try.underlying28 hi hz0 hz1 hz2 rfl (by decide) _ 0 [] rfl hlit ⟨b', off', none⟩ m cc (listF m z) rfl (by simp [listF]) ?_ ?_ ?_ ?_ ?_ ?_; (· exact intS_list (intS_below (hb.alloc hbs _) (Nat.le_refl _) HC.out)); (· intro u hu; simp [listF] at hu; obtain ⟨_, _, rfl⟩ := hu; rfl); (· unfold maxLen; omega); (· omega); (· simp); intro v' w2 hown' hgrow _)
  have hb2 : Below w.heap.size w w2 := Below.grown (by refine Below.trans hb ?_; (repeat' (first | with_reducible exact Below.refl _ _ | with_reducible refine Below.drew ?_ | with_reducible refine below_drewN ?_ _ | with_reducible refine Below.alloc ?_ ?_ _ | with_reducible refine Below.setCell ?_ ?_ _ | with_reducible refine Below.trans ?_ (Below.mono (by with_reducible assumption) ?_) | (simp; done) | (simp; omega) | omega))) hgrow (by simp; omega) (fun j hj => by have := (hlit.lt j hj).1; omega)
  have L2 := live_grown (live_alloc L _) hgrow (fun h => by have := (hlit.lt _ h.symm).1; omega)
  rw [List.nil_append, Nat.zero_add] at hown'
  obtain ⟨SC, cap2, rfl, hSC, hc1, hc2, hrow⟩ := owns_rowS hown' (by omega)
  clear hgrow hown' hlit L hb q0 q1 q2
  have hneS : w.heap.size ≠ SC := by omega
  have hSw : w.heap.size ≤ SC := by omega
  have p2 := L2.1
  have pS := hrow.1
  obtain ⟨q0, q1, q2⟩ := live_q L2
  have ck := hrow.2.1 i him
  have fk := hrow.2.2 i
  have wA : IntKind.i64.wrap (A : Int) = (A : Int) := IntWalk.i64_in _ (by omega)
  have wA' : RowKit.wrap64 (A : Int) = (A : Int) := by unfold RowKit.wrap64; omega
  have wL : IntKind.i64.wrap le = le := IntWalk.i64_in _ (by omega)
  have wL' : RowKit.wrap64 le = le := by unfold RowKit.wrap64; omega
  have j1 : (i : Int) < (m : Int) := by omega
  go_upto_region 6 with (fail)
  refine gen_world (fun wx => Live wx w.heap.size #[.slice sl n cl, .slice (some ⟨b', off', none⟩) m cc, .int .i64 en] ∧ RowS wx SC m (lowz z i le) ∧ Below w.heap.size w wx) ?_ ?_
  · exact ⟨live_set_other L2 _ _ _ hneS.symm, rowS_set hrow i _ him, hb2.setCell hSw _⟩
  clear L2 hrow hb2 p2 pS q0 q1 q2 ck fk wA wA' wL wL' x1 v1
  rintro W3 ⟨L, hrow, hb⟩
  have p0 := L.1
  have hbs := hb.size
  obtain ⟨q0, q1, q2⟩ := live_q L
  have HR := Lib.hid (rowS_intS hrow)
  clear hrow
  go_upto_region 7 with (go_at_call 21; (with_reducible refine (KP.out _ ?_ ?_).mono ?_); (· exact blkS_below (B := w.heap.size) (by (repeat' (first | with_reducible exact Below.refl _ _ | with_reducible refine Below.drew ?_ | with_reducible refine below_drewN ?_ _ | with_reducible refine Below.alloc ?_ ?_ _ | with_reducible refine Below.setCell ?_ ?_ _ | with_reducible refine Below.trans ?_ (Below.mono (by with_reducible assumption) ?_) | (simp; done) | (simp; omega) | omega))) (Nat.le_refl _) HL.out); (· exact intS_below (B := w.heap.size) (by (repeat' (first | with_reducible exact Below.refl _ _ | with_reducible refine Below.drew ?_ | with_reducible refine below_drewN ?_ _ | with_reducible refine Below.alloc ?_ ?_ _ | with_reducible refine Below.setCell ?_ ?_ _ | with_reducible refine Below.trans ?_ (Below.mono (by with_reducible assumption) ?_) | (simp; done) | (simp; omega) | omega))) (Nat.le_refl _) HC.out); rintro e w3 ⟨a3, cap3, rfl, hp3, hb3⟩; have z3 := hb3.size; (try simp at z3); have L3a := live_below hb3 (b := w.heap.size) (by (repeat (first | with_reducible assumption | ((with_reducible apply live_new) <;> (first | with_reducible rfl | (focus (simp; done)))) | with_reducible apply live_alloc | with_reducible apply live_drew | with_reducible apply live_drewN | ((with_reducible apply live_set_other); (case hb => first | omega | (simp; done))) | with_reducible apply live_set_same | (focus (simp; done))))); obtain ⟨p3a, e3a, f3a⟩ := id L3a; have HP3 := Lib.hid hp3; clear e3a hp3)
  refine gen_world (fun wx => Live wx w.heap.size #[.slice sl n cl, .slice (some ⟨b', off', none⟩) m cc, .int .i64 en] ∧ BlkS wx a3 (if plnE g z en n m = 0 then n else 0) (plnG g z en n n) ∧ IntS wx (some ⟨SC, 0, none⟩) m (lowz z i le) ∧ Below w.heap.size w wx) ?_ ?_
  · exact ⟨by (repeat (first | with_reducible assumption | ((with_reducible apply live_new) <;> (first | with_reducible rfl | (focus (simp; done)))) | with_reducible apply live_alloc | with_reducible apply live_drew | with_reducible apply live_drewN | ((with_reducible apply live_set_other); (case hb => first | omega | (simp; done))) | with_reducible apply live_set_same | (focus (simp; done)))), HP3.out, intS_below (B := W3.heap.size) (by (repeat' (first | with_reducible exact Below.refl _ _ | with_reducible refine Below.drew ?_ | with_reducible refine below_drewN ?_ _ | with_reducible refine Below.alloc ?_ ?_ _ | with_reducible refine Below.setCell ?_ ?_ _ | with_reducible refine Below.trans ?_ (Below.mono (by with_reducible assumption) ?_) | (simp; done) | (simp; omega) | omega))) (Nat.le_refl _) HR.out, by (repeat' (first | with_reducible exact Below.refl _ _ | with_reducible refine Below.drew ?_ | with_reducible refine below_drewN ?_ _ | with_reducible refine Below.alloc ?_ ?_ _ | with_reducible refine Below.setCell ?_ ?_ _ | with_reducible refine Below.trans ?_ (Below.mono (by with_reducible assumption) ?_) | (simp; done) | (simp; omega) | omega))⟩
  clear L p0 q0 q1 q2 hb hb3 z3 L3a p3a f3a HP3 HR
  rintro W4 ⟨L, hP, hR, hb⟩
  have z4 := hb.size
  have p0 := L.1
  obtain ⟨q0, q1, q2⟩ := live_q L
  have HP := Lib.hid hP
  have HR := Lib.hid hR
  clear hP hR
  go_upto_region 8 with (go_at_call 21; (with_reducible refine (KQ.out _ _ _ ?_ ?_).mono ?_); (· exact blkS_below (B := w.heap.size) (by (repeat' (first | with_reducible exact Below.refl _ _ | with_reducible refine Below.drew ?_ | with_reducible refine below_drewN ?_ _ | with_reducible refine Below.alloc ?_ ?_ _ | with_reducible refine Below.setCell ?_ ?_ _ | with_reducible refine Below.trans ?_ (Below.mono (by with_reducible assumption) ?_) | (simp; done) | (simp; omega) | omega))) (Nat.le_refl _) HL.out); (· exact HR.out); rintro e w5 ⟨a5, cap5, rfl, hp5, hb5⟩; have z5 := hb5.size; (try simp at z5); have L5a := live_below hb5 (b := w.heap.size) (by (repeat (first | with_reducible assumption | ((with_reducible apply live_new) <;> (first | with_reducible rfl | (focus (simp; done)))) | with_reducible apply live_alloc | with_reducible apply live_drew | with_reducible apply live_drewN | ((with_reducible apply live_set_other); (case hb => first | omega | (simp; done))) | with_reducible apply live_set_same | (focus (simp; done))))); obtain ⟨p5a, e5a, f5a⟩ := id L5a; have HP5 := Lib.hid hp5; clear e5a hp5)
  refine gen_world (fun wx => BlkS wx a3 (if plnE g z en n m = 0 then n else 0) (plnG g z en n n) ∧ BlkS wx a5 (if plnE g (lowz z i le) en n m = 0 then n else 0) (plnG g (lowz z i le) en n n) ∧ Below w.heap.size w wx) ?_ ?_
  · exact ⟨blkS_below (w := W4) (B := W4.heap.size) (by (repeat' (first | with_reducible exact Below.refl _ _ | with_reducible refine Below.drew ?_ | with_reducible refine below_drewN ?_ _ | with_reducible refine Below.alloc ?_ ?_ _ | with_reducible refine Below.setCell ?_ ?_ _ | with_reducible refine Below.trans ?_ (Below.mono (by with_reducible assumption) ?_) | (simp; done) | (simp; omega) | omega))) (Nat.le_refl _) HP.out, HP5.out, by (repeat' (first | with_reducible exact Below.refl _ _ | with_reducible refine Below.drew ?_ | with_reducible refine below_drewN ?_ _ | with_reducible refine Below.alloc ?_ ?_ _ | with_reducible refine Below.setCell ?_ ?_ _ | with_reducible refine Below.trans ?_ (Below.mono (by with_reducible assumption) ?_) | (simp; done) | (simp; omega) | omega))⟩
  clear L p0 q0 q1 q2 hb hb5 z5 L5a p5a f5a HP5 HR HP
  rintro W5 ⟨hP, hQ, hb⟩
  have z5 := hb.size
  by_cases hE : plnE g z en n m = 0
  case neg =>
    have hE2 := caps_none g z (lowz z i le) en n m hcap hE
    rw [hE2]
    have b1 : (plnE g z en n m != 0) = true := bne_iff_ne.2 hE
    have b2 : (plnE g z en n m == plnE g z en n m) = true := by simp
    clear hP hQ hE hE2
    generalize plnE g z en n m = E at *
    go_wp2_with (go_at_call 17; refine (law44_awake _).mono ?_; rintro e w9 ⟨rfl, hb9⟩; have z9 := hb9.size; (try simp at z9))
    all_goals go_ret
    all_goals refine ⟨rfl, ?_⟩
    all_goals (repeat' (first | with_reducible exact Below.refl _ _ | with_reducible refine Below.drew ?_ | with_reducible refine below_drewN ?_ _ | with_reducible refine Below.alloc ?_ ?_ _ | with_reducible refine Below.setCell ?_ ?_ _ | with_reducible refine Below.trans ?_ (Below.mono (by with_reducible assumption) ?_) | (simp; done) | (simp; omega) | omega))
  rw [if_pos hE] at hP ⊢
  rw [hE]
  have hK : (if plnE g (lowz z i le) en n m = 0 then n else 0) ≤ n := by split <;> omega
  have hT : ∀ k, k < (if plnE g (lowz z i le) en n m = 0 then n else 0) → plnG g (lowz z i le) en n n k 5 ≤ plnG g z en n n k 5 ∧ plnG g (lowz z i le) en n n k 7 ≤ plnG g z en n n k 7 := fun k hk => by
    by_cases hE2 : plnE g (lowz z i le) en n m = 0
    · rw [if_pos hE2] at hk
      obtain ⟨p5, p7⟩ := plnG_57 g z en n n k hk
      obtain ⟨r5, r7⟩ := plnG_57 g (lowz z i le) en n n k hk
      have h2 := (caps_plan g z (lowz z i le) en n m hcap hE2).2
      rw [p5, p7, r5, r7]
      exact ⟨h2 k (by omega), h2 (k + 1) (by omega)⟩
    · rw [if_neg hE2] at hk; omega
  have HT := Lib.hid hT
  have HP := Lib.hid hP
  have HQ := Lib.hid hQ
  clear hT hP hQ hE KP KQ hcap hzi hg hz
  generalize (if plnE g (lowz z i le) en n m = 0 then n else 0) = K at *
  generalize plnG g (lowz z i le) en n n = gq at *
  generalize plnG g z en n n = gp at *
  generalize plnE g (lowz z i le) en n m = E2 at *
  go_wp2_with fail
  go_loopw [73] (CRel W5 K) (fun i _ => K - (intOf i).toNat)
  case atStart => exact ⟨0, rfl, Nat.zero_le _, Below.refl _ _⟩
  case round =>
    obtain ⟨k, rfl, hk, hbW⟩ := hrel
    have zW := hbW.size
    by_cases hlt : k < K
    · obtain ⟨ba, oa, rfl, hl1, _⟩ := HP.out (by omega)
      obtain ⟨bq, oq, rfl, hl2, _⟩ := HQ.out (by omega)
      have j1 : (k : Int) < (n : Int) := by omega
      have j2 : (k : Int) < (K : Int) := by omega
      have j3 : decide ((n : Int) ≤ (k : Int)) = false := decide_eq_false (by omega)
      have j3n : decide (n ≤ k) = false := decide_eq_false (by omega)
      have j3l : k < n := by omega
      have hx1 : ba < wr.heap.size := by omega
      have hx2 : bq < wr.heap.size := by omega
      have g5 := blkS_cell (blkS_below hbW (Nat.le_refl _) HP.out) k 5 (by omega) (by omega)
      have g7 := blkS_cell (blkS_below hbW (Nat.le_refl _) HP.out) k 7 (by omega) (by omega)
      have h5 := blkS_cell (blkS_below hbW (Nat.le_refl _) HQ.out) k 5 (by omega) (by omega)
      have h7 := blkS_cell (blkS_below hbW (Nat.le_refl _) HQ.out) k 7 (by omega) (by omega)
      have hT := HT.out k hlt
      have b5 : decide (gp k 5 < gq k 5) = false := decide_eq_false (by omega)
      have b7 : decide (gp k 7 < gq k 7) = false := decide_eq_false (by omega)
      clear hT
      go_upto_region 13 with (fail)
      go_region_held3 (fun w' => w'.cell? ⟨ba, oa + k * 8 + 5, none⟩ = some (.int .i64 (gp k 5)) ∧ w'.cell? ⟨ba, oa + k * 8 + 7, none⟩ = some (.int .i64 (gp k 7)) ∧ w'.cell? ⟨bq, oq + k * 8 + 5, none⟩ = some (.int .i64 (gq k 5)) ∧ w'.cell? ⟨bq, oq + k * 8 + 7, none⟩ = some (.int .i64 (gq k 7))) (go_keep) (fail)
      rename_i hh; clear hh
      go_wp2_with fail
      go_roundw
      case rel => exact ⟨k + 1, by go_num, by omega, by (repeat' (first | with_reducible exact Below.refl _ _ | with_reducible refine Below.drew ?_ | with_reducible refine below_drewN ?_ _ | with_reducible refine Below.alloc ?_ ?_ _ | with_reducible refine Below.setCell ?_ ?_ _ | with_reducible refine Below.trans ?_ (Below.mono (by with_reducible assumption) ?_) | (simp; done) | (simp; omega) | omega))⟩
      case measure => first | (simp [intOf]; done) | (simp [intOf]; omega)
    · obtain rfl : K = k := by omega
      clear hk hlt
      go_wp2_with (go_at_call 17; refine (law44_awake _).mono ?_; rintro e w9 ⟨rfl, hb9⟩; have z9 := hb9.size; (try simp at z9))
      go_ret
      refine ⟨rfl, ?_⟩
      (repeat' (first | with_reducible exact Below.refl _ _ | with_reducible refine Below.drew ?_ | with_reducible refine below_drewN ?_ _ | with_reducible refine Below.alloc ?_ ?_ _ | with_reducible refine Below.setCell ?_ ?_ _ | with_reducible refine Below.trans ?_ (Below.mono (by with_reducible assumption) ?_) | (simp; done) | (simp; omega) | omega))

theorem walk (g : Nat → Nat → Int) (z : Nat → Int) (en : Int) (sl sc : Option Addr) (n m cl cc : Nat) (at' le : Int) (w : World) (hat : 0 ≤ at' ∧ at' ≤ 255) (hle : 0 ≤ le ∧ le ≤ 255) (hg : ∀ k o, I64 (g k o)) (hz : ∀ k, I64 (z k)) (he : I64 en) (hn : n ≤ 9223372036854775807) (hm : m ≤ 9223372036854775807) (hl : BlkS w sl n g) (hc : IntS w sc m z) : Calls Try.prog 8 #[.agg #[.slice sl n cl, .slice sc m cc, .int .i64 en], .int .u8 at', .int .u8 le] w fun e w' => e = .returned (.bool true) ∧ Below w.heap.size w w' := by
  by_cases h0 : 0 < m
  · cases h : shB n m
    · exact walk_long sl sc n m cl cc en at' le w hn hm h
    · exact walk_short g z en at' le sl sc n m cl cc w hat hle hg hz he hn hm hl hc h h0
  · obtain rfl : m = 0 := by omega
    exact walk_none sl sc n cl cc en at' le w hn

set_option maxRecDepth 100000 in
theorem lifted (os : Os) (started : os.Started) (H : Type) (enc : TypeId × Value → H) :
    ReturnsInHanded {} Try.checked os 8 .any (Rows.aheadCapsSpec.pre6 enc Try.prog Try.f8 Rows.aheadCapsRow.domain false) (Rows.aheadCapsSpec.post enc Try.prog Try.f8 false true false false) := by
  refine returnsInHanded_of_change (C := Try.checked) own started (by kernel_rfl) Try.func8
    (ChangeSpec.witness6 (enc := enc) (C := Try.checked) false ⟨#[], #[.agg #[.slice none 0 0, .slice none 0 0, .int .i64 0], .int .u8 0, .int .u8 0], []⟩ 8 (by kernel_rfl) (by kernel_rfl) (by kernel_rfl) (by kernel_rfl)) ?_
  intro W base args ds gs before hval0 hW _ _
  have hval : ∀ (j : Nat) t v, Try.f8.params[j]? = some t → args[j]? = some v → Value.okWide Try.prog W .any base t v := hval0
  have hW' := hW
  obtain ⟨p, q, hA0, hV, rfl, _, _⟩ := hW
  have hA : DataW.TrodAll enc Try.prog W 0 (fun _ => true) true Try.f8.params.toList args.toList ds p := hA0
  rw [Try.params8] at hA hval
  obtain ⟨v0, v1, v2, d0, d1, d2, p0, p1, p2, rfl, rfl, rfl, h0, h1, h2⟩ := trodAll_three hA
  clear hA hA0 hval0
  obtain ⟨sl0, n0, cl0, sc0, m0, cc0, e0, g0, z0, rfl, hn0, hm0, hl0, hc0, hg0, hz0, he0⟩ := queue_open (hval 0 30 v0 rfl rfl) h0
  obtain ⟨a1, rfl, ba1⟩ := byte_open Try.underlying5 (hval 1 5 v1 rfl rfl)
  obtain ⟨a2, rfl, ba2⟩ := byte_open Try.underlying5 (hval 2 5 v2 rfl rfl)
  exact (walk g0 z0 e0 sl0 sc0 n0 m0 cl0 cc0 a1 a2 W ba1 ba2 hg0 hz0 he0 hn0 hm0 hl0 hc0).mono fun e W' ⟨he, hb⟩ => ⟨_, he, law_post laidOut (by kernel_rfl) rfl (fun _ => rfl) rfl Try.underlying4 hW' hb⟩

theorem holds : Rows.AheadCapsSaid :=
  OpenClaim.holds_of_wide 8 Try.f8 rfl rfl rfl rfl rfl rfl rfl ⟨rfl, rfl, rfl, rfl, rfl⟩ rfl rfl rfl rfl rfl (by kernel_rfl) Try.func8 (by kernel_rfl)
    (of_decide_eq_true (by kernel_rfl)) (by unfold Func.isWrapper; rw [if_neg (of_decide_eq_false (by kernel_rfl))]; exact ⟨rfl, rfl⟩)
    (fun os started H enc _ => lifted os started H enc)

#print axioms holds
end Go.Proofs.Ytleohgnnbpicjaa.aheadCaps
