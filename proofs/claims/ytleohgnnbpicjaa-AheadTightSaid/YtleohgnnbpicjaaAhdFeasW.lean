/- What Feasible of ahead returns -/
import Derived.Deep.DeepCutAuto
import Derived.BigQuiet
import Derived.Deep.QuietTactic
import Derived.IntWalk
import Derived.Deep.RegionHeld3
import Derived.Deep.RegionWith
import Derived.RegionTactic
import Derived.BigRegion
import Derived.Test.YtleohgnnbpicjaaAhdFeas
namespace Go.Proofs.Ytleohgnnbpicjaa
open Go.RowKit
set_option linter.unusedVariables false

attribute [local go_sem] cell_past1 cell_past2 cell_past3 cell_past4 froz_past1 froz_past2 froz_past3
attribute [local go_sem ↓] loadB_in

theorem live_keepB {w : World} {X : Nat} {g : Nat → Nat → Int} {k : Nat} (L : Live w X (blkA g k)) : w.rangeAt X 0 (blkA g k).toList ∧ w.cell? ⟨X, 5, none⟩ = some (.int .i64 (g k 5)) ∧ w.cell? ⟨X, 7, none⟩ = some (.int .i64 (g k 7)) := ⟨live_rangeAll L, L.2.1 5, L.2.1 7⟩

def FRel (g : Nat → Nat → Int) (z : Nat → Int) (en : Int) (n m : Nat) (sl sc : Option Addr) (w : World) (s16 : Value) (wx : World) : Prop :=
  ∃ k : Nat, s16 = .int .i64 k ∧ k ≤ n ∧ allTo (fst1 g z en) k = true ∧ BlkS wx sl n g ∧ IntS wx sc m z ∧ Below w.heap.size w wx
theorem feas_ne (g : Nat → Nat → Int) (z : Nat → Int) (en : Int) (n m : Nat) (h : n ≠ m) : feasB g z en n m = false := by unfold feasB; simp [h]
theorem feas_bad (g : Nat → Nat → Int) (z : Nat → Int) (en : Int) (n k : Nat) (hk : k < n) (h : fst1 g z en k = false) : feasB g z en n n = false := by
  unfold feasB; rw [allTo_false _ hk h]; simp
theorem feas_end (g : Nat → Nat → Int) (z : Nat → Int) (en : Int) (n : Nat) (h : allTo (fst1 g z en) n = true) : feasB g z en n n = (n == 0 || g (n - 1) 7 == 0) := by
  unfold feasB; rw [h]; simp

set_option maxRecDepth 100000 in
set_option maxHeartbeats 8000000 in
theorem ahead_feasible (g : Nat → Nat → Int) (z : Nat → Int) (en : Int) (sl sc : Option Addr) (n m cl cc : Nat) (w : World) (hg : ∀ k o, I64 (g k o)) (hn : n ≤ 1000000) (hm : m ≤ 9223372036854775807) (hl : BlkS w sl n g) (hz : IntS w sc m z) :
    Calls Try.prog 19 #[.slice sl n cl, .slice sc m cc, .int .i64 en] w fun e w' => e = .returned (.bool (feasB g z en n m)) ∧ Below w.heap.size w w' := by
  have HG := Lib.hid hg
  have HL := Lib.hid hl
  have HZ := Lib.hid hz
  clear hg hl hz
  by_cases hne : n = m
  case neg =>
    have hne2 : ((n : Int) == (m : Int)) = false := beq_eq_false_iff_ne.2 (by omega)
    have hne3 : ((n : Int) != (m : Int)) = true := bne_iff_ne.2 (by omega)
    have HR : Hid (feasB g z en n m = false) := Lib.hid (feas_ne g z en n m hne)
    clear hne
    go_enter Try.func19, Try.ntmps19
    go_wp2
    go_ret
    exact ⟨ret_bool HR.out.symm, by (repeat' (first | with_reducible exact Below.refl _ _ | with_reducible refine Below.drew ?_ | with_reducible refine below_drewN ?_ _ | with_reducible refine Below.alloc ?_ ?_ _ | with_reducible refine Below.setCell ?_ ?_ _ | with_reducible refine Below.trans ?_ (Below.mono (by with_reducible assumption) ?_) | (simp; done) | (simp; omega) | omega))⟩
  subst hne
  have hnn : ((n : Int) != (n : Int)) = false := by simp
  go_enter Try.func19, Try.ntmps19
  go_wp2_with fail
  go_loopw [16] (FRel g z en n n sl sc w) (fun i _ => n - (intOf i).toNat)
  case atStart => exact ⟨0, rfl, Nat.zero_le _, rfl, HL.out, HZ.out, by (repeat' (first | with_reducible exact Below.refl _ _ | with_reducible refine Below.drew ?_ | with_reducible refine below_drewN ?_ _ | with_reducible refine Below.alloc ?_ ?_ _ | with_reducible refine Below.setCell ?_ ?_ _ | with_reducible refine Below.trans ?_ (Below.mono (by with_reducible assumption) ?_) | (simp; done) | (simp; omega) | omega))⟩
  case round =>
    obtain ⟨k, rfl, hk, hall, hs, hsc, hb⟩ := hrel
    by_cases hlt : k < n
    · obtain ⟨b, off, rfl, hbl, hc⟩ := hs (by omega)
      obtain ⟨b', off', rfl, hbl', hc'⟩ := hsc (by omega)
      have Hs := Lib.hid hs
      have Hsc := Lib.hid hsc
      have HALL := Lib.hid hall
      have HC := Lib.hid hc
      have HC' := Lib.hid hc'
      clear hs hsc hall hc hc'
      go_upto_region 6 with (first | ((with_reducible refine wpList_load_in (ty := 24) b (off + k * 8) (blkA g k) ?_ (blk_range HC.out k hlt) Try.underlying24 ?_ ?_ ?_); (· rfl); (· rfl); (· kernel_rfl)) | ((with_reducible refine wpList_store_in (ty := 24) wr.heap.size 0 (blkA g k) ?_ ?_ ?_ ?_ (blkA_one _ _) ?_); (· rfl); (· rfl); (· exact live_there (live_new _ _ rfl) 0 8 (by decide)); (· kernel_rfl)))
      refine gen_world (fun wx => ∃ X, X = wr.heap.size ∧ Live wx X (blkA g k) ∧ BlkS wx (some ⟨b, off, none⟩) n g ∧ IntS wx (some ⟨b', off', none⟩) n z ∧ Below w.heap.size w wx ∧ w.heap.size ≤ X) ?_ ?_
      · have hbb : Below wr.heap.size wr ((wr.alloc (.cells #[.int .i64 0, .int .i64 0, .int .i64 0, .int .i64 0, .int .i64 0, .int .i64 0, .int .i64 0, .int .i64 0] 24)).setCells wr.heap.size 0 (blkA g k).toList) := below_setCells (Nat.le_refl _) _ _ _ (by (repeat' (first | with_reducible exact Below.refl _ _ | with_reducible refine Below.drew ?_ | with_reducible refine below_drewN ?_ _ | with_reducible refine Below.alloc ?_ ?_ _ | with_reducible refine Below.setCell ?_ ?_ _ | with_reducible refine Below.trans ?_ (Below.mono (by with_reducible assumption) ?_) | (simp; done) | (simp; omega) | omega)))
        exact ⟨_, rfl, live_whole (live_new _ _ rfl) _ rfl, blkS_below hbb (Nat.le_refl _) Hs.out, intS_below hbb (Nat.le_refl _) Hsc.out, hb.trans (hbb.mono hb.size), hb.size⟩
      clear Hs Hsc HC HC' hb hbl hbl'
      rintro wx ⟨X, hX, L, hs, hsc, hb, hBX⟩
      rw [← hX]
      simp only [Act.put]
      clear hX
      obtain ⟨b2, off2, e2, hbl, hc⟩ := hs (by omega)
      cases e2
      obtain ⟨b3, off3, e3, hbl', hc'⟩ := hsc (by omega)
      cases e3
      have p0 := L.1
      have HS := Lib.hid hs
      have HSC := Lib.hid hsc
      have HC := Lib.hid hc
      have HC' := Lib.hid hc'
      clear hs hsc hc hc'
      have q5 := L.2.1 5
      have q7 := L.2.1 7
      rw [blkA_at g k 5 (by omega)] at q5
      rw [blkA_at g k 7 (by omega)] at q7
      have lb : ∀ w' : World, w'.rangeAt X 0 (blkA g k).toList → (loadB (.pointer (some ⟨X, 0, none⟩))).run Try.prog w' = .ok (.agg (blkA g k)) w' := fun w' h => loadB_run h
      have KV := Lib.hid (fun w => ahead_valid_g g k w)
      cases hv : bval g k
      · rw [hv] at KV
        have HF : Hid (feasB g z en n n = false) := Lib.hid (feas_bad g z en n k hlt (by unfold fst1; rw [hv]; rfl))
        clear hv
        refine wp_region_noPanic ?_
        refine wp_region_held_drew (S := (fun w' => w'.rangeAt X 0 (blkA g k).toList ∧ w'.cell? ⟨X, 5, none⟩ = some (.int .i64 (g k 5)) ∧ w'.cell? ⟨X, 7, none⟩ = some (.int .i64 (g k 7)))) (by kernel_rfl) ?_ (fun hHeld => ?_)
        · (try dsimp only); (first | (focus (((with_reducible apply live_keepB) <;> ((repeat (first | with_reducible assumption | ((with_reducible apply live_new) <;> (first | with_reducible rfl | (focus (simp; done)))) | with_reducible apply live_alloc | with_reducible apply live_drew | with_reducible apply live_drewN | ((with_reducible apply live_set_other); (case hb => first | omega | (simp; done))) | with_reducible apply live_set_same | (focus (simp; done)))))); done)) | go_keep)
        refine wpAnyH_take (i := 0) (oi := ?z1oi) (v := ?z1v) ?z1hi (by kernel_rfl) (by kernel_rfl) (by kernel_rfl) (fun _ _ _ h => h) (Or.inl ⟨?z1hw, ?z1hy⟩) hHeld ?z1rest
        case z1hi => (simp only [List.getElem?_toArray, List.getElem?_cons_zero]; exact rfl)
        case z1hw => rfl
        case z1hy => (intro w hSw; (try dsimp only at hSw); go_simp; (try with_reducible rfl))
        (try simp only [Act.put, List.setIfInBounds_toArray, List.set_cons_zero, List.set_cons_succ])
        refine wpAnyH_ready (rs := [1]) (by kernel_rfl) (by simp) ?_
        refine AllReadyH.cons (o := ?z2oi) ?z2hi (fun K hK => ?_) AllReadyH.nil
        case z2hi => (simp only [List.getElem?_toArray, List.getElem?_cons_succ, List.getElem?_cons_zero]; exact rfl)
        go_simp
        (go_at_call 15; (with_reducible refine (KV.out _).mono ?_); rintro e w1 ⟨rfl, hb1⟩; have z1 := hb1.size; (try simp at z1); have L1a := live_below hb1 (b := X) (by (repeat (first | with_reducible assumption | ((with_reducible apply live_new) <;> (first | with_reducible rfl | (focus (simp; done)))) | with_reducible apply live_alloc | with_reducible apply live_drew | with_reducible apply live_drewN | ((with_reducible apply live_set_other); (case hb => first | omega | (simp; done))) | with_reducible apply live_set_same | (focus (simp; done))))); obtain ⟨p1a, e1a, f1a⟩ := id L1a; clear e1a)
        refine hK.out _ _ ?_ (fun hHeld => ?_)
        · (try dsimp only); (first | (focus (((with_reducible apply live_keepB) <;> ((repeat (first | with_reducible assumption | ((with_reducible apply live_new) <;> (first | with_reducible rfl | (focus (simp; done)))) | with_reducible apply live_alloc | with_reducible apply live_drew | with_reducible apply live_drewN | ((with_reducible apply live_set_other); (case hb => first | omega | (simp; done))) | with_reducible apply live_set_same | (focus (simp; done)))))); done)) | go_keep)
        clear hK K
        (try simp only [Act.put, List.setIfInBounds_toArray, List.set_cons_zero, List.set_cons_succ])
        refine wpAnyH_take (i := 2) (oi := ?z3oi) (v := ?z3v) ?z3hi (by kernel_rfl) (by kernel_rfl) (by kernel_rfl) (fun _ _ _ h => h) (Or.inl ⟨?z3hw, ?z3hy⟩) hHeld ?z3rest
        case z3hi => (simp only [List.getElem?_toArray, List.getElem?_cons_succ, List.getElem?_cons_zero]; exact rfl)
        case z3hw => rfl
        case z3hy => (intro w hSw; (try dsimp only at hSw); go_simp; (try with_reducible rfl))
        (try simp only [Act.put, List.setIfInBounds_toArray, List.set_cons_zero, List.set_cons_succ])
        refine wpAnyH_take (i := 3) (oi := ?z4oi) (v := ?z4v) ?z4hi (by kernel_rfl) (by kernel_rfl) (by kernel_rfl) (fun _ _ _ h => h) (Or.inl ⟨?z4hw, ?z4hy⟩) hHeld ?z4rest
        case z4hi => (simp only [List.getElem?_toArray, List.getElem?_cons_succ, List.getElem?_cons_zero]; exact rfl)
        case z4hw => rfl
        case z4hy => (intro w hSw; (try dsimp only at hSw); go_simp; (try with_reducible rfl))
        (try simp only [Act.put, List.setIfInBounds_toArray, List.set_cons_zero, List.set_cons_succ])
        refine wpAnyH_take (i := 4) (oi := ?z5oi) (v := undef) ?z5hi (by kernel_rfl) (by kernel_rfl) (by kernel_rfl) (fun _ _ _ h => h) (Or.inr ⟨?z5hw, rfl⟩) hHeld ?z5rest
        case z5hi => (simp only [List.getElem?_toArray, List.getElem?_cons_succ, List.getElem?_cons_zero]; exact rfl)
        case z5hw => rfl
        (try simp only [Act.put, List.setIfInBounds_toArray, List.set_cons_zero, List.set_cons_succ])
        refine wpAnyH_take (i := 5) (oi := ?z6oi) (v := undef) ?z6hi (by kernel_rfl) (by kernel_rfl) (by kernel_rfl) (fun _ _ _ h => h) (Or.inr ⟨?z6hw, rfl⟩) hHeld ?z6rest
        case z6hi => (simp only [List.getElem?_toArray, List.getElem?_cons_succ, List.getElem?_cons_zero]; exact rfl)
        case z6hw => rfl
        (try simp only [Act.put, List.setIfInBounds_toArray, List.set_cons_zero, List.set_cons_succ])
        refine wpAnyH_take (i := 6) (oi := ?z7oi) (v := undef) ?z7hi (by kernel_rfl) (by kernel_rfl) (by kernel_rfl) (fun _ _ _ h => h) (Or.inr ⟨?z7hw, rfl⟩) hHeld ?z7rest
        case z7hi => (simp only [List.getElem?_toArray, List.getElem?_cons_succ, List.getElem?_cons_zero]; exact rfl)
        case z7hw => rfl
        (try simp only [Act.put, List.setIfInBounds_toArray, List.set_cons_zero, List.set_cons_succ])
        refine wpAnyH_take (i := 7) (oi := ?z8oi) (v := undef) ?z8hi (by kernel_rfl) (by kernel_rfl) (by kernel_rfl) (fun _ _ _ h => h) (Or.inr ⟨?z8hw, rfl⟩) hHeld ?z8rest
        case z8hi => (simp only [List.getElem?_toArray, List.getElem?_cons_succ, List.getElem?_cons_zero]; exact rfl)
        case z8hw => rfl
        (try simp only [Act.put, List.setIfInBounds_toArray, List.set_cons_zero, List.set_cons_succ])
        refine wpAnyH_take (i := 8) (oi := ?z9oi) (v := undef) ?z9hi (by kernel_rfl) (by kernel_rfl) (by kernel_rfl) (fun _ _ _ h => h) (Or.inr ⟨?z9hw, rfl⟩) hHeld ?z9rest
        case z9hi => (simp only [List.getElem?_toArray, List.getElem?_cons_succ, List.getElem?_cons_zero]; exact rfl)
        case z9hw => rfl
        (try simp only [Act.put, List.setIfInBounds_toArray, List.set_cons_zero, List.set_cons_succ])
        refine wpAnyH_take (i := 9) (oi := ?z10oi) (v := undef) ?z10hi (by kernel_rfl) (by kernel_rfl) (by kernel_rfl) (fun _ _ _ h => h) (Or.inr ⟨?z10hw, rfl⟩) hHeld ?z10rest
        case z10hi => (simp only [List.getElem?_toArray, List.getElem?_cons_succ, List.getElem?_cons_zero]; exact rfl)
        case z10hw => rfl
        (try simp only [Act.put, List.setIfInBounds_toArray, List.set_cons_zero, List.set_cons_succ])
        refine wpAnyH_take (i := 10) (oi := ?z11oi) (v := undef) ?z11hi (by kernel_rfl) (by kernel_rfl) (by kernel_rfl) (fun _ _ _ h => h) (Or.inr ⟨?z11hw, rfl⟩) hHeld ?z11rest
        case z11hi => (simp only [List.getElem?_toArray, List.getElem?_cons_succ, List.getElem?_cons_zero]; exact rfl)
        case z11hw => rfl
        (try simp only [Act.put, List.setIfInBounds_toArray, List.set_cons_zero, List.set_cons_succ])
        refine wpAnyH_take (i := 11) (oi := ?z12oi) (v := undef) ?z12hi (by kernel_rfl) (by kernel_rfl) (by kernel_rfl) (fun _ _ _ h => h) (Or.inr ⟨?z12hw, rfl⟩) hHeld ?z12rest
        case z12hi => (simp only [List.getElem?_toArray, List.getElem?_cons_succ, List.getElem?_cons_zero]; exact rfl)
        case z12hw => rfl
        (try simp only [Act.put, List.setIfInBounds_toArray, List.set_cons_zero, List.set_cons_succ])
        refine wpAnyH_take (i := 12) (oi := ?z13oi) (v := ?z13v) ?z13hi (by kernel_rfl) (by kernel_rfl) (by kernel_rfl) (fun _ _ _ h => h) (Or.inl ⟨?z13hw, ?z13hy⟩) hHeld ?z13rest
        case z13hi => (simp only [List.getElem?_toArray, List.getElem?_cons_succ, List.getElem?_cons_zero]; exact rfl)
        case z13hw => rfl
        case z13hy => (intro w hSw; (try dsimp only at hSw); go_simp; (try with_reducible rfl))
        (try simp only [Act.put, List.setIfInBounds_toArray, List.set_cons_zero, List.set_cons_succ])
        refine wpAnyH_take (i := 13) (oi := ?z14oi) (v := ?z14v) ?z14hi (by kernel_rfl) (by kernel_rfl) (by kernel_rfl) (fun _ _ _ h => h) (Or.inl ⟨?z14hw, ?z14hy⟩) hHeld ?z14rest
        case z14hi => (simp only [List.getElem?_toArray, List.getElem?_cons_succ, List.getElem?_cons_zero]; exact rfl)
        case z14hw => rfl
        case z14hy => (intro w hSw; (try dsimp only at hSw); go_simp; (try with_reducible rfl))
        (try simp only [Act.put, List.setIfInBounds_toArray, List.set_cons_zero, List.set_cons_succ])
        refine wpAnyH_take (i := 14) (oi := ?z15oi) (v := undef) ?z15hi (by kernel_rfl) (by kernel_rfl) (by kernel_rfl) (fun _ _ _ h => h) (Or.inr ⟨?z15hw, rfl⟩) hHeld ?z15rest
        case z15hi => (simp only [List.getElem?_toArray, List.getElem?_cons_succ, List.getElem?_cons_zero]; exact rfl)
        case z15hw => rfl
        (try simp only [Act.put, List.setIfInBounds_toArray, List.set_cons_zero, List.set_cons_succ])
        refine wpAnyH_take (i := 15) (oi := ?z16oi) (v := undef) ?z16hi (by kernel_rfl) (by kernel_rfl) (by kernel_rfl) (fun _ _ _ h => h) (Or.inr ⟨?z16hw, rfl⟩) hHeld ?z16rest
        case z16hi => (simp only [List.getElem?_toArray, List.getElem?_cons_succ, List.getElem?_cons_zero]; exact rfl)
        case z16hw => rfl
        (try simp only [Act.put, List.setIfInBounds_toArray, List.set_cons_zero, List.set_cons_succ])
        refine wpAnyH_take (i := 16) (oi := ?z17oi) (v := undef) ?z17hi (by kernel_rfl) (by kernel_rfl) (by kernel_rfl) (fun _ _ _ h => h) (Or.inr ⟨?z17hw, rfl⟩) hHeld ?z17rest
        case z17hi => (simp only [List.getElem?_toArray, List.getElem?_cons_succ, List.getElem?_cons_zero]; exact rfl)
        case z17hw => rfl
        (try simp only [Act.put, List.setIfInBounds_toArray, List.set_cons_zero, List.set_cons_succ])
        refine wpAnyH_take (i := 17) (oi := ?z18oi) (v := undef) ?z18hi (by kernel_rfl) (by kernel_rfl) (by kernel_rfl) (fun _ _ _ h => h) (Or.inr ⟨?z18hw, rfl⟩) hHeld ?z18rest
        case z18hi => (simp only [List.getElem?_toArray, List.getElem?_cons_succ, List.getElem?_cons_zero]; exact rfl)
        case z18hw => rfl
        (try simp only [Act.put, List.setIfInBounds_toArray, List.set_cons_zero, List.set_cons_succ])
        refine wpAnyH_take (i := 18) (oi := ?z19oi) (v := undef) ?z19hi (by kernel_rfl) (by kernel_rfl) (by kernel_rfl) (fun _ _ _ h => h) (Or.inr ⟨?z19hw, rfl⟩) hHeld ?z19rest
        case z19hi => (simp only [List.getElem?_toArray, List.getElem?_cons_succ, List.getElem?_cons_zero]; exact rfl)
        case z19hw => rfl
        (try simp only [Act.put, List.setIfInBounds_toArray, List.set_cons_zero, List.set_cons_succ])
        refine wpAnyH_take (i := 19) (oi := ?z20oi) (v := undef) ?z20hi (by kernel_rfl) (by kernel_rfl) (by kernel_rfl) (fun _ _ _ h => h) (Or.inr ⟨?z20hw, rfl⟩) hHeld ?z20rest
        case z20hi => (simp only [List.getElem?_toArray, List.getElem?_cons_succ, List.getElem?_cons_zero]; exact rfl)
        case z20hw => rfl
        (try simp only [Act.put, List.setIfInBounds_toArray, List.set_cons_zero, List.set_cons_succ])
        refine wpAnyH_take (i := 20) (oi := ?z21oi) (v := undef) ?z21hi (by kernel_rfl) (by kernel_rfl) (by kernel_rfl) (fun _ _ _ h => h) (Or.inr ⟨?z21hw, rfl⟩) hHeld ?z21rest
        case z21hi => (simp only [List.getElem?_toArray, List.getElem?_cons_succ, List.getElem?_cons_zero]; exact rfl)
        case z21hw => rfl
        (try simp only [Act.put, List.setIfInBounds_toArray, List.set_cons_zero, List.set_cons_succ])
        refine wpAnyH_take (i := 21) (oi := ?z22oi) (v := undef) ?z22hi (by kernel_rfl) (by kernel_rfl) (by kernel_rfl) (fun _ _ _ h => h) (Or.inr ⟨?z22hw, rfl⟩) hHeld ?z22rest
        case z22hi => (simp only [List.getElem?_toArray, List.getElem?_cons_succ, List.getElem?_cons_zero]; exact rfl)
        case z22hw => rfl
        (try simp only [Act.put, List.setIfInBounds_toArray, List.set_cons_zero, List.set_cons_succ])
        refine wpAnyH_take (i := 22) (oi := ?z23oi) (v := ?z23v) ?z23hi (by kernel_rfl) (by kernel_rfl) (by kernel_rfl) (fun _ _ _ h => h) (Or.inl ⟨?z23hw, ?z23hy⟩) hHeld ?z23rest
        case z23hi => (simp only [List.getElem?_toArray, List.getElem?_cons_succ, List.getElem?_cons_zero]; exact rfl)
        case z23hw => rfl
        case z23hy => (intro w hSw; (try dsimp only at hSw); go_simp; (try with_reducible rfl))
        (try simp only [Act.put, List.setIfInBounds_toArray, List.set_cons_zero, List.set_cons_succ])
        refine wpAnyH_done (by kernel_rfl) ?_ _
        refine NoPanic.normal ?_
        all_goals (try go_wp2_with fail)
        all_goals go_ret
        all_goals refine ⟨ret_bool ?_, ?_⟩
        all_goals first | (rw [HF.out]; done) | (repeat' (first | with_reducible exact Below.refl _ _ | with_reducible refine Below.drew ?_ | with_reducible refine below_drewN ?_ _ | with_reducible refine Below.alloc ?_ ?_ _ | with_reducible refine Below.setCell ?_ ?_ _ | with_reducible refine Below.trans ?_ (Below.mono (by with_reducible assumption) ?_) | (simp; done) | (simp; omega) | omega))
      · rw [hv] at KV
        obtain ⟨hsnd, h5, h56, h7, h76⟩ := bval_in g k hv
        obtain ⟨_, _, _, hr0, hr1⟩ := bsnd_in g k hsnd
        have h6 := (HG.out k 6)
        unfold I64 at h6
        have hcr := (bsnd_in g k hsnd).2.1
        have KR := Lib.hid (fun w => ahead_reach g k w hsnd)
        have HV := Lib.hid hv
        have w1 : RowKit.wrap64 (g k 7 - g k 5) = g k 7 - g k 5 := by unfold RowKit.wrap64; omega
        have w2 : RowKit.wrap64 (g k 5 - g k 7) = g k 5 - g k 7 := by unfold RowKit.wrap64; omega
        have i1 : IntKind.i64.wrap (g k 7 - g k 5) = g k 7 - g k 5 := IntWalk.i64_in _ (by omega)
        have i2 : IntKind.i64.wrap (g k 5 - g k 7) = g k 5 - g k 7 := IntWalk.i64_in _ (by omega)
        clear hv hsnd h6 hcr
        by_cases c1 : g k 7 - g k 5 ≤ rch g k
        case neg =>
          have b1 : decide (rch g k < g k 7 - g k 5) = true := by simp; omega
          have HF : Hid (feasB g z en n n = false) := Lib.hid (feas_bad g z en n k hlt (by unfold fst1; rw [HV.out, decide_eq_false c1]; rfl))
          clear h5 h56 h7 h76 hr0 hr1 c1
          refine wp_region_noPanic ?_
          refine wp_region_held_drew (S := (fun w' => w'.rangeAt X 0 (blkA g k).toList ∧ w'.cell? ⟨X, 5, none⟩ = some (.int .i64 (g k 5)) ∧ w'.cell? ⟨X, 7, none⟩ = some (.int .i64 (g k 7)))) (by kernel_rfl) ?_ (fun hHeld => ?_)
          · (try dsimp only); (first | (focus (((with_reducible apply live_keepB) <;> ((repeat (first | with_reducible assumption | ((with_reducible apply live_new) <;> (first | with_reducible rfl | (focus (simp; done)))) | with_reducible apply live_alloc | with_reducible apply live_drew | with_reducible apply live_drewN | ((with_reducible apply live_set_other); (case hb => first | omega | (simp; done))) | with_reducible apply live_set_same | (focus (simp; done)))))); done)) | go_keep)
          refine wpAnyH_take (i := 0) (oi := ?z24oi) (v := ?z24v) ?z24hi (by kernel_rfl) (by kernel_rfl) (by kernel_rfl) (fun _ _ _ h => h) (Or.inl ⟨?z24hw, ?z24hy⟩) hHeld ?z24rest
          case z24hi => (simp only [List.getElem?_toArray, List.getElem?_cons_zero]; exact rfl)
          case z24hw => rfl
          case z24hy => (intro w hSw; (try dsimp only at hSw); go_simp; (try with_reducible rfl))
          (try simp only [Act.put, List.setIfInBounds_toArray, List.set_cons_zero, List.set_cons_succ])
          refine wpAnyH_ready (rs := [1]) (by kernel_rfl) (by simp) ?_
          refine AllReadyH.cons (o := ?z25oi) ?z25hi (fun K hK => ?_) AllReadyH.nil
          case z25hi => (simp only [List.getElem?_toArray, List.getElem?_cons_succ, List.getElem?_cons_zero]; exact rfl)
          go_simp
          (go_at_call 15; (with_reducible refine (KV.out _).mono ?_); rintro e w1 ⟨rfl, hb1⟩; have z1 := hb1.size; (try simp at z1); have L1a := live_below hb1 (b := X) (by (repeat (first | with_reducible assumption | ((with_reducible apply live_new) <;> (first | with_reducible rfl | (focus (simp; done)))) | with_reducible apply live_alloc | with_reducible apply live_drew | with_reducible apply live_drewN | ((with_reducible apply live_set_other); (case hb => first | omega | (simp; done))) | with_reducible apply live_set_same | (focus (simp; done))))); obtain ⟨p1a, e1a, f1a⟩ := id L1a; clear e1a)
          refine hK.out _ _ ?_ (fun hHeld => ?_)
          · (try dsimp only); (first | (focus (((with_reducible apply live_keepB) <;> ((repeat (first | with_reducible assumption | ((with_reducible apply live_new) <;> (first | with_reducible rfl | (focus (simp; done)))) | with_reducible apply live_alloc | with_reducible apply live_drew | with_reducible apply live_drewN | ((with_reducible apply live_set_other); (case hb => first | omega | (simp; done))) | with_reducible apply live_set_same | (focus (simp; done)))))); done)) | go_keep)
          clear hK K
          (try simp only [Act.put, List.setIfInBounds_toArray, List.set_cons_zero, List.set_cons_succ])
          refine wpAnyH_take (i := 2) (oi := ?z26oi) (v := ?z26v) ?z26hi (by kernel_rfl) (by kernel_rfl) (by kernel_rfl) (fun _ _ _ h => h) (Or.inl ⟨?z26hw, ?z26hy⟩) hHeld ?z26rest
          case z26hi => (simp only [List.getElem?_toArray, List.getElem?_cons_succ, List.getElem?_cons_zero]; exact rfl)
          case z26hw => rfl
          case z26hy => (intro w hSw; (try dsimp only at hSw); go_simp; (try with_reducible rfl))
          (try simp only [Act.put, List.setIfInBounds_toArray, List.set_cons_zero, List.set_cons_succ])
          refine wpAnyH_take (i := 3) (oi := ?z27oi) (v := ?z27v) ?z27hi (by kernel_rfl) (by kernel_rfl) (by kernel_rfl) (fun _ _ _ h => h) (Or.inl ⟨?z27hw, ?z27hy⟩) hHeld ?z27rest
          case z27hi => (simp only [List.getElem?_toArray, List.getElem?_cons_succ, List.getElem?_cons_zero]; exact rfl)
          case z27hw => rfl
          case z27hy => (intro w hSw; (try dsimp only at hSw); go_simp; (try with_reducible rfl))
          (try simp only [Act.put, List.setIfInBounds_toArray, List.set_cons_zero, List.set_cons_succ])
          refine wpAnyH_take (i := 4) (oi := ?z28oi) (v := ?z28v) ?z28hi (by kernel_rfl) (by kernel_rfl) (by kernel_rfl) (fun _ _ _ h => h) (Or.inl ⟨?z28hw, ?z28hy⟩) hHeld ?z28rest
          case z28hi => (simp only [List.getElem?_toArray, List.getElem?_cons_succ, List.getElem?_cons_zero]; exact rfl)
          case z28hw => rfl
          case z28hy => (intro w hSw; (try dsimp only at hSw); go_simp; (try with_reducible rfl))
          (try simp only [Act.put, List.setIfInBounds_toArray, List.set_cons_zero, List.set_cons_succ])
          refine wpAnyH_take (i := 5) (oi := ?z29oi) (v := ?z29v) ?z29hi (by kernel_rfl) (by kernel_rfl) (by kernel_rfl) (fun _ _ _ h => h) (Or.inl ⟨?z29hw, ?z29hy⟩) hHeld ?z29rest
          case z29hi => (simp only [List.getElem?_toArray, List.getElem?_cons_succ, List.getElem?_cons_zero]; exact rfl)
          case z29hw => rfl
          case z29hy => (intro w hSw; (try dsimp only at hSw); go_simp; (try with_reducible rfl))
          (try simp only [Act.put, List.setIfInBounds_toArray, List.set_cons_zero, List.set_cons_succ])
          refine wpAnyH_take (i := 6) (oi := ?z30oi) (v := ?z30v) ?z30hi (by kernel_rfl) (by kernel_rfl) (by kernel_rfl) (fun _ _ _ h => h) (Or.inl ⟨?z30hw, ?z30hy⟩) hHeld ?z30rest
          case z30hi => (simp only [List.getElem?_toArray, List.getElem?_cons_succ, List.getElem?_cons_zero]; exact rfl)
          case z30hw => rfl
          case z30hy => (intro w hSw; (try dsimp only at hSw); go_simp; (try with_reducible rfl))
          (try simp only [Act.put, List.setIfInBounds_toArray, List.set_cons_zero, List.set_cons_succ])
          refine wpAnyH_take (i := 7) (oi := ?z31oi) (v := ?z31v) ?z31hi (by kernel_rfl) (by kernel_rfl) (by kernel_rfl) (fun _ _ _ h => h) (Or.inl ⟨?z31hw, ?z31hy⟩) hHeld ?z31rest
          case z31hi => (simp only [List.getElem?_toArray, List.getElem?_cons_succ, List.getElem?_cons_zero]; exact rfl)
          case z31hw => rfl
          case z31hy => (intro w hSw; (try dsimp only at hSw); go_simp; (try with_reducible rfl))
          (try simp only [Act.put, List.setIfInBounds_toArray, List.set_cons_zero, List.set_cons_succ])
          refine wpAnyH_take (i := 8) (oi := ?z32oi) (v := ?z32v) ?z32hi (by kernel_rfl) (by kernel_rfl) (by kernel_rfl) (fun _ _ _ h => h) (Or.inl ⟨?z32hw, ?z32hy⟩) hHeld ?z32rest
          case z32hi => (simp only [List.getElem?_toArray, List.getElem?_cons_succ, List.getElem?_cons_zero]; exact rfl)
          case z32hw => rfl
          case z32hy => (intro w hSw; (try dsimp only at hSw); go_simp; (try with_reducible rfl))
          (try simp only [Act.put, List.setIfInBounds_toArray, List.set_cons_zero, List.set_cons_succ])
          refine wpAnyH_take (i := 9) (oi := ?z33oi) (v := ?z33v) ?z33hi (by kernel_rfl) (by kernel_rfl) (by kernel_rfl) (fun _ _ _ h => h) (Or.inl ⟨?z33hw, ?z33hy⟩) hHeld ?z33rest
          case z33hi => (simp only [List.getElem?_toArray, List.getElem?_cons_succ, List.getElem?_cons_zero]; exact rfl)
          case z33hw => rfl
          case z33hy => (intro w hSw; (try dsimp only at hSw); go_simp; (try with_reducible rfl))
          (try simp only [Act.put, List.setIfInBounds_toArray, List.set_cons_zero, List.set_cons_succ])
          refine wpAnyH_ready (rs := [10]) (by kernel_rfl) (by simp) ?_
          refine AllReadyH.cons (o := ?z34oi) ?z34hi (fun K hK => ?_) AllReadyH.nil
          case z34hi => (simp only [List.getElem?_toArray, List.getElem?_cons_succ, List.getElem?_cons_zero]; exact rfl)
          go_simp
          (go_at_call 43; (with_reducible refine (KR.out _).mono ?_); rintro e w2 ⟨rfl, hb2⟩; have z2 := hb2.size; (try simp at z2); have L2a := live_below hb2 (b := X) (by (repeat (first | with_reducible assumption | ((with_reducible apply live_new) <;> (first | with_reducible rfl | (focus (simp; done)))) | with_reducible apply live_alloc | with_reducible apply live_drew | with_reducible apply live_drewN | ((with_reducible apply live_set_other); (case hb => first | omega | (simp; done))) | with_reducible apply live_set_same | (focus (simp; done))))); obtain ⟨p2a, e2a, f2a⟩ := id L2a; clear e2a)
          refine hK.out _ _ ?_ (fun hHeld => ?_)
          · (try dsimp only); (first | (focus (((with_reducible apply live_keepB) <;> ((repeat (first | with_reducible assumption | ((with_reducible apply live_new) <;> (first | with_reducible rfl | (focus (simp; done)))) | with_reducible apply live_alloc | with_reducible apply live_drew | with_reducible apply live_drewN | ((with_reducible apply live_set_other); (case hb => first | omega | (simp; done))) | with_reducible apply live_set_same | (focus (simp; done)))))); done)) | go_keep)
          clear hK K
          (try simp only [Act.put, List.setIfInBounds_toArray, List.set_cons_zero, List.set_cons_succ])
          refine wpAnyH_take (i := 11) (oi := ?z35oi) (v := ?z35v) ?z35hi (by kernel_rfl) (by kernel_rfl) (by kernel_rfl) (fun _ _ _ h => h) (Or.inl ⟨?z35hw, ?z35hy⟩) hHeld ?z35rest
          case z35hi => (simp only [List.getElem?_toArray, List.getElem?_cons_succ, List.getElem?_cons_zero]; exact rfl)
          case z35hw => rfl
          case z35hy => (intro w hSw; (try dsimp only at hSw); go_simp; (try with_reducible rfl))
          (try simp only [Act.put, List.setIfInBounds_toArray, List.set_cons_zero, List.set_cons_succ])
          refine wpAnyH_take (i := 12) (oi := ?z36oi) (v := ?z36v) ?z36hi (by kernel_rfl) (by kernel_rfl) (by kernel_rfl) (fun _ _ _ h => h) (Or.inl ⟨?z36hw, ?z36hy⟩) hHeld ?z36rest
          case z36hi => (simp only [List.getElem?_toArray, List.getElem?_cons_succ, List.getElem?_cons_zero]; exact rfl)
          case z36hw => rfl
          case z36hy => (intro w hSw; (try dsimp only at hSw); go_simp; (try with_reducible rfl))
          (try simp only [Act.put, List.setIfInBounds_toArray, List.set_cons_zero, List.set_cons_succ])
          refine wpAnyH_take (i := 13) (oi := ?z37oi) (v := ?z37v) ?z37hi (by kernel_rfl) (by kernel_rfl) (by kernel_rfl) (fun _ _ _ h => h) (Or.inl ⟨?z37hw, ?z37hy⟩) hHeld ?z37rest
          case z37hi => (simp only [List.getElem?_toArray, List.getElem?_cons_succ, List.getElem?_cons_zero]; exact rfl)
          case z37hw => rfl
          case z37hy => (intro w hSw; (try dsimp only at hSw); go_simp; (try with_reducible rfl))
          (try simp only [Act.put, List.setIfInBounds_toArray, List.set_cons_zero, List.set_cons_succ])
          refine wpAnyH_take (i := 14) (oi := ?z38oi) (v := undef) ?z38hi (by kernel_rfl) (by kernel_rfl) (by kernel_rfl) (fun _ _ _ h => h) (Or.inr ⟨?z38hw, rfl⟩) hHeld ?z38rest
          case z38hi => (simp only [List.getElem?_toArray, List.getElem?_cons_succ, List.getElem?_cons_zero]; exact rfl)
          case z38hw => rfl
          (try simp only [Act.put, List.setIfInBounds_toArray, List.set_cons_zero, List.set_cons_succ])
          refine wpAnyH_take (i := 15) (oi := ?z39oi) (v := undef) ?z39hi (by kernel_rfl) (by kernel_rfl) (by kernel_rfl) (fun _ _ _ h => h) (Or.inr ⟨?z39hw, rfl⟩) hHeld ?z39rest
          case z39hi => (simp only [List.getElem?_toArray, List.getElem?_cons_succ, List.getElem?_cons_zero]; exact rfl)
          case z39hw => rfl
          (try simp only [Act.put, List.setIfInBounds_toArray, List.set_cons_zero, List.set_cons_succ])
          refine wpAnyH_take (i := 16) (oi := ?z40oi) (v := undef) ?z40hi (by kernel_rfl) (by kernel_rfl) (by kernel_rfl) (fun _ _ _ h => h) (Or.inr ⟨?z40hw, rfl⟩) hHeld ?z40rest
          case z40hi => (simp only [List.getElem?_toArray, List.getElem?_cons_succ, List.getElem?_cons_zero]; exact rfl)
          case z40hw => rfl
          (try simp only [Act.put, List.setIfInBounds_toArray, List.set_cons_zero, List.set_cons_succ])
          refine wpAnyH_take (i := 17) (oi := ?z41oi) (v := undef) ?z41hi (by kernel_rfl) (by kernel_rfl) (by kernel_rfl) (fun _ _ _ h => h) (Or.inr ⟨?z41hw, rfl⟩) hHeld ?z41rest
          case z41hi => (simp only [List.getElem?_toArray, List.getElem?_cons_succ, List.getElem?_cons_zero]; exact rfl)
          case z41hw => rfl
          (try simp only [Act.put, List.setIfInBounds_toArray, List.set_cons_zero, List.set_cons_succ])
          refine wpAnyH_take (i := 18) (oi := ?z42oi) (v := undef) ?z42hi (by kernel_rfl) (by kernel_rfl) (by kernel_rfl) (fun _ _ _ h => h) (Or.inr ⟨?z42hw, rfl⟩) hHeld ?z42rest
          case z42hi => (simp only [List.getElem?_toArray, List.getElem?_cons_succ, List.getElem?_cons_zero]; exact rfl)
          case z42hw => rfl
          (try simp only [Act.put, List.setIfInBounds_toArray, List.set_cons_zero, List.set_cons_succ])
          refine wpAnyH_take (i := 19) (oi := ?z43oi) (v := undef) ?z43hi (by kernel_rfl) (by kernel_rfl) (by kernel_rfl) (fun _ _ _ h => h) (Or.inr ⟨?z43hw, rfl⟩) hHeld ?z43rest
          case z43hi => (simp only [List.getElem?_toArray, List.getElem?_cons_succ, List.getElem?_cons_zero]; exact rfl)
          case z43hw => rfl
          (try simp only [Act.put, List.setIfInBounds_toArray, List.set_cons_zero, List.set_cons_succ])
          refine wpAnyH_take (i := 20) (oi := ?z44oi) (v := undef) ?z44hi (by kernel_rfl) (by kernel_rfl) (by kernel_rfl) (fun _ _ _ h => h) (Or.inr ⟨?z44hw, rfl⟩) hHeld ?z44rest
          case z44hi => (simp only [List.getElem?_toArray, List.getElem?_cons_succ, List.getElem?_cons_zero]; exact rfl)
          case z44hw => rfl
          (try simp only [Act.put, List.setIfInBounds_toArray, List.set_cons_zero, List.set_cons_succ])
          refine wpAnyH_take (i := 21) (oi := ?z45oi) (v := undef) ?z45hi (by kernel_rfl) (by kernel_rfl) (by kernel_rfl) (fun _ _ _ h => h) (Or.inr ⟨?z45hw, rfl⟩) hHeld ?z45rest
          case z45hi => (simp only [List.getElem?_toArray, List.getElem?_cons_succ, List.getElem?_cons_zero]; exact rfl)
          case z45hw => rfl
          (try simp only [Act.put, List.setIfInBounds_toArray, List.set_cons_zero, List.set_cons_succ])
          refine wpAnyH_take (i := 22) (oi := ?z46oi) (v := ?z46v) ?z46hi (by kernel_rfl) (by kernel_rfl) (by kernel_rfl) (fun _ _ _ h => h) (Or.inl ⟨?z46hw, ?z46hy⟩) hHeld ?z46rest
          case z46hi => (simp only [List.getElem?_toArray, List.getElem?_cons_succ, List.getElem?_cons_zero]; exact rfl)
          case z46hw => rfl
          case z46hy => (intro w hSw; (try dsimp only at hSw); go_simp; (try with_reducible rfl))
          (try simp only [Act.put, List.setIfInBounds_toArray, List.set_cons_zero, List.set_cons_succ])
          refine wpAnyH_done (by kernel_rfl) ?_ _
          refine NoPanic.normal ?_
          all_goals (try go_wp2_with fail)
          all_goals go_ret
          all_goals refine ⟨ret_bool ?_, ?_⟩
          all_goals first | (rw [HF.out]; done) | (repeat' (first | with_reducible exact Below.refl _ _ | with_reducible refine Below.drew ?_ | with_reducible refine below_drewN ?_ _ | with_reducible refine Below.alloc ?_ ?_ _ | with_reducible refine Below.setCell ?_ ?_ _ | with_reducible refine Below.trans ?_ (Below.mono (by with_reducible assumption) ?_) | (simp; done) | (simp; omega) | omega))
        have b1 : decide (rch g k < g k 7 - g k 5) = false := by simp; omega
        have C1 := Lib.hid c1
        have HR0 := Lib.hid (And.intro hr0 hr1)
        have HBD := Lib.hid (And.intro h5 (And.intro h56 (And.intro h7 h76)))
        by_cases c2 : g k 5 - g k 7 ≤ rch g k
        case neg =>
          have b2 : decide (rch g k < g k 5 - g k 7) = true := by simp; omega
          have HF : Hid (feasB g z en n n = false) := Lib.hid (feas_bad g z en n k hlt (by unfold fst1; rw [HV.out, decide_eq_true C1.out, decide_eq_false c2]; rfl))
          clear h5 h56 h7 h76 hr0 hr1 c1 c2
          go_region_held3 (fun w' => w'.rangeAt X 0 (blkA g k).toList ∧ w'.cell? ⟨X, 5, none⟩ = some (.int .i64 (g k 5)) ∧ w'.cell? ⟨X, 7, none⟩ = some (.int .i64 (g k 7))) (first | (focus (((with_reducible apply live_keepB) <;> ((repeat (first | with_reducible assumption | ((with_reducible apply live_new) <;> (first | with_reducible rfl | (focus (simp; done)))) | with_reducible apply live_alloc | with_reducible apply live_drew | with_reducible apply live_drewN | ((with_reducible apply live_set_other); (case hb => first | omega | (simp; done))) | with_reducible apply live_set_same | (focus (simp; done)))))); done)) | go_keep)
            (first | (go_at_call 15; (with_reducible refine (KV.out _).mono ?_); rintro e w1 ⟨rfl, hb1⟩; have z1 := hb1.size; (try simp at z1); have L1a := live_below hb1 (b := X) (by (repeat (first | with_reducible assumption | ((with_reducible apply live_new) <;> (first | with_reducible rfl | (focus (simp; done)))) | with_reducible apply live_alloc | with_reducible apply live_drew | with_reducible apply live_drewN | ((with_reducible apply live_set_other); (case hb => first | omega | (simp; done))) | with_reducible apply live_set_same | (focus (simp; done))))); obtain ⟨p1a, e1a, f1a⟩ := id L1a; clear e1a) | (go_at_call 43; (with_reducible refine (KR.out _).mono ?_); rintro e w2 ⟨rfl, hb2⟩; have z2 := hb2.size; (try simp at z2); have L2a := live_below hb2 (b := X) (by (repeat (first | with_reducible assumption | ((with_reducible apply live_new) <;> (first | with_reducible rfl | (focus (simp; done)))) | with_reducible apply live_alloc | with_reducible apply live_drew | with_reducible apply live_drewN | ((with_reducible apply live_set_other); (case hb => first | omega | (simp; done))) | with_reducible apply live_set_same | (focus (simp; done))))); obtain ⟨p2a, e2a, f2a⟩ := id L2a; clear e2a))
          all_goals (try go_wp2_with fail)
          all_goals go_ret
          all_goals refine ⟨ret_bool ?_, ?_⟩
          all_goals first | (rw [HF.out]; done) | (repeat' (first | with_reducible exact Below.refl _ _ | with_reducible refine Below.drew ?_ | with_reducible refine below_drewN ?_ _ | with_reducible refine Below.alloc ?_ ?_ _ | with_reducible refine Below.setCell ?_ ?_ _ | with_reducible refine Below.trans ?_ (Below.mono (by with_reducible assumption) ?_) | (simp; done) | (simp; omega) | omega))
        have b2 : decide (rch g k < g k 5 - g k 7) = false := by simp; omega
        have C2 := Lib.hid c2
        clear h5 h56 h7 h76 hr0 hr1 c1 c2
        go_region_held3 (fun w' => w'.rangeAt X 0 (blkA g k).toList ∧ w'.cell? ⟨X, 5, none⟩ = some (.int .i64 (g k 5)) ∧ w'.cell? ⟨X, 7, none⟩ = some (.int .i64 (g k 7))) (first | (focus (((with_reducible apply live_keepB) <;> ((repeat (first | with_reducible assumption | ((with_reducible apply live_new) <;> (first | with_reducible rfl | (focus (simp; done)))) | with_reducible apply live_alloc | with_reducible apply live_drew | with_reducible apply live_drewN | ((with_reducible apply live_set_other); (case hb => first | omega | (simp; done))) | with_reducible apply live_set_same | (focus (simp; done)))))); done)) | go_keep)
          (first | (go_at_call 15; (with_reducible refine (KV.out _).mono ?_); rintro e w1 ⟨rfl, hb1⟩; have z1 := hb1.size; (try simp at z1); have L1a := live_below hb1 (b := X) (by (repeat (first | with_reducible assumption | ((with_reducible apply live_new) <;> (first | with_reducible rfl | (focus (simp; done)))) | with_reducible apply live_alloc | with_reducible apply live_drew | with_reducible apply live_drewN | ((with_reducible apply live_set_other); (case hb => first | omega | (simp; done))) | with_reducible apply live_set_same | (focus (simp; done))))); obtain ⟨p1a, e1a, f1a⟩ := id L1a; clear e1a) | (go_at_call 43; (with_reducible refine (KR.out _).mono ?_); rintro e w2 ⟨rfl, hb2⟩; have z2 := hb2.size; (try simp at z2); have L2a := live_below hb2 (b := X) (by (repeat (first | with_reducible assumption | ((with_reducible apply live_new) <;> (first | with_reducible rfl | (focus (simp; done)))) | with_reducible apply live_alloc | with_reducible apply live_drew | with_reducible apply live_drewN | ((with_reducible apply live_set_other); (case hb => first | omega | (simp; done))) | with_reducible apply live_set_same | (focus (simp; done))))); obtain ⟨p2a, e2a, f2a⟩ := id L2a; clear e2a))
        rename_i hh; clear hh
        go_upto_region 8 with (fail)
        refine gen_world (fun wx => Live wx X (blkA g k) ∧ BlkS wx (some ⟨b, off, none⟩) n g ∧ IntS wx (some ⟨b', off', none⟩) n z ∧ Below w.heap.size w wx) ?_ ?_
        · refine ⟨?_, blkS_below (w := wx) (B := wx.heap.size) ?_ (Nat.le_refl _) HS.out, intS_below (w := wx) (B := wx.heap.size) ?_ (Nat.le_refl _) HSC.out, ?_⟩
          · (repeat (first | with_reducible assumption | ((with_reducible apply live_new) <;> (first | with_reducible rfl | (focus (simp; done)))) | with_reducible apply live_alloc | with_reducible apply live_drew | with_reducible apply live_drewN | ((with_reducible apply live_set_other); (case hb => first | omega | (simp; done))) | with_reducible apply live_set_same | (focus (simp; done))))
          all_goals (repeat' (first | with_reducible exact Below.refl _ _ | with_reducible refine Below.drew ?_ | with_reducible refine below_drewN ?_ _ | with_reducible refine Below.alloc ?_ ?_ _ | with_reducible refine Below.setCell ?_ ?_ _ | with_reducible refine Below.trans ?_ (Below.mono (by with_reducible assumption) ?_) | (simp; done) | (simp; omega) | omega))
        clear HS HSC HC HC' L hb hbl hbl' p0 q5 q7 lb KV KR hBX
        rintro wx ⟨L, hs, hsc, hb⟩
        obtain ⟨b2, off2, e2, hbl, hc⟩ := hs (by omega)
        cases e2
        obtain ⟨b3, off3, e3, hbl', hc'⟩ := hsc (by omega)
        cases e3
        have p0 := L.1
        have q5 := L.2.1 5
        rw [blkA_at g k 5 (by omega)] at q5
        have HS := Lib.hid hs
        have HSC := Lib.hid hsc
        clear hs hsc
        by_cases hk0 : k = 0
        · subst hk0
          have HC := Lib.hid hc
          have HC' := Lib.hid hc'
          clear hc hc'
          by_cases c3 : g 0 5 = en
          · have b3 : (g 0 5 != en) = false := by simpa using c3
            have HF1 : Hid (allTo (fst1 g z en) (0 + 1) = true) := Lib.hid (by show (_ && fst1 g z en 0) = true; rw [HALL.out]; unfold fst1; rw [HV.out, decide_eq_true C1.out, decide_eq_true C2.out, if_pos rfl, decide_eq_true c3]; rfl)
            clear c3
            go_quiet (fail)
            go_wp2_with fail
            go_roundw
            case rel => exact ⟨0 + 1, by go_num, by omega, HF1.out, HS.out, HSC.out, by (repeat' (first | with_reducible exact Below.refl _ _ | with_reducible refine Below.drew ?_ | with_reducible refine below_drewN ?_ _ | with_reducible refine Below.alloc ?_ ?_ _ | with_reducible refine Below.setCell ?_ ?_ _ | with_reducible refine Below.trans ?_ (Below.mono (by with_reducible assumption) ?_) | (simp; done) | (simp; omega) | omega))⟩
            case measure => first | (simp [intOf]; done) | (simp [intOf]; omega)
          · have b3 : (g 0 5 != en) = true := by simpa using c3
            have HF : Hid (feasB g z en n n = false) := Lib.hid (feas_bad g z en n 0 hlt (by unfold fst1; rw [HV.out, decide_eq_true C1.out, decide_eq_true C2.out, if_pos rfl, decide_eq_false c3]; rfl))
            clear c3
            go_quiet (fail)
            all_goals (try go_wp2_with fail)
            all_goals go_ret
            all_goals refine ⟨ret_bool ?_, ?_⟩
            all_goals first | (rw [HF.out]; done) | (repeat' (first | with_reducible exact Below.refl _ _ | with_reducible refine Below.drew ?_ | with_reducible refine below_drewN ?_ _ | with_reducible refine Below.alloc ?_ ?_ _ | with_reducible refine Below.setCell ?_ ?_ _ | with_reducible refine Below.trans ?_ (Below.mono (by with_reducible assumption) ?_) | (simp; done) | (simp; omega) | omega))
        · have hk1 : 0 < k := by omega
          have b0 : ((k : Int) == 0) = false := beq_eq_false_iff_ne.2 (by omega)
          have b1' : decide ((0 : Int) < (k : Int)) = true := by simp; omega
          have i3 : IntKind.i64.wrap ((k : Int) - 1) = (k : Int) - 1 := IntWalk.i64_in _ (by omega)
          have i4 : ((k : Int) - 1).toNat = k - 1 := by omega
          have i5 : 0 ≤ (k : Int) - 1 := by omega
          have i6 : (k : Int) - 1 < (n : Int) := by omega
          have i7 : (k : Int) < (n : Int) := by omega
          have q8 := hc (k - 1) (by omega) 7 (by omega)
          have q9 := hc' k (by omega)
          have HC := Lib.hid hc
          have HC' := Lib.hid hc'
          clear hc hc'
          by_cases c3 : g k 5 = g (k - 1) 7
          · have b3 : (g k 5 != g (k - 1) 7) = false := by simpa using c3
            by_cases c4 : g k 5 ≤ z k
            · have b4 : decide (z k < g k 5) = false := by simp; omega
              have HF1 : Hid (allTo (fst1 g z en) (k + 1) = true) := Lib.hid (by show (_ && fst1 g z en k) = true; rw [HALL.out]; unfold fst1; rw [HV.out, decide_eq_true C1.out, decide_eq_true C2.out, if_neg hk0, decide_eq_true c3, decide_eq_true c4]; rfl)
              clear c3 c4 hk0
              go_quiet (fail)
              go_wp2_with fail
              go_roundw
              case rel => exact ⟨k + 1, by go_num, by omega, HF1.out, HS.out, HSC.out, by (repeat' (first | with_reducible exact Below.refl _ _ | with_reducible refine Below.drew ?_ | with_reducible refine below_drewN ?_ _ | with_reducible refine Below.alloc ?_ ?_ _ | with_reducible refine Below.setCell ?_ ?_ _ | with_reducible refine Below.trans ?_ (Below.mono (by with_reducible assumption) ?_) | (simp; done) | (simp; omega) | omega))⟩
              case measure => first | (simp [intOf]; done) | (simp [intOf]; omega)
            · have b4 : decide (z k < g k 5) = true := by simp; omega
              have HF : Hid (feasB g z en n n = false) := Lib.hid (feas_bad g z en n k hlt (by unfold fst1; rw [HV.out, decide_eq_true C1.out, decide_eq_true C2.out, if_neg hk0, decide_eq_true c3, decide_eq_false c4]; rfl))
              clear c3 c4 hk0
              go_quiet (fail)
              all_goals (try go_wp2_with fail)
              all_goals go_ret
              all_goals refine ⟨ret_bool ?_, ?_⟩
              all_goals first | (rw [HF.out]; done) | (repeat' (first | with_reducible exact Below.refl _ _ | with_reducible refine Below.drew ?_ | with_reducible refine below_drewN ?_ _ | with_reducible refine Below.alloc ?_ ?_ _ | with_reducible refine Below.setCell ?_ ?_ _ | with_reducible refine Below.trans ?_ (Below.mono (by with_reducible assumption) ?_) | (simp; done) | (simp; omega) | omega))
          · have b3 : (g k 5 != g (k - 1) 7) = true := by simpa using c3
            have HF : Hid (feasB g z en n n = false) := Lib.hid (feas_bad g z en n k hlt (by unfold fst1; rw [HV.out, decide_eq_true C1.out, decide_eq_true C2.out, if_neg hk0, decide_eq_false c3]; rfl))
            clear c3 hk0
            go_quiet (fail)
            all_goals (try go_wp2_with fail)
            all_goals go_ret
            all_goals refine ⟨ret_bool ?_, ?_⟩
            all_goals first | (rw [HF.out]; done) | (repeat' (first | with_reducible exact Below.refl _ _ | with_reducible refine Below.drew ?_ | with_reducible refine below_drewN ?_ _ | with_reducible refine Below.alloc ?_ ?_ _ | with_reducible refine Below.setCell ?_ ?_ _ | with_reducible refine Below.trans ?_ (Below.mono (by with_reducible assumption) ?_) | (simp; done) | (simp; omega) | omega))
    · have hkn : k = n := by omega
      subst hkn
      have HF : Hid (feasB g z en k k = (k == 0 || g (k - 1) 7 == 0)) := Lib.hid (feas_end g z en k hall)
      clear hall
      by_cases hk0 : k = 0
      · subst hk0
        go_wp2_with fail
        go_ret
        exact ⟨ret_bool (by rw [HF.out]; rfl), hb⟩
      · have b0 : ((k : Int) == 0) = false := beq_eq_false_iff_ne.2 (by omega)
        have b0' : (k == 0) = false := beq_eq_false_iff_ne.2 hk0
        have i3 : IntKind.i64.wrap ((k : Int) - 1) = (k : Int) - 1 := IntWalk.i64_in _ (by omega)
        have w3 : RowKit.wrap64 ((k : Int) - 1) = (k : Int) - 1 := by unfold RowKit.wrap64; omega
        have i4 : ((k : Int) - 1).toNat = k - 1 := by omega
        have i5 : 0 ≤ (k : Int) - 1 := by omega
        have i6 : (k : Int) - 1 < (k : Int) := by omega
        obtain ⟨b, off, rfl, hbl, hc⟩ := hs (by omega)
        have q8 := hc (k - 1) (by omega) 7 (by omega)
        clear hs hsc hc
        go_wp2_with fail
        go_ret
        exact ⟨ret_bool (by rw [HF.out, b0']; rfl), hb⟩
end Go.Proofs.Ytleohgnnbpicjaa
