/- What Format returns: the text of the number -/
import Derived.Test.YtimonckfibphcaaProg
import Derived.WalkKit
import Derived.WalkLawsBesides
import Derived.LoopTactic
import Derived.RegionTactic
import Derived.BigRegion
import Derived.Laws.AppendOwn
import Derived.Laws.OwnMore
import Derived.Deep.MidRow
import Derived.Laws.IdiomStrings
import Derived.Deep.DeepCutAuto
import Derived.Deep.CutBlock
import Derived.Deep.RegionHeld3
import Derived.Deep.RegionWith
import Derived.IntWalk
import Derived.Outline
import Derived.Lib.Hide
import Derived.Test.YtimonckfibphcaaKit5
import Derived.Test.YtimonckfibphcaaNumFmtP
import Derived.Test.YtimonckfibphcaaNumMulDiv
namespace Go.Proofs.Ytimonckfibphcaa
open Go.RowKit
set_option linter.unusedVariables false

attribute [local go_sem] cell_past1 cell_past2 cell_past3 cell_past4 froz_past1 froz_past2 froz_past3

def bv (x : UInt8) : Value := .int .u8 (x.toNat : Int)
theorem u8_info : (Try.prog.info? 5).map (fun i => (i.zero, i.size, i.bytes)) = some (some (.int .u8 0), 1, 1) := by kernel_rfl
theorem bv_dig (u : Nat) : Value.int .u8 (48 + (u : Int) % 10) = bv (dgB (u % 10)) := by
  unfold bv
  rw [dgB_nat _ (by omega)]
  congr 1

def FRel (U : Nat) (w : World) (s3 s4 : Value) (wr : World) : Prop :=
  ∃ (L : List UInt8) (u : Nat), s3 = .int .u64 (u : Int) ∧ wr.ownsRow w.heap.size 5 1 s4 L.length (L.map bv) ∧ L ++ (if u = 0 then [] else leD u) = leD U ∧ u < 18446744073709551616 ∧ 1 ≤ L.length ∧ Below w.heap.size w wr

theorem row_slice {w : World} {base n : Nat} {e : TypeId} {v : Value} {xs : List Value} (h : w.ownsRow base e 1 v n xs) (hn : 0 < n) : ∃ g cap, v = .slice (some ⟨g, 0, none⟩) n cap ∧ base ≤ g ∧ g < w.heap.size := by
  obtain ⟨h1, h2⟩ := h
  rcases h2 with ⟨_, h3⟩ | ⟨g, cap, cur, hv, hg, hh, _⟩
  · omega
  · exact ⟨g, cap, hv, hg, (Array.getElem?_eq_some_iff.1 hh).1⟩
def RRel (M : List UInt8) (g cap : Nat) (w : World) (s5 s6 : Value) (wr : World) : Prop :=
  ∃ i k : Nat, s5 = .int .i64 (i : Int) ∧ s6 = .int .i64 (k : Int) ∧ i + k + 1 = M.length ∧ 2 * i ≤ M.length ∧ wr.ownsRow w.heap.size 5 1 (.slice (some ⟨g, 0, none⟩) M.length cap) M.length ((rvL M i).map bv) ∧ Below w.heap.size w wr

set_option maxRecDepth 100000 in
set_option maxHeartbeats 4000000 in
theorem num_format (n : Int) (w : World) (hn : -9223372036854775808 ≤ n ∧ n ≤ 9223372036854775807) :
    Calls Try.prog 21 #[.int .i64 n] w fun e w' => e = .returned (.string (fmtS n)) ∧ Below w.heap.size w w' := by
  obtain ⟨i0, hi, hz0, hz1, hz2⟩ := info_parts u8_info
  have KS := Lib.hid (fun w => num_size n w hn)
  have hU : n.natAbs < 18446744073709551616 := by omega
  have hlen := leD_len20 n.natAbs hU
  generalize hUU : n.natAbs = U at *
  have HU := Lib.hid hUU
  have HL := Lib.hid hlen
  have HU2 := Lib.hid hU
  have hUi : (U : Int) < 18446744073709551616 := by omega
  clear hUU hlen hU
  go_enter Try.func21, Try.ntmps21
  go_wp2_with (go_at_call 35; refine (KS.out _).mono ?_; rintro e w1 ⟨rfl, rfl⟩)
  go_loopw [3, 4] (FRel U w) (fun s _ _ => (intOf s).toNat)
  case atStart =>
    refine ⟨[dgB (U % 10)], U / 10, congrArg (Value.int IntKind.u64) (by omega), ?_, ?_, ?_, by simp, (Below.refl _ _).alloc (Nat.le_refl _) _⟩
    · rw [bv_dig]; exact World.ownsRow_lit _ _ _ (Nat.le_refl _) (by decide) (by simp)
    · rw [leD_rec U]; rfl
    · have := HU2.out; omega
  case round =>
    obtain ⟨L, u, rfl, hown, hL, hu, hl1, hb⟩ := hrel
    have hui : (u : Int) < 18446744073709551616 := by omega
    have HLL := Lib.hid hL
    have HU3 := Lib.hid hu
    clear hL hu
    by_cases h0 : u = 0
    · subst h0
      have hLU : L = leD U := by have := HLL.out; simpa using this
      have hll : L.length ≤ 20 := by rw [hLU]; exact HL.out
      have HLU := Lib.hid hLU
      clear hLU HLL HU3
      by_cases hneg : n < 0
      · go_wp2_with (at_builtin; refine wpList_append_own _ rfl _ _ 44 rfl w.heap.size 5 i0 (.int .u8 0) 1 1 Try.underlying44 hi hz0 hz1 hz2 rfl (by decide) _ _ _ rfl (hown.alloc _) ⟨wr.heap.size, 0, none⟩ 1 1 [bv 45] rfl rfl ?c1 ?c2 ?c3 ?c4 ?c5 ?_)
        case c1 =>
          intro j x hj
          match j, hj with
          | 0, hj =>
            simp at hj; subst hj
            show World.cell? _ ⟨_, 0 + 0, none⟩ = _
            rw [World.cell?_alloc_at _ _ _ _ (by simp)]; rfl
        case c2 => intro x hx; simp at hx; subst hx; rfl
        case c3 => unfold maxLen; omega
        case c4 => omega
        case c5 => have := hb.size; simp; omega
        intro v' w1 hown' hgrow _
        have hb1 : Below w.heap.size w w1 := Below.grown (by have zz := hb.size; refine Below.trans hb ?_; (repeat' (first | with_reducible exact Below.refl _ _ | with_reducible refine Below.drew ?_ | with_reducible refine below_drewN ?_ _ | with_reducible refine Below.alloc ?_ ?_ _ | with_reducible refine Below.setCell ?_ ?_ _ | with_reducible refine Below.trans ?_ (Below.mono (by with_reducible assumption) ?_) | (simp; done) | (simp; omega) | omega))) hgrow (by have := hb.size; simp; omega) (fun j hj => by have := (hown.lt j hj).1; omega)
        clear hgrow hown hb
        obtain ⟨M, hM⟩ : ∃ M, M = L ++ [45] := ⟨_, rfl⟩
        have hMl : M.length = L.length + 1 := by rw [hM]; simp
        have hown : w1.ownsRow w.heap.size 5 1 v' M.length (M.map bv) := by rw [hMl, hM, List.map_append]; exact hown'
        have HM : Hid (M.reverse = fmtL n) := Lib.hid (by rw [hM, HLU.out]; unfold fmtL; rw [if_pos hneg, HU.out]; simp)
        have hm1 : 1 ≤ M.length := by omega
        have hm2 : M.length ≤ 21 := by omega
        clear hown' hM hMl hll HLU hl1
        obtain ⟨g, cap, rfl, hg, hgl⟩ := row_slice hown (by omega)
        go_wp2_with fail
        go_loopw [5, 6] (RRel M g cap w) (fun _ s _ => (intOf s).toNat)
        case atStart => exact ⟨0, M.length - 1, rfl, congrArg (Value.int IntKind.i64) (by omega), by omega, by omega, hown, hb1⟩
        case round =>
          clear hown hb1 hgl
          obtain ⟨i, k, rfl, rfl, hik, h2, hown, hb1⟩ := hrel
          have hfr := fun o => hown.frozenAt o
          by_cases hlt : i < k
          · have ci := hown.cellAt i (by omega)
            have ck := hown.cellAt k (by omega)
            rw [List.getElem?_map, rvL_mid M i i h2 (by omega) (by omega) (by omega)] at ci
            rw [List.getElem?_map, rvL_mid M i k h2 (by omega) (by omega) (by omega)] at ck
            simp only [Option.map_some, bv] at ci ck
            have s1 := (hown.stored i (bv (M.getD k 0))).1
            have s2 := (s1.stored k (bv (M.getD i 0))).1
            have HS2 := Lib.hid s2
            have HK := Lib.hid hik
            clear s1 s2
            go_wp2_with fail
            go_region
            go_wp2_with fail
            go_roundw
            case rel =>
              have hk : k = M.length - 1 - i := by have := HK.out; omega
              refine ⟨i + 1, k - 1, by go_num, congrArg (Value.int IntKind.i64) (by omega), by have := HK.out; omega, by have := HK.out; omega, ?_, ?_⟩
              · have h := HS2.out
                rw [← List.map_set, ← List.map_set, hk] at h
                rw [hk]
                exact h
              · exact ((hb1.setCell (p := ⟨g, i, none⟩) hg _).setCell (p := ⟨g, k, none⟩) hg _).drew
            case measure => simp [intOf]; omega
          · have hd := rvL_done M i h2 (by omega)
            have hconv : (convert 44 9 (.slice (some ⟨g, 0, none⟩) M.length cap)).run Try.prog wr = .ok (.string (fmtS n)) wr := by
              have h := run_convert_bytes_back (P := Try.prog) wr 44 9 5 ⟨g, 0, none⟩ cap M.reverse Try.underlying44 Try.underlying5 Try.underlying9 (fun j hj => by
                have hc := hown.cellAt j (by simpa using hj)
                rw [hd, List.getElem?_map, List.getElem?_eq_getElem hj] at hc
                rw [Addr.add_mid, Nat.zero_add]
                exact hc)
              rw [List.length_reverse] at h
              rw [h, HM.out]
              rfl
            clear hown hfr hik h2 hd
            go_wp2_with fail
            go_ret
            exact ⟨rfl, hb1⟩
      · obtain ⟨M, hM⟩ : ∃ M, M = L := ⟨_, rfl⟩
        subst hM
        have HM : Hid (M.reverse = fmtL n) := Lib.hid (by rw [HLU.out]; unfold fmtL; rw [if_neg hneg, HU.out]; simp)
        have hm1 : 1 ≤ M.length := hl1
        have hm2 : M.length ≤ 21 := by omega
        have hb1 := hb
        clear hll HLU hl1 hb
        obtain ⟨g, cap, rfl, hg, hgl⟩ := row_slice hown (by omega)
        go_wp2_with fail
        go_loopw [5, 6] (RRel M g cap w) (fun _ s _ => (intOf s).toNat)
        case atStart => exact ⟨0, M.length - 1, rfl, congrArg (Value.int IntKind.i64) (by omega), by omega, by omega, hown, hb1⟩
        case round =>
          clear hown hb1 hgl
          obtain ⟨i, k, rfl, rfl, hik, h2, hown, hb1⟩ := hrel
          have hfr := fun o => hown.frozenAt o
          by_cases hlt : i < k
          · have ci := hown.cellAt i (by omega)
            have ck := hown.cellAt k (by omega)
            rw [List.getElem?_map, rvL_mid M i i h2 (by omega) (by omega) (by omega)] at ci
            rw [List.getElem?_map, rvL_mid M i k h2 (by omega) (by omega) (by omega)] at ck
            simp only [Option.map_some, bv] at ci ck
            have s1 := (hown.stored i (bv (M.getD k 0))).1
            have s2 := (s1.stored k (bv (M.getD i 0))).1
            have HS2 := Lib.hid s2
            have HK := Lib.hid hik
            clear s1 s2
            go_wp2_with fail
            go_region
            go_wp2_with fail
            go_roundw
            case rel =>
              have hk : k = M.length - 1 - i := by have := HK.out; omega
              refine ⟨i + 1, k - 1, by go_num, congrArg (Value.int IntKind.i64) (by omega), by have := HK.out; omega, by have := HK.out; omega, ?_, ?_⟩
              · have h := HS2.out
                rw [← List.map_set, ← List.map_set, hk] at h
                rw [hk]
                exact h
              · exact ((hb1.setCell (p := ⟨g, i, none⟩) hg _).setCell (p := ⟨g, k, none⟩) hg _).drew
            case measure => simp [intOf]; omega
          · have hd := rvL_done M i h2 (by omega)
            have hconv : (convert 44 9 (.slice (some ⟨g, 0, none⟩) M.length cap)).run Try.prog wr = .ok (.string (fmtS n)) wr := by
              have h := run_convert_bytes_back (P := Try.prog) wr 44 9 5 ⟨g, 0, none⟩ cap M.reverse Try.underlying44 Try.underlying5 Try.underlying9 (fun j hj => by
                have hc := hown.cellAt j (by simpa using hj)
                rw [hd, List.getElem?_map, List.getElem?_eq_getElem hj] at hc
                rw [Addr.add_mid, Nat.zero_add]
                exact hc)
              rw [List.length_reverse] at h
              rw [h, HM.out]
              rfl
            clear hown hfr hik h2 hd
            go_wp2_with fail
            go_ret
            exact ⟨rfl, hb1⟩
    · have h0' : 0 < u := by omega
      have hll : L.length ≤ 19 := by
        have h1 := HLL.out
        rw [if_neg h0] at h1
        have h2 := congrArg List.length h1
        rw [List.length_append, leD_rec u] at h2
        simp at h2
        have := HL.out
        omega
      go_wp2_with (at_builtin; refine wpList_append_own _ rfl _ _ 44 rfl w.heap.size 5 i0 (.int .u8 0) 1 1 Try.underlying44 hi hz0 hz1 hz2 rfl (by decide) _ _ _ rfl (hown.alloc _) ⟨wr.heap.size, 0, none⟩ 1 1 [bv (dgB (u % 10))] rfl rfl ?c1 ?c2 ?c3 ?c4 ?c5 ?_)
      case c1 =>
        intro j x hj
        match j, hj with
        | 0, hj =>
          simp at hj; subst hj
          show World.cell? _ ⟨_, 0 + 0, none⟩ = _
          rw [World.cell?_alloc_at _ _ _ _ (by simp), ← bv_dig]; rfl
      case c2 => intro x hx; simp at hx; subst hx; rfl
      case c3 => unfold maxLen; omega
      case c4 => omega
      case c5 => have := hb.size; simp; omega
      intro v' w1 hown' hgrow _
      have hb1 : Below w.heap.size w w1 := Below.grown (by have zz := hb.size; refine Below.trans hb ?_; (repeat' (first | with_reducible exact Below.refl _ _ | with_reducible refine Below.drew ?_ | with_reducible refine below_drewN ?_ _ | with_reducible refine Below.alloc ?_ ?_ _ | with_reducible refine Below.setCell ?_ ?_ _ | with_reducible refine Below.trans ?_ (Below.mono (by with_reducible assumption) ?_) | (simp; done) | (simp; omega) | omega))) hgrow (by have := hb.size; simp; omega) (fun j hj => by have := (hown.lt j hj).1; omega)
      clear hgrow hown
      go_wp2
      go_roundw
      case rel =>
        refine ⟨L ++ [dgB (u % 10)], u / 10, congrArg (Value.int IntKind.u64) (by omega), by simpa using hown', ?_, by have := HU3.out; omega, by simp, hb1⟩
        have h1 := HLL.out
        rw [if_neg h0, leD_rec u] at h1
        rw [← h1, List.append_assoc]; rfl
      case measure => simp [intOf]; omega
end Go.Proofs.Ytimonckfibphcaa
