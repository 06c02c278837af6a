/- Long division: what Div64 returns -/
import Derived.Deep.QuietTactic
import Derived.BigQuiet
import Derived.LoopTactic
import Derived.Deep.DeepCutAuto
import Derived.Deep.CutBlock
import Derived.Test.YtkiadcgdmeebmaaNumDivP
import Derived.Test.YtkiadcgdmeebmaaNumMul
namespace Go.Proofs.Ytkiadcgdmeebmaa
open Go.RowKit
set_option linter.unusedVariables false

set_option maxRecDepth 1000000 in
set_option maxHeartbeats 4000000 in
theorem bits_div64_hi (hi lo y : Nat) (w : World) (h0 : 1 ≤ hi) (h1 : hi < y) (h2 : y < 18446744073709551616) (h3 : lo < 18446744073709551616) :
    Calls Try.prog 55 #[.int .u64 (hi : Int), .int .u64 (lo : Int), .int .u64 (y : Int)] w fun e w' => e = .returned (.tuple #[.int .u64 (((hi * 18446744073709551616 + lo) / y : Nat) : Int), .int .u64 (((hi * 18446744073709551616 + lo) % y : Nat) : Int)]) ∧ w = w' := by
  have hy0 : ((y : Int) == 0) = false := by simp; omega
  have hh0 : ((hi : Int) == 0) = false := by simp; omega
  have hyh : decide ((y : Int) ≤ hi) = false := by simp; omega
  go_enter Try.func55, Try.ntmps55
  go_upto_region 8 with (go_at_call 57; refine (bits_lead _ _ (by omega) h2).mono ?_; rintro e w1 ⟨⟨s, rfl, hs, hl, hu⟩, rfl⟩)
  go_upto_region 15 with (fail)
  obtain ⟨d1, d2, d3⟩ := dg_shift hi lo y s h1 h3 hs
  have e1 : IntKind.u64.wrap ((y : Int) * 2 ^ s) = ((y * 2 ^ s : Nat) : Int) := by rw [two_pow_cast, mulN, wrapN _ hu]
  have e2 : bits .or .u64 (IntKind.u64.wrap ((hi : Int) * 2 ^ s)) ((lo : Int) / 2 ^ (64 - s)) = ((hi * 2 ^ s + lo / 2 ^ (64 - s) : Nat) : Int) := by
    rw [two_pow_cast, two_pow_cast, mulN, wrapN _ (Nat.lt_of_le_of_lt (Nat.le_add_right _ _) (Nat.lt_trans d2 hu)), ← Int.natCast_ediv, or_add _ _ _ d3 (Nat.lt_trans d2 hu)]
  have e3 : IntKind.u64.wrap ((lo : Int) * 2 ^ s) = ((lo * 2 ^ s % 18446744073709551616 : Nat) : Int) := by rw [two_pow_cast, mulN, wrapM]
  have hZ : lo * 2 ^ s % 18446744073709551616 < 18446744073709551616 := Nat.mod_lt _ (by omega)
  have hR : (hi * 18446744073709551616 + lo) / y = ((hi * 2 ^ s + lo / 2 ^ (64 - s)) * 18446744073709551616 + lo * 2 ^ s % 18446744073709551616) / (y * 2 ^ s) ∧ (hi * 18446744073709551616 + lo) % y = ((hi * 2 ^ s + lo / 2 ^ (64 - s)) * 18446744073709551616 + lo * 2 ^ s % 18446744073709551616) % (y * 2 ^ s) / 2 ^ s := by
    rw [d1]
    have hp := Nat.two_pow_pos s
    exact ⟨(Nat.mul_div_mul_right _ _ hp).symm, by rw [Nat.mul_mod_mul_right, Nat.mul_div_cancel _ hp]⟩
  simp only [e1, e2, e3]
  clear e1 e2 e3 d1 d3
  generalize hi * 2 ^ s + lo / 2 ^ (64 - s) = U at *
  generalize lo * 2 ^ s % 18446744073709551616 = Z at *
  generalize y * 2 ^ s = Y at *
  simp only [maskN Y hu, maskN Z hZ, divN]
  obtain ⟨t1, t2⟩ := dg_two U Z Y d2 hZ hu
  rw [← t1, ← t2] at hR
  have HR := Lib.hid hR
  clear hR t1 t2
  obtain ⟨a1, a2, a3⟩ := dg_facts U (Z / 4294967296) Y d2 (by omega)
  obtain ⟨b1, b2, b3⟩ := dg_facts (dgR U (Z / 4294967296) Y) (Z % 4294967296) Y a2 (by omega)
  generalize dgR (dgR U (Z / 4294967296) Y) (Z % 4294967296) Y = R0 at *
  generalize dgQ (dgR U (Z / 4294967296) Y) (Z % 4294967296) Y = Q0 at *
  generalize dgR U (Z / 4294967296) Y = R1 at *
  generalize dgQ U (Z / 4294967296) Y = Q1 at *
  have hz1 : Z / 4294967296 < 4294967296 := by omega
  have hz0 : Z % 4294967296 < 4294967296 := by omega
  generalize Z / 4294967296 = z1 at *
  generalize Z % 4294967296 = z0 at *
  have hY := (Nat.div_add_mod' Y 4294967296).symm
  have hy1 : 2147483648 ≤ Y / 4294967296 := by omega
  have hy1' : Y / 4294967296 < 4294967296 := by omega
  have hy0' : Y % 4294967296 < 4294967296 := by omega
  generalize Y / 4294967296 = y1 at *
  generalize Y % 4294967296 = y0 at *
  have a3' : U * 4294967296 + z1 = Q1 * (y1 * 4294967296 + y0) + R1 := by rw [← hY]; exact a3
  have b3' : R1 * 4294967296 + z0 = Q0 * (y1 * 4294967296 + y0) + R0 := by rw [← hY]; exact b3
  have g1 := dg_guess U y1 y0 (by rw [← hY]; exact d2) hy0' hy1
  have g2 := dg_guess_ge U z1 y1 y0 Q1 R1 (by omega) hz1 a3'
  have g3 := Nat.div_add_mod' U y1
  have g4 := Nat.mod_lt U (show y1 > 0 by omega)
  have g5 : (U : Int) / (y1 : Int) = ((U / y1 : Nat) : Int) := (Int.natCast_ediv _ _).symm
  generalize U / y1 = q at *
  generalize U % y1 = r at *
  have g6 : IntKind.u64.wrap ((U : Int) - IntKind.u64.wrap ((q : Int) * (y1 : Int))) = (r : Int) := by rw [mulN, wrapN _ (by omega), show (U : Int) - ((q * y1 : Nat) : Int) = (r : Int) by omega, wrapN _ (by omega)]
  have HG := Lib.hid g3
  have A3 := Lib.hid a3'
  have B3 := Lib.hid b3'
  have HY := Lib.hid hY
  clear g3 a3 b3 a3' b3' hY
  have RY1 : Hid (R1 < y1 * 4294967296 + y0) := Lib.hid (by rw [← HY.out]; exact a2)
  have RY0 : Hid (R0 < y1 * 4294967296 + y0) := Lib.hid (by rw [← HY.out]; exact b2)
  have hw1 := rem_wraps U z1 (Q1 * Y) R1 (by rw [HY.out]; exact A3.out) (by omega)
  have hw0 := rem_wraps R1 z0 (Q0 * Y) R0 (by rw [HY.out]; exact B3.out) (by omega)
  rw [Int.natCast_mul] at hw1 hw0
  have f1 := dg_guess R1 y1 y0 RY1.out hy0' hy1
  have f2 := dg_guess_ge R1 z0 y1 y0 Q0 R0 (by omega) hz0 B3.out
  have f3 := Nat.div_add_mod' R1 y1
  have f4 := Nat.mod_lt R1 (show y1 > 0 by omega)
  have f5 : (R1 : Int) / (y1 : Int) = ((R1 / y1 : Nat) : Int) := (Int.natCast_ediv _ _).symm
  have f8 : ((R1 / y1 : Nat) : Int) * (y1 : Int) ≤ (R1 : Int) := by rw [mulN]; omega
  have R1b : (R1 : Int) < 18446744073709551616 := by omega
  have Q1b : (Q1 : Int) < 4294967296 := by omega
  have Q0b : (Q0 : Int) < 4294967296 := by omega
  have Z1b : (z1 : Int) < 4294967296 := by omega
  have Z0b : (z0 : Int) < 4294967296 := by omega
  have Y1p : (1 : Int) ≤ (y1 : Int) := by omega
  have F3 : Hid (R1 / y1 * y1 + R1 % y1 = R1) := Lib.hid f3
  have f6 : (R1 : Int) - ((R1 / y1 : Nat) : Int) * (y1 : Int) = ((R1 % y1 : Nat) : Int) := by rw [mulN]; omega
  have W1 := Lib.hid hw1
  have W0 := Lib.hid hw0
  have F5 := Lib.hid f5
  have F6 := Lib.hid f6
  have F8 := Lib.hid f8
  clear hw1 hw0 f3 f5 f6 f8 h0 h1 h2 h3 hy0 hh0 hyh hl hu d2 hZ a1 a2 b1 b2 hy1
  generalize hqq : R1 / y1 = q1 at *
  generalize hrr : R1 % y1 = r1 at *
  clear hqq hrr
  go_upto_block 0 with (fail)
  go_cut [15] (fun s wx => s = .int .u64 (Q1 : Int) ∧ w = wx)
  case first =>
    have YY := Lib.hid hy0'
    clear HR HY
    go_wp2_with fail
    go_loop [15, 16] (fun s t => ∃ q r : Nat, s = .int .u64 (q : Int) ∧ t = .int .u64 (r : Int) ∧ q * y1 + r = U ∧ Q1 ≤ q ∧ q ≤ 4294967297 ∧ r < 4294967296) (fun s _ => (intOf s).toNat)
    case atStart => exact ⟨q, r, rfl, rfl, HG.out, by omega, by omega, by omega⟩
    case round =>
      obtain ⟨q, r, rfl, rfl, i1, i2, i3, i4⟩ := hrel
      have I1 := Lib.hid i1
      have I2 := Lib.hid i2
      have I3 : (q : Int) ≤ 4294967297 := by omega
      have I4 : (r : Int) < 4294967296 := by omega
      have Y1 : (y1 : Int) < 4294967296 := by omega
      have Y0 : (y0 : Int) < 4294967296 := by omega
      have Z1 : (z1 : Int) < 4294967296 := by omega
      by_cases hq : 4294967296 ≤ q
      · have HQ : (4294967296 : Int) ≤ (q : Int) := by omega
        have HN : Hid (Q1 + 1 ≤ q) := Lib.hid (by omega)
        have hq1 : 1 ≤ q := by omega
        clear i1 i2 i3 i4 hy1' hy0' hz1 f1 f2 f4 hz0 g5 g6 R1b Q1b Q0b Z1b Z0b Y1p hq g1 g2 g4
        go_upto_region 20 with (fail)
        by_cases hb : (4294967296 : Int) ≤ (r : Int) + (y1 : Int)
        · go_wp2_with fail
          go_meet
          refine ⟨?_, rfl⟩
          have := dg_break q r y1 y0 U z1 Q1 R1 I1.out A3.out RY1.out YY.out hq1 (by omega) HN.out (by omega)
          exact congrArg (Value.int IntKind.u64) (by omega)
        · go_wp2_with fail
          go_round
          case rel => exact ⟨q - 1, r + y1, congrArg (Value.int IntKind.u64) (by omega), congrArg (Value.int IntKind.u64) (by omega), dg_next q r y1 U I1.out hq1, by have := HN.out; omega, by omega, by omega⟩
          case measure => simp [intOf]; omega
      · have HQ : (q : Int) < 4294967296 := by omega
        have hp := dg_bound2 q y0 (by omega) (by omega)
        have HP : (q : Int) * (y0 : Int) ≤ 18446744065119617025 := by rw [mulN]; omega
        have HP0 : 0 ≤ (q : Int) * (y0 : Int) := by rw [mulN]; omega
        by_cases ht : 4294967296 * r + z1 < q * y0
        · have HN : Hid (Q1 + 1 ≤ q) := Lib.hid (dg_more q r y1 y0 U z1 Q1 R1 i1 A3.out ht)
          have hq1 : 1 ≤ q := by have := HN.out; omega
          have HT : (4294967296 : Int) * (r : Int) + (z1 : Int) < (q : Int) * (y0 : Int) := by rw [mulN]; omega
          clear i1 i2 i3 i4 hy1' hy0' hz1 f1 f2 f4 hz0 g5 g6 R1b Q1b Q0b Z1b Z0b Y1p hq g1 g2 g4 hp ht
          go_upto_region 20 with (fail)
          by_cases hb : (4294967296 : Int) ≤ (r : Int) + (y1 : Int)
          · go_wp2_with fail
            go_meet
            refine ⟨?_, rfl⟩
            have := dg_break q r y1 y0 U z1 Q1 R1 I1.out A3.out RY1.out YY.out hq1 (by omega) HN.out (by omega)
            exact congrArg (Value.int IntKind.u64) (by omega)
          · go_wp2_with fail
            go_round
            case rel => exact ⟨q - 1, r + y1, congrArg (Value.int IntKind.u64) (by omega), congrArg (Value.int IntKind.u64) (by omega), dg_next q r y1 U I1.out hq1, by have := HN.out; omega, by omega, by omega⟩
            case measure => simp [intOf]; omega
        · have HN : Hid (q = Q1) := Lib.hid (Nat.le_antisymm (dg_less q r y1 y0 U z1 Q1 R1 i1 A3.out RY1.out (by omega)) i2)
          have HT : decide ((4294967296 : Int) * (r : Int) + (z1 : Int) < (q : Int) * (y0 : Int)) = false := decide_eq_false (by rw [mulN]; omega)
          have HQf : decide ((4294967296 : Int) ≤ (q : Int)) = false := decide_eq_false (by omega)
          clear i1 i2 i3 i4 hy1' hy0' hz1 f1 f2 f4 hz0 g5 g6 R1b Q1b Q0b Z1b Z0b Y1p hq g1 g2 g4 hp ht
          go_wp2_with fail
          go_meet
          exact ⟨congrArg (Value.int IntKind.u64) (congrArg Nat.cast HN.out), rfl⟩
  case rest =>
    obtain ⟨rfl, rfl⟩ := hcut
    clear HG g1 g2 g4 g5 g6 hz1
    have hw1 := W1.out
    have f5 := F5.out
    have w5 : IntKind.u64.wrap (q1 : Int) = (q1 : Int) := wrapN _ (by omega)
    have w6 : IntKind.u64.wrap ((R1 : Int) - IntKind.u64.wrap ((q1 : Int) * (y1 : Int))) = (r1 : Int) := by
      rw [IntKind.wrap_u64, IntKind.wrap_u64]
      have h8 := F8.out
      have h6 := F6.out
      have h9 : 0 ≤ (q1 : Int) * (y1 : Int) := by rw [mulN]; omega
      omega
    clear W1 F5 F6 F8
    have HY1 := Lib.hid hy1'
    have HY0 := Lib.hid hy0'
    have HZ0 := Lib.hid hz0
    have K1 := Lib.hid f1
    have K2 := Lib.hid f2
    have K4 := Lib.hid f4
    clear hy1' hy0' hz0 f1 f2 f4
    go_upto_block 2 with (fail)
    have hy1' := HY1.out
    have hy0' := HY0.out
    have hz0 := HZ0.out
    have f1 := K1.out
    have f2 := K2.out
    have f4 := K4.out
    clear hw1 f5 w5 w6 HY1 HY0 HZ0 K1 K2 K4
    go_cut [18] (fun s wx => s = .int .u64 (Q0 : Int) ∧ w = wx)
    case first =>
      have YY := Lib.hid hy0'
      clear HR HY W0
      go_wp2_with fail
      go_loop [18, 16] (fun s t => ∃ q r : Nat, s = .int .u64 (q : Int) ∧ t = .int .u64 (r : Int) ∧ q * y1 + r = R1 ∧ Q0 ≤ q ∧ q ≤ 4294967297 ∧ r < 4294967296) (fun s _ => (intOf s).toNat)
      case atStart => exact ⟨q1, r1, rfl, rfl, F3.out, by omega, by omega, by omega⟩
      case round =>
        obtain ⟨q, r, rfl, rfl, i1, i2, i3, i4⟩ := hrel
        have I1 := Lib.hid i1
        have I2 := Lib.hid i2
        have I3 : (q : Int) ≤ 4294967297 := by omega
        have I4 : (r : Int) < 4294967296 := by omega
        have Y1 : (y1 : Int) < 4294967296 := by omega
        have Y0 : (y0 : Int) < 4294967296 := by omega
        have Z1 : (z0 : Int) < 4294967296 := by omega
        by_cases hq : 4294967296 ≤ q
        · have HQ : (4294967296 : Int) ≤ (q : Int) := by omega
          have HN : Hid (Q0 + 1 ≤ q) := Lib.hid (by omega)
          have hq1 : 1 ≤ q := by omega
          clear i1 i2 i3 i4 hy1' hy0' hz0 R1b Q1b Q0b Z1b Z0b Y1p hq f1 f2 f4
          go_upto_region 27 with (fail)
          by_cases hb : (4294967296 : Int) ≤ (r : Int) + (y1 : Int)
          · go_wp2_with fail
            go_meet
            refine ⟨?_, rfl⟩
            have := dg_break q r y1 y0 R1 z0 Q0 R0 I1.out B3.out RY0.out YY.out hq1 (by omega) HN.out (by omega)
            exact congrArg (Value.int IntKind.u64) (by omega)
          · go_wp2_with fail
            go_round
            case rel => exact ⟨q - 1, r + y1, congrArg (Value.int IntKind.u64) (by omega), congrArg (Value.int IntKind.u64) (by omega), dg_next q r y1 R1 I1.out hq1, by have := HN.out; omega, by omega, by omega⟩
            case measure => simp [intOf]; omega
        · have HQ : (q : Int) < 4294967296 := by omega
          have hp := dg_bound2 q y0 (by omega) (by omega)
          have HP : (q : Int) * (y0 : Int) ≤ 18446744065119617025 := by rw [mulN]; omega
          have HP0 : 0 ≤ (q : Int) * (y0 : Int) := by rw [mulN]; omega
          by_cases ht : 4294967296 * r + z0 < q * y0
          · have HN : Hid (Q0 + 1 ≤ q) := Lib.hid (dg_more q r y1 y0 R1 z0 Q0 R0 i1 B3.out ht)
            have hq1 : 1 ≤ q := by have := HN.out; omega
            have HT : (4294967296 : Int) * (r : Int) + (z0 : Int) < (q : Int) * (y0 : Int) := by rw [mulN]; omega
            clear i1 i2 i3 i4 hy1' hy0' hz0 R1b Q1b Q0b Z1b Z0b Y1p hq f1 f2 f4 hp ht
            go_upto_region 27 with (fail)
            by_cases hb : (4294967296 : Int) ≤ (r : Int) + (y1 : Int)
            · go_wp2_with fail
              go_meet
              refine ⟨?_, rfl⟩
              have := dg_break q r y1 y0 R1 z0 Q0 R0 I1.out B3.out RY0.out YY.out hq1 (by omega) HN.out (by omega)
              exact congrArg (Value.int IntKind.u64) (by omega)
            · go_wp2_with fail
              go_round
              case rel => exact ⟨q - 1, r + y1, congrArg (Value.int IntKind.u64) (by omega), congrArg (Value.int IntKind.u64) (by omega), dg_next q r y1 R1 I1.out hq1, by have := HN.out; omega, by omega, by omega⟩
              case measure => simp [intOf]; omega
          · have HN : Hid (q = Q0) := Lib.hid (Nat.le_antisymm (dg_less q r y1 y0 R1 z0 Q0 R0 i1 B3.out RY0.out (by omega)) i2)
            have HT : decide ((4294967296 : Int) * (r : Int) + (z0 : Int) < (q : Int) * (y0 : Int)) = false := decide_eq_false (by rw [mulN]; omega)
            have HQf : decide ((4294967296 : Int) ≤ (q : Int)) = false := decide_eq_false (by omega)
            clear i1 i2 i3 i4 hy1' hy0' hz0 R1b Q1b Q0b Z1b Z0b Y1p hq f1 f2 f4 hp ht
            go_wp2_with fail
            go_meet
            exact ⟨congrArg (Value.int IntKind.u64) (congrArg Nat.cast HN.out), rfl⟩
    case rest =>
      obtain ⟨rfl, rfl⟩ := hcut
      have hw0 := W0.out
      clear W0 F3 f1 f2 f4 hz0 hy1' hy0'
      go_wp2_with fail
      go_ret2
      refine ⟨ret_int2 ?_ ?_, rfl⟩
      · rw [HR.out.1]
        clear hw0
        simp
      · rw [HR.out.2, two_pow_cast, Int.natCast_ediv]

theorem bits_div64_lo (lo y : Nat) (w : World) (h1 : 1 ≤ y) (h2 : y < 18446744073709551616) (h3 : lo < 18446744073709551616) :
    Calls Try.prog 55 #[.int .u64 0, .int .u64 (lo : Int), .int .u64 (y : Int)] w fun e w' => e = .returned (.tuple #[.int .u64 ((lo / y : Nat) : Int), .int .u64 ((lo % y : Nat) : Int)]) ∧ Below w.heap.size w w' := by
  have hy0 : ((y : Int) == 0) = false := by simp; omega
  have hyh : decide ((y : Int) ≤ 0) = false := by simp; omega
  have hy1 : (1 : Int) ≤ (y : Int) := by omega
  have H3 := Lib.hid h3
  clear h1 h2 h3
  go_enter Try.func55, Try.ntmps55
  go_wp2_with fail
  go_quiet (fail)
  all_goals go_wp2_with fail
  all_goals go_ret2
  all_goals refine ⟨ret_int2 ?_ ?_, by (repeat' (first | with_reducible exact Below.refl _ _ | with_reducible refine Below.drew ?_ | with_reducible refine below_drewN ?_ _ | with_reducible refine Below.alloc ?_ ?_ _ | with_reducible refine Below.setCell ?_ ?_ _ | with_reducible refine Below.trans ?_ (Below.mono (by with_reducible assumption) ?_) | (simp; done) | (simp; omega) | omega))⟩
  all_goals first | (rw [← Int.natCast_ediv]; exact wrapN _ (Nat.lt_of_le_of_lt (Nat.div_le_self lo y) H3.out)) | (rw [Int.natCast_ediv]; done) | (rw [Int.natCast_emod]; done) | (rw [← Int.natCast_emod]; exact wrapN _ (Nat.lt_of_le_of_lt (Nat.mod_le lo y) H3.out)) | (simp; done)
theorem bits_div64 (hi lo y : Nat) (w : World) (h1 : hi < y) (h2 : y < 18446744073709551616) (h3 : lo < 18446744073709551616) :
    Calls Try.prog 55 #[.int .u64 (hi : Int), .int .u64 (lo : Int), .int .u64 (y : Int)] w fun e w' => e = .returned (.tuple #[.int .u64 (((hi * 18446744073709551616 + lo) / y : Nat) : Int), .int .u64 (((hi * 18446744073709551616 + lo) % y : Nat) : Int)]) ∧ Below w.heap.size w w' := by
  rcases Nat.eq_zero_or_pos hi with rfl | h0
  · rw [Nat.zero_mul, Nat.zero_add]
    exact bits_div64_lo lo y w (by omega) h2 h3
  · exact (bits_div64_hi hi lo y w h0 h1 h2 h3).mono fun e w' h => ⟨h.1, h.2 ▸ Below.refl _ _⟩
end Go.Proofs.Ytkiadcgdmeebmaa
