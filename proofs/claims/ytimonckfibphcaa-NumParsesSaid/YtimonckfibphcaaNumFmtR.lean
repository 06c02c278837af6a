/- What Format of the reference returns: the text of the number -/
import Derived.Laws.Concat
import Derived.Test.YtimonckfibphcaaNumFmt
namespace Go.Proofs.Ytimonckfibphcaa
open Go.RowKit
set_option linter.unusedVariables false

attribute [local go_sem] cell_past1 cell_past2 cell_past3 cell_past4 froz_past1 froz_past2 froz_past3

def str (l : List UInt8) : Value := .string ⟨l.toArray⟩
theorem str_add (x y : List UInt8) (hx : x.length ≤ 1000000) (hy : y.length ≤ 1000000) (w : World) : (binOp .add 9 (str x) (str y)).run Try.prog w = .ok (str (x ++ y)) w := by
  unfold str
  rw [binOp_string_add, run_string_add_lists w x y (by omega) (by omega)]
def FRRel (U : Nat) (w : World) (s3 s4 s5 : Value) (wr : World) : Prop :=
  ∃ (S : List UInt8) (u : Nat) (ag : Bool), s3 = str S ∧ s4 = .int .u64 (u : Int) ∧ s5 = .bool ag ∧ u < 18446744073709551616 ∧ (ag = true → (leD u).reverse ++ S = (leD U).reverse) ∧ (ag = false → S = (leD U).reverse) ∧ Below w.heap.size w wr

set_option maxRecDepth 100000 in
set_option maxHeartbeats 4000000 in
theorem ref01_format (n : Int) (w : World) (hn : -9223372036854775808 ≤ n ∧ n ≤ 9223372036854775807) :
    Calls Try.prog 23 #[.int .i64 n] w fun e w' => e = .returned (.string (fmtS n)) ∧ Below w.heap.size w w' := by
  have KS := Lib.hid (fun w => ref01_size n w hn)
  have hU : n.natAbs < 18446744073709551616 := by omega
  have hlen := leD_len20 n.natAbs hU
  generalize hUU : n.natAbs = U at *
  have HU := Lib.hid hUU
  have HL := Lib.hid hlen
  have HU2 := Lib.hid hU
  clear hUU hlen hU
  go_enter Try.func23, Try.ntmps23
  go_wp2_with (go_at_call 33; refine (KS.out _).mono ?_; rintro e w1 ⟨rfl, rfl⟩)
  go_loopw [3, 4, 5] (FRRel U w) (fun _ s a _ => match a with | .bool true => (intOf s).toNat + 1 | _ => 0)
  case atStart => exact ⟨[], U, true, rfl, rfl, rfl, HU2.out, (fun _ => by simp), (fun h => Bool.noConfusion h), Below.refl _ _⟩
  case round =>
    obtain ⟨S, u, ag, rfl, rfl, rfl, hu, hT, hF, hb⟩ := hrel
    have hui : (u : Int) < 18446744073709551616 := by omega
    have HU3 := Lib.hid hu
    clear hu
    cases ag
    · have HS := Lib.hid (hF rfl)
      clear hF hT
      have hSl : S.length ≤ 20 := by rw [HS.out, List.length_reverse]; exact HL.out
      by_cases hneg : n < 0
      · have hadd : ∀ w : World, (binOp .add 9 (.string ⟨#[45]⟩) (str S)).run Try.prog w = .ok (str ([45] ++ S)) w := fun w => str_add [45] S (by simp) (by omega) w
        go_wp2_with fail
        go_ret
        refine ⟨?_, hb⟩
        rw [HS.out]
        unfold fmtS fmtL
        rw [if_pos hneg, HU.out]
        rfl
      · go_wp2_with fail
        go_ret
        refine ⟨?_, hb⟩
        show Ending.returned (str S) = _
        rw [HS.out]
        unfold fmtS fmtL
        rw [if_neg (by omega), HU.out]
        rfl
    · have HS := Lib.hid (hT rfl)
      clear hF hT
      have hSl : S.length ≤ 20 := by
        have h1 := congrArg List.length HS.out
        rw [List.length_append, List.length_reverse, List.length_reverse] at h1
        have := HL.out
        omega
      have hadd : ∀ w : World, (binOp .add 9 (str [dgB (u % 10)]) (str S)).run Try.prog w = .ok (str ([dgB (u % 10)] ++ S)) w := fun w => str_add [dgB (u % 10)] S (by simp) (by omega) w
      clear hSl
      have hconv : (convert 44 9 (.slice (some ⟨wr.heap.size, 0, none⟩) 1 1)).run Try.prog (wr.alloc (.cells #[.int .u8 (48 + (u : Int) % 10)] 5)) = .ok (str [dgB (u % 10)]) (wr.alloc (.cells #[.int .u8 (48 + (u : Int) % 10)] 5)) := by
        have h := run_convert_bytes_back (P := Try.prog) (wr.alloc (.cells #[.int .u8 (48 + (u : Int) % 10)] 5)) 44 9 5 ⟨wr.heap.size, 0, none⟩ 1 [dgB (u % 10)] Try.underlying44 Try.underlying5 Try.underlying9 (fun j hj => by
          have : j = 0 := by simpa using hj
          subst this
          rw [Addr.add_mid, World.cell?_alloc_at _ _ _ _ rfl, bv_dig]
          rfl)
        exact h
      have hbz := hb.size
      by_cases h10 : u / 10 = 0
      · have hg : decide ((0 : Int) < (u : Int) / 10) = false := decide_eq_false (by omega)
        go_wp2_with fail
        go_roundw
        case rel => exact ⟨[dgB (u % 10)] ++ S, u / 10, false, rfl, congrArg (Value.int IntKind.u64) (by omega), rfl, by have := HU3.out; omega, (fun h => Bool.noConfusion h), (fun _ => by rw [← HS.out, leD_rec u, if_pos h10]; simp), hb.alloc hbz _⟩
        case measure => simp
      · have hg : decide ((0 : Int) < (u : Int) / 10) = true := decide_eq_true (by omega)
        go_wp2_with fail
        go_roundw
        case rel => exact ⟨[dgB (u % 10)] ++ S, u / 10, true, rfl, congrArg (Value.int IntKind.u64) (by omega), rfl, by have := HU3.out; omega, (fun _ => by rw [← HS.out, leD_rec u, if_neg h10]; simp), (fun h => Bool.noConfusion h), hb.alloc hbz _⟩
        case measure => simp [intOf]; omega
end Go.Proofs.Ytimonckfibphcaa
