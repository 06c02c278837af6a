/- What few returns (at most 300 duties), and how a slice of ints that came in is named -/
import Derived.Test.YthpomgkeoogamaaProg
import Derived.WalkKit
import Derived.WalkLawsBesides
import Derived.WalkSpells
import Derived.Lib.Hide
import Derived.Test.YthpomgkeoogamaaKit3
import Derived.Test.YthpomgkeoogamaaL48Awake
namespace Go.Proofs.Ythpomgkeoogamaa
open Go.RowKit
set_option linter.unusedVariables false

theorem intsZ_of {w : World} {a : Option Addr} {len : Nat} (h : IntsB w a len) : ∃ z, ∀ n, n ≤ len → IntsZ w a n z := by
  by_cases h0 : 0 < len
  · obtain ⟨b, off, e, hb, hc⟩ := h h0
    refine ⟨fun k => if hk : k < len then Classical.choose (hc k hk) else 0, fun n hn _ => ⟨b, off, e, hb, fun k hk => ?_⟩⟩
    have hk' : k < len := by omega
    simp only [hk', dif_pos]
    exact (Classical.choose_spec (hc k hk')).1
  · exact ⟨fun _ => 0, fun n hn h1 => absurd h1 (by omega)⟩

theorem intsZ_below {w w1 : World} {a : Option Addr} {len : Nat} {z : Nat → Int} (h : IntsZ w a len z) (hb : Below w.heap.size w w1) : IntsZ w1 a len z := fun h0 => by
  obtain ⟨b, off, e, hbl, hc⟩ := h h0
  exact ⟨b, off, e, Nat.lt_of_lt_of_le hbl hb.size, fun k hk => (hb.cell (p := ⟨b, off + k, none⟩) hbl).trans (hc k hk)⟩

theorem row_zero {w : World} {base : Nat} {e : TypeId} {v : Value} {xs : List Value} (h : w.ownsRow base e 1 v 0 xs) : ∃ r c, v = .slice r 0 c := by
  obtain ⟨h1, h2⟩ := h
  rcases h2 with ⟨h3, _⟩ | ⟨g, cap, cur, hv, _⟩
  · exact ⟨none, 0, h3⟩
  · exact ⟨_, cap, hv⟩

set_option maxRecDepth 100000 in
set_option maxHeartbeats 4000000 in
theorem law48_few (s : Option Addr) (len cap : Nat) (z : Nat → Int) (w : World) (hl : len ≤ 9223372036854775807) (hlc : len ≤ cap) (hc : cap ≤ 9223372036854775807) (hz : IntsZ w s len z) :
    Calls Try.prog 26 #[.slice s len cap] w fun e w' => e = .returned (.slice s (min len 300) cap) ∧ w = w' := by
  by_cases h : 300 < len
  · obtain ⟨b, off, rfl, hb, hcl⟩ := hz (by omega)
    clear hcl
    have e : min len 300 = 300 := by omega
    rw [e]
    clear e
    go_enter Try.func26, Try.ntmps26
    go_wp2
    all_goals go_ret
    all_goals exact ⟨by simp, rfl⟩
  · have e : min len 300 = len := by omega
    rw [e]
    clear e
    go_enter Try.func26, Try.ntmps26
    go_wp2
    all_goals go_ret
    all_goals exact ⟨by simp, rfl⟩

theorem and_five {a b c d e : Prop} (h : a ∧ b ∧ c ∧ d) (h2 : e) : a ∧ b ∧ c ∧ d ∧ e := ⟨h.1, h.2.1, h.2.2.1, h.2.2.2, h2⟩

theorem thList_get (p l m a t : Int) (z : Nat → Int) (n k : Nat) (h : k < n) : (thList p l m a t z n)[k]? = some (.int .i64 (thRun p l m a t z (k + 1))) := by
  unfold thList; simp [h]
end Go.Proofs.Ythpomgkeoogamaa
