/- Plain facts on motions: a pulse is 0 or the sign of its count; after k ticks -/
import Derived.Test.YtleohgnnbpicjaaDdaPlain
import Derived.Test.YtleohgnnbpicjaaPulTick
import Derived.Test.YtleohgnnbpicjaaPulMade
namespace Go.Proofs.Ytleohgnnbpicjaa
set_option linter.unusedVariables false

def sg (x : Int) : Int := if 0 < x then 1 else if x < 0 then -1 else 0

theorem at_step (n i x : Int) (hn : 1 ≤ n) (hx : ab x ≤ n) : (2 * i * ab x + n) / (2 * n) ≤ (2 * (i + 1) * ab x + n) / (2 * n) ∧ (2 * (i + 1) * ab x + n) / (2 * n) ≤ (2 * i * ab x + n) / (2 * n) + 1 := by
  have hab : 0 ≤ ab x := by unfold ab; omega
  have e : 2 * (i + 1) * ab x = 2 * i * ab x + 2 * ab x := by rw [Int.mul_add, Int.add_mul]; omega
  rw [e]
  generalize 2 * i * ab x = y
  constructor
  · exact Int.ediv_le_ediv (by omega) (by omega)
  · have h3 : (y + 2 * ab x + n) / (2 * n) ≤ (y + n + 1 * (2 * n)) / (2 * n) := Int.ediv_le_ediv (by omega) (by omega)
    rw [Int.add_mul_ediv_right _ _ (by omega)] at h3
    exact h3
theorem pu_one_in (n i x : Int) (hn : 1 ≤ n) (h0 : 0 ≤ i) (h1 : i < n) (hx : ab x ≤ n) : -1 ≤ puM n (i + 1) x ∧ puM n (i + 1) x ≤ 1 := by
  have hs := at_step n i x hn hx
  have c0 : atClamp n (i + 1) = i + 1 := by unfold atClamp; omega
  have c1 : atClamp n i = i := by unfold atClamp; omega
  unfold puM
  rw [if_neg (by omega), show i + 1 - 1 = i from by omega]
  unfold atM
  rw [if_neg (by omega), if_neg (by omega), c0, c1]
  unfold atI
  generalize (2 * i * ab x + n) / (2 * n) = p at *
  generalize (2 * (i + 1) * ab x + n) / (2 * n) = q at *
  split <;> omega
theorem pu_next (n i x : Int) (h0 : 0 ≤ i) (h1 : i < n) : atM n i x + puM n (i + 1) x = atM n (i + 1) x := by
  unfold puM
  rw [if_neg (by omega), show i + 1 - 1 = i from by omega]
  omega
theorem dom_le (a b c d : Int) (h : ddaValid a b c d = true) : ab a ≤ ddaDom a b c d ∧ ab b ≤ ddaDom a b c d ∧ ab c ≤ ddaDom a b c d ∧ ab d ≤ ddaDom a b c d := by
  unfold ddaDom; rw [if_pos h]; unfold dom4; omega
theorem atM_none (n x : Int) (hn : 1 ≤ n) : atM n 0 x = 0 := by
  unfold atM; rw [if_neg (by omega), show atClamp n 0 = 0 from by unfold atClamp; omega, atI_none n x hn]
theorem atM_full (n x : Int) (hn : 1 ≤ n) : atM n n x = x := by
  unfold atM; rw [if_neg (by omega), show atClamp n n = n from by unfold atClamp; omega, atI_full n x hn]

section
variable (n ac en cr ex t : Int)

/-- The interval of step i, for a valid block and possible ticks. -/
theorem plW_ivl (i : Int) (t0 : 1 ≤ t) (t1 : t ≤ 1048576) (i0 : 1 ≤ i) (i1 : i ≤ n) (a0 : 1 ≤ ac) (a1 : ac ≤ 16777216) (c0 : 1 ≤ cr) (c1 : cr ≤ 1099511627776) (e0 : 0 ≤ en) (x0 : 0 ≤ ex) (n1 : n ≤ 16777216) :
    plW n ac en cr ex i t = ivl (sqI n ac en cr ex i) t ∧ 1 ≤ plW n ac en cr ex i t ∧ plW n ac en cr ex i t ≤ 1048576 := by
  have hq := sqI_in n ac en cr ex i a0 a1 c0 c1 e0 x0 n1 i0 i1
  have hi := ivl_in (sqI n ac en cr ex i) t hq.1 (by omega) t0
  have e : plW n ac en cr ex i t = ivl (sqI n ac en cr ex i) t := by
    unfold plW sqV ivV; rw [if_neg (by omega), if_neg (by omega)]
  rw [e]
  exact ⟨rfl, hi.1, by omega⟩

/-- The time at which step i ends. -/
def tEnd (i : Int) : Int := durS n ac en cr ex t i.toNat
theorem tEnd_next (i : Int) (t0 : 1 ≤ t) (t1 : t ≤ 1048576) (i0 : 0 ≤ i) (i1 : i < n) (a0 : 1 ≤ ac) (a1 : ac ≤ 16777216) (c0 : 1 ≤ cr) (c1 : cr ≤ 1099511627776) (e0 : 0 ≤ en) (x0 : 0 ≤ ex) (n1 : n ≤ 16777216) :
    tEnd n ac en cr ex t (i + 1) = tEnd n ac en cr ex t i + plW n ac en cr ex (i + 1) t := by
  obtain ⟨k, rfl⟩ := Int.eq_ofNat_of_zero_le i0
  rw [(plW_ivl n ac en cr ex t ((k : Int) + 1) t0 t1 (by omega) (by omega) a0 a1 c0 c1 e0 x0 n1).1]
  unfold tEnd
  rw [show ((k : Int) + 1).toNat = k + 1 from by omega, Int.toNat_natCast, durS]
theorem tEnd_mono (t0 : 1 ≤ t) (t1 : t ≤ 1048576) (a0 : 1 ≤ ac) (a1 : ac ≤ 16777216) (c0 : 1 ≤ cr) (c1 : cr ≤ 1099511627776) (e0 : 0 ≤ en) (x0 : 0 ≤ ex) (n1 : n ≤ 16777216) :
    ∀ (j : Nat) (i : Int), 0 ≤ i → i + j ≤ n → tEnd n ac en cr ex t i + j ≤ tEnd n ac en cr ex t (i + j)
  | 0, i, _, _ => by simp
  | j + 1, i, h0, h1 => by
    have h := tEnd_mono t0 t1 a0 a1 c0 c1 e0 x0 n1 j i h0 (by omega)
    have e := tEnd_next n ac en cr ex t (i + j) t0 t1 (by omega) (by omega) a0 a1 c0 c1 e0 x0 n1
    have w := (plW_ivl n ac en cr ex t (i + j + 1) t0 t1 (by omega) (by omega) a0 a1 c0 c1 e0 x0 n1).2.1
    rw [show i + ((j + 1 : Nat) : Int) = i + j + 1 from by omega, e]
    omega

/-- What is known of a motion after k ticks. -/
def MInv (k dn wt : Int) : Prop :=
  (0 ≤ dn ∧ dn < n ∧ 1 ≤ wt ∧ wt ≤ plW n ac en cr ex (dn + 1) t ∧ k + wt = tEnd n ac en cr ex t (dn + 1)) ∨ (dn = n ∧ wt = 0 ∧ tEnd n ac en cr ex t n ≤ k)

theorem minv_start (n0 : 1 ≤ n) (t0 : 1 ≤ t) (t1 : t ≤ 1048576) (a0 : 1 ≤ ac) (a1 : ac ≤ 16777216) (c0 : 1 ≤ cr) (c1 : cr ≤ 1099511627776) (e0 : 0 ≤ en) (x0 : 0 ≤ ex) (n1 : n ≤ 16777216) :
    MInv n ac en cr ex t 0 0 (plW n ac en cr ex 1 t) := by
  left
  have w := (plW_ivl n ac en cr ex t 1 t0 t1 (by omega) (by omega) a0 a1 c0 c1 e0 x0 n1).2
  have e := tEnd_next n ac en cr ex t 0 t0 t1 (by omega) (by omega) a0 a1 c0 c1 e0 x0 n1
  have z : tEnd n ac en cr ex t 0 = 0 := rfl
  rw [show (0 : Int) + 1 = 1 from rfl] at *
  exact ⟨by omega, by omega, by omega, by omega, by omega⟩

theorem minv_on (k dn wt : Int) (h : MInv n ac en cr ex t k dn wt) : (plOn n ac en cr ex dn wt t = true ∧ 0 ≤ dn ∧ dn < n ∧ 1 ≤ wt) ∨ (plOn n ac en cr ex dn wt t = false ∧ dn = n ∧ wt = 0) := by
  rcases h with ⟨h1, h2, h3, h4, h5⟩ | ⟨h1, h2, h3⟩
  · left
    exact ⟨by unfold plOn; simp; omega, h1, h2, h3⟩
  · right
    exact ⟨by unfold plOn; simp; omega, h1, h2⟩

theorem minv_tick (k dn wt : Int) (h : MInv n ac en cr ex t k dn wt) (n0 : 1 ≤ n) (t0 : 1 ≤ t) (t1 : t ≤ 1048576) (a0 : 1 ≤ ac) (a1 : ac ≤ 16777216) (c0 : 1 ≤ cr) (c1 : cr ≤ 1099511627776) (e0 : 0 ≤ en) (x0 : 0 ≤ ex) (n1 : n ≤ 16777216) :
    MInv n ac en cr ex t (k + 1) (tkDn n ac en cr ex dn wt t) (tkWt n ac en cr ex dn wt t) := by
  have ho := minv_on n ac en cr ex t k dn wt h
  unfold tkDn tkWt
  rcases ho with ⟨ho, h1, h2, h3⟩ | ⟨ho, h1, h2⟩
  · rcases h with ⟨_, _, _, h4, h5⟩ | ⟨h4, _⟩
    · rw [ho]
      by_cases hw : 1 < wt
      · left
        rw [if_neg (by omega), if_pos rfl, if_pos hw]
        exact ⟨h1, h2, by omega, by omega, by omega⟩
      · have e1 : wt = 1 := by omega
        subst e1
        rw [if_pos ⟨rfl, by omega⟩, if_pos rfl, if_neg hw]
        unfold plNext
        by_cases hl : dn + 1 = n
        · right
          rw [if_pos hl]
          rw [hl] at h5
          exact ⟨hl, rfl, by omega⟩
        · left
          rw [if_neg hl]
          have w := (plW_ivl n ac en cr ex t (dn + 1 + 1) t0 t1 (by omega) (by omega) a0 a1 c0 c1 e0 x0 n1).2
          have e := tEnd_next n ac en cr ex t (dn + 1) t0 t1 (by omega) (by omega) a0 a1 c0 c1 e0 x0 n1
          exact ⟨by omega, by omega, by omega, by omega, by omega⟩
    · omega
  · rcases h with ⟨_, h4, _⟩ | ⟨_, _, h5⟩
    · omega
    · rw [ho]
      right
      rw [if_neg (by simp), if_neg (by simp)]
      exact ⟨h1, h2, by omega⟩

/-- Before the block's duration the motion runs, and at its end it has ended. -/
theorem minv_runs (k dn wt : Int) (h : MInv n ac en cr ex t k dn wt) (hk : k < tEnd n ac en cr ex t n) : plOn n ac en cr ex dn wt t = true ∧ 0 ≤ dn ∧ dn < n ∧ 1 ≤ wt := by
  rcases h with ⟨h1, h2, h3, h4, h5⟩ | ⟨h1, h2, h3⟩
  · exact ⟨by unfold plOn; simp; omega, h1, h2, h3⟩
  · omega
theorem minv_end (k dn wt : Int) (h : MInv n ac en cr ex t k dn wt) (hk : tEnd n ac en cr ex t n ≤ k) (t0 : 1 ≤ t) (t1 : t ≤ 1048576) (a0 : 1 ≤ ac) (a1 : ac ≤ 16777216) (c0 : 1 ≤ cr) (c1 : cr ≤ 1099511627776) (e0 : 0 ≤ en) (x0 : 0 ≤ ex) (n1 : n ≤ 16777216) :
    dn = n ∧ wt = 0 := by
  rcases h with ⟨h1, h2, h3, h4, h5⟩ | ⟨h1, h2, h3⟩
  · have hm := tEnd_mono n ac en cr ex t t0 t1 a0 a1 c0 c1 e0 x0 n1 (n - (dn + 1)).toNat (dn + 1) (by omega) (by omega)
    rw [show dn + 1 + ((n - (dn + 1)).toNat : Int) = n from by omega] at hm
    omega
  · exact ⟨h1, h2⟩

theorem tk_sum (dn wt x : Int) (h : plOn n ac en cr ex dn wt t = true) : atM n dn x + tkPu n ac en cr ex dn wt t x = atM n (tkDn n ac en cr ex dn wt t) x := by
  have h2 := h
  simp [plOn] at h2
  unfold tkPu tkDn
  rw [h]
  by_cases hw : 1 < wt
  · rw [if_neg (by omega), if_neg (by omega)]; omega
  · rw [if_pos ⟨rfl, hw⟩, if_pos ⟨rfl, hw⟩]
    exact pu_next n dn x (by omega) (by omega)
theorem tk_pu_in (dn wt x : Int) (hn : 1 ≤ n) (hx : ab x ≤ n) : -1 ≤ tkPu n ac en cr ex dn wt t x ∧ tkPu n ac en cr ex dn wt t x ≤ 1 := by
  unfold tkPu
  split
  · rename_i h
    have h2 := h.1
    simp [plOn] at h2
    exact pu_one_in n dn x hn (by omega) (by omega) hx
  · omega
theorem tk_dn_in (dn wt : Int) (h : plOn n ac en cr ex dn wt t = true) : 0 ≤ tkDn n ac en cr ex dn wt t ∧ tkDn n ac en cr ex dn wt t ≤ n := by
  have h2 := h
  simp [plOn] at h2
  unfold tkDn
  split <;> omega
end
end Go.Proofs.Ytleohgnnbpicjaa
