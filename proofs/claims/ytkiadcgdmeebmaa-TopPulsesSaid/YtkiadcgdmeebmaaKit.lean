/- Small lemmas for the frames of the laws: plain aggregates opened by their cells, a post behind a call that leaves old memory alone -/
import Derived.WalkKit
import Derived.ProofKit
import Derived.OpenShut
import Derived.Below
import Derived.ChangeSame
import Derived.Carry
import Derived.Deep.Draws
namespace Go.Proofs.Ytkiadcgdmeebmaa
open Go.RowKit Go.WideShapes Go.ChangeShapes

section
variable {P : Program} {w : World} {r : Reach} {base : Nat}

def isAgg (P : Program) (t : TypeId) : Bool := match P.underlying t with | some (.struct _) => true | some (.array _ _) => true | _ => false

theorem flat_open {t : TypeId} {v : Value} {ts : List TypeId} {n : Nat} (hcomp : isAgg P t = true) (hts : P.cellTypes P.depth t = some ts) (hC : P.cellsOf t = n) (hlen : ts.length = n)
    (h : Value.okWide P w r base t v) : ∃ cs : Array Value, v = .agg cs ∧ cs.size = n ∧ ∀ (i : Nat) (x : Value), cs[i]? = some x → ∃ u, ts[i]? = some u ∧ Cell.okWide P w r base u x := by
  unfold isAgg at hcomp
  unfold Value.okWide at h
  split at h
  case h_3 h1 h2 =>
    split at hcomp
    · rename_i h3; exact absurd h3 (h1 _)
    · rename_i h3; exact absurd h3 (h2 _ _)
    · cases hcomp
  all_goals
    obtain ⟨cs, h1, h2, ts', h3, h4, h5⟩ := h
    refine ⟨cs, h1, h2.trans hC, fun i x hx => ?_⟩
    obtain ⟨u, hu, hc⟩ := h5 i x hx
    rw [hts] at h3
    cases h3
    have hi : i < ts.length := by
      have := (Array.getElem?_eq_some_iff.1 hx).1
      omega
    rw [Nat.mod_eq_of_lt hi] at hu
    exact ⟨u, hu, hc⟩

theorem cell_i64 {u : TypeId} {x : Value} (hu : P.underlying u = some (.int .i64)) (h : Cell.okWide P w r base u x) : ∃ a : Int, x = .int .i64 a ∧ -9223372036854775808 ≤ a ∧ a ≤ 9223372036854775807 := by
  unfold Cell.okWide at h
  rw [hu] at h
  cases x <;> simp_all [Cell.ok, IntKind.has, IntKind.min, IntKind.max, IntKind.signed, IntKind.bits]

theorem cell_bool {u : TypeId} {x : Value} (hu : P.underlying u = some .bool) (h : Cell.okWide P w r base u x) : ∃ b : Bool, x = .bool b := by
  unfold Cell.okWide at h
  rw [hu] at h
  cases x <;> simp_all [Cell.ok]

theorem flat_ints {t u : TypeId} {v : Value} {n : Nat} (hcomp : isAgg P t = true) (hts : P.cellTypes P.depth t = some (List.replicate n u)) (hC : P.cellsOf t = n) (hu : P.underlying u = some (.int .i64))
    (h : Value.okWide P w r base t v) : ∃ f : Nat → Int, (∀ i, -9223372036854775808 ≤ f i ∧ f i ≤ 9223372036854775807) ∧ v = .agg ((List.range n).map fun i => Value.int .i64 (f i)).toArray := by
  obtain ⟨cs, rfl, hn, hc⟩ := flat_open hcomp hts hC (by simp) h
  have hall : ∀ i, ∃ a : Int, (i < n → cs[i]? = some (.int .i64 a)) ∧ -9223372036854775808 ≤ a ∧ a ≤ 9223372036854775807 := by
    intro i
    by_cases hi : i < n
    · have hx : cs[i]? = some (cs[i]'(by omega)) := Array.getElem?_eq_getElem (by omega)
      obtain ⟨u', hu', hk⟩ := hc i _ hx
      rw [List.getElem?_replicate, if_pos hi] at hu'
      cases hu'
      obtain ⟨a, ha, hb⟩ := cell_i64 hu hk
      exact ⟨a, fun _ => by rw [hx, ha], hb⟩
    · exact ⟨0, fun h => absurd h hi, by omega, by omega⟩
  refine ⟨fun i => Classical.choose (hall i), fun i => (Classical.choose_spec (hall i)).2, ?_⟩
  congr 1
  apply Array.ext_getElem?
  intro i
  by_cases hi : i < n
  · rw [(Classical.choose_spec (hall i)).1 hi]
    simp [hi]
  · rw [Array.getElem?_eq_none (by omega), Array.getElem?_eq_none (by simp; omega)]

theorem int_open {t : TypeId} {v : Value} (ht : P.underlying t = some (.int .i64)) (h : Value.okWide P w r base t v) : ∃ a : Int, v = .int .i64 a ∧ -9223372036854775808 ≤ a ∧ a ≤ 9223372036854775807 := by
  unfold Value.okWide at h
  rw [ht] at h
  exact cell_i64 ht h
end

theorem ret_int {k : IntKind} {a b : Int} (h : a = b) : Ending.returned (.int k a) = .returned (.int k b) := by rw [h]
theorem ret_bool {a b : Bool} (h : a = b) : Ending.returned (.bool a) = .returned (.bool b) := by rw [h]
theorem ret_int2 {k j : IntKind} {a b c d : Int} (h : a = b) (h2 : c = d) : Ending.returned (.tuple #[.int k a, .int j c]) = .returned (.tuple #[.int k b, .int j d]) := by rw [h, h2]

/-- An int slice that is only read: nil, or its elements stand in an old block. -/
def Ints (w : World) (a : Option Addr) (len : Nat) : Prop := 0 < len → ∃ b off, a = some ⟨b, off, none⟩ ∧ b < w.heap.size ∧ ∀ k, k < len → ∃ z, w.cell? ⟨b, off + k, none⟩ = some (.int .i64 z)

/-- Block b holds c, and is not frozen. -/
def Live (w : World) (b : Nat) (c : Array Value) : Prop := b < w.heap.size ∧ (∀ o, w.cell? ⟨b, o, none⟩ = c[o]?) ∧ ∀ o, w.frozen? ⟨b, o, none⟩ = false
theorem live_new {w : World} {b : Nat} (c : Array Value) (t : TypeId) (hb : w.heap.size = b) : Live (w.alloc (.cells c t)) b c := by
  subst hb
  exact ⟨by simp, fun o => World.cell?_alloc_mark w c t (0, 0) o, fun o => by simp [go_sem]⟩
theorem live_alloc {w : World} {b : Nat} {c : Array Value} (h : Live w b c) (o : Obj) : Live (w.alloc o) b c :=
  ⟨by simp; exact Nat.lt_succ_of_lt h.1, fun i => by rw [World.cell?_alloc_lt _ _ ⟨b, i, none⟩ h.1]; exact h.2.1 i, fun i => by
    have hf : (w.alloc o).frozen? ⟨b, i, none⟩ = w.frozen? ⟨b, i, none⟩ := World.frozen?_of_block (Below.heap_alloc w o b h.1)
    rw [hf]; exact h.2.2 i⟩
theorem live_below {W w1 : World} {b : Nat} {c : Array Value} (hb : Below W.heap.size W w1) (h : Live W b c) : Live w1 b c :=
  ⟨Nat.lt_of_lt_of_le h.1 hb.size, fun o => (hb.cell (p := ⟨b, o, none⟩) h.1).trans (h.2.1 o), fun o => (hb.frozen (p := ⟨b, o, none⟩) h.1).trans (h.2.2 o)⟩
theorem live_set_same {w : World} {b : Nat} {c : Array Value} (h : Live w b c) (o : Nat) (v : Value) (ho : o < c.size) : Live (w.setCell ⟨b, o, none⟩ v) b (c.setIfInBounds o v) := by
  refine ⟨by simpa [World.setCell] using h.1, fun i => ?_, fun i => by rw [← h.2.2 i]; simp [go_sem]⟩
  by_cases e : o = i
  · subst e
    rw [World.cell?_setCell_same' w _ v (by rw [h.2.1 o]; simp [ho])]
    simp [ho]
  · rw [World.cell?_setCell_other w _ _ _ (by intro h2; cases h2; exact e rfl), h.2.1 i, Array.getElem?_setIfInBounds_ne e]
theorem live_set_other {w : World} {b : Nat} {c : Array Value} (h : Live w b c) (b' o : Nat) (v : Value) (hb : b' ≠ b) : Live (w.setCell ⟨b', o, none⟩ v) b c :=
  ⟨by simpa [World.setCell] using h.1, fun i => by rw [World.cell?_setCell_other w _ _ _ (by intro h2; cases h2; exact hb rfl)]; exact h.2.1 i, fun i => by rw [← h.2.2 i]; simp [go_sem]⟩
theorem live_drew {w : World} {b : Nat} {c : Array Value} (h : Live w b c) : Live w.drew b c := h
theorem live_drewN {w : World} {b : Nat} {c : Array Value} (h : Live w b c) (n : Nat) : Live (w.drewN n) b c := h

theorem cell_past1 (w : World) (o : Obj) (n i : Nat) (h : n < w.heap.size) : (w.alloc o).cell? ⟨n, i, none⟩ = w.cell? ⟨n, i, none⟩ :=
  World.cell?_alloc_lt _ _ ⟨n, i, none⟩ h
theorem cell_past2 (w : World) (o p : Obj) (n i : Nat) (h : n < w.heap.size) : ((w.alloc o).alloc p).cell? ⟨n, i, none⟩ = w.cell? ⟨n, i, none⟩ := by
  rw [World.cell?_alloc_lt _ _ ⟨n, i, none⟩ (by simp; omega), World.cell?_alloc_lt _ _ ⟨n, i, none⟩ h]
theorem cell_past3 (w : World) (o p q : Obj) (n i : Nat) (h : n < w.heap.size) : (((w.alloc o).alloc p).alloc q).cell? ⟨n, i, none⟩ = w.cell? ⟨n, i, none⟩ := by
  rw [World.cell?_alloc_lt _ _ ⟨n, i, none⟩ (by simp; omega), cell_past2 w o p n i h]
theorem cell_past4 (w : World) (o p q r : Obj) (n i : Nat) (h : n < w.heap.size) : ((((w.alloc o).alloc p).alloc q).alloc r).cell? ⟨n, i, none⟩ = w.cell? ⟨n, i, none⟩ := by
  rw [World.cell?_alloc_lt _ _ ⟨n, i, none⟩ (by simp; omega), cell_past3 w o p q n i h]
theorem froz_past1 (w : World) (o : Obj) (n i : Nat) (h : n < w.heap.size) : (w.alloc o).frozen? ⟨n, i, none⟩ = w.frozen? ⟨n, i, none⟩ :=
  World.frozen?_of_block (Below.heap_alloc w o n h)
theorem froz_past2 (w : World) (o p : Obj) (n i : Nat) (h : n < w.heap.size) : ((w.alloc o).alloc p).frozen? ⟨n, i, none⟩ = w.frozen? ⟨n, i, none⟩ := by
  rw [froz_past1 _ _ _ _ (by simp; omega), froz_past1 _ _ _ _ h]
theorem froz_past3 (w : World) (o p q : Obj) (n i : Nat) (h : n < w.heap.size) : (((w.alloc o).alloc p).alloc q).frozen? ⟨n, i, none⟩ = w.frozen? ⟨n, i, none⟩ := by
  rw [froz_past1 _ _ _ _ (by simp; omega), froz_past2 _ _ _ _ _ h]

theorem below_drewN {B : Nat} {a w : World} (h : Below B a w) (n : Nat) : Below B a (w.drewN n) := ⟨h.os, h.tape, h.output, h.size, h.block⟩

section
variable {H : Type} {enc : TypeId × Value → H} {P : Program}
theorem post_of_below {f : Func} {s : ChangeSpec} {apart fresh handsOn again : Bool} {W W' : World} {args : Array Value} {v : Value} {ds gs : List (DataW H)} {before pa pv : List MemPlace}
    (hW : DataW.Whole enc P f.params.toList s.vars apart W args.toList ds gs before)
    (hres : ∀ (b : Nat) (sp : Nat → Bool) (hd : Bool), DataW.TrodAll enc P W' b sp hd f.resultTypes.toList (v.resultList f.resultTypes.size) (s.fn H (ds ++ gs)).results [])
    (hargs : ∀ sp : Nat → Bool, (∀ p ∈ before, sp p.block = true) → DataW.TrodAll enc P W' 0 sp true f.params.toList args.toList (s.fn H (ds ++ gs)).args pa)
    (hvars : ∀ sp : Nat → Bool, (∀ p ∈ before, sp p.block = true) → DataW.TrodVars enc P W' sp s.vars (s.fn H (ds ++ gs)).vars pv)
    (hps : before = pa ++ pv) (hb : Below W.heap.size W W')
    (hok : ∀ (j : Nat) (t : TypeId) (r : Value), f.resultTypes[j]? = some t → (v.resultList f.resultTypes.size)[j]? = some r → Value.okWide P W' .any 0 t r) :
    s.post enc P f apart fresh handsOn again W args v W' := by
  have hlt : ∀ p ∈ before, p.block < W.heap.size := fun p hp => hW.lt p hp
  have hold : ∀ p ∈ before, (fun b => decide (b < W.heap.size)) p.block = true := fun p hp => by simpa using hlt p hp
  refine ⟨ds, gs, before, [], pa, pv, hW, hres _ _ _, hargs _ hold, hvars _ hold, World.keptBut_mono (fun p hp => ⟨hp, ?_⟩) (hb.frame (· ∈ before)), fun _ => ?_⟩
  · rw [hps, List.mem_append] at hp
    exact Or.inr hp
  · obtain ⟨_, _, _, _, _, hz, hn⟩ := hW
    refine ⟨hok, _, _, ([] ++ pa) ++ pv, ⟨[] ++ pa, pv, trodAll_append (hargs _ (fun _ _ => rfl)) (hres _ _ _), hvars _ (fun _ _ => rfl), rfl, ?_, ?_⟩, ?_⟩
    · intro b off hp
      have hin : MemPlace.cell b off ∈ before := by rw [hps]; simpa using hp
      rw [hb.frozen (hlt _ hin)]
      exact hz b off hin
    · intro ha
      have := hn ha
      rw [hps] at this
      simpa using this
    · intro p hp _
      rw [hps]
      simpa using hp

theorem trodAll_stays (hl : laidOutB P = true) {W W' : World} {sp' : Nat → Bool} : ∀ {ts : List TypeId} {vs : List Value} {ds : List (DataW H)} {ps : List MemPlace},
    (∀ t ∈ ts, P.readableRec t = true ∧ t < P.types.size) → DataW.TrodAll enc P W 0 (fun _ => true) true ts vs ds ps → (∀ p ∈ ps, W.sameAt W' p) → (∀ p ∈ ps, sp' p.block = true) → DataW.TrodAll enc P W' 0 sp' true ts vs ds ps
  | [], vs, ds, ps, _, h, _, _ => by
    obtain ⟨rfl, rfl, rfl⟩ := trodAll_nil h
    rfl
  | t :: ts, vs, ds, ps, ht, h, hs, hp => by
    cases vs with
    | nil => simp [DataW.TrodAll] at h
    | cons v vs =>
      cases ds with
      | nil => simp [DataW.TrodAll] at h
      | cons d ds =>
        obtain ⟨p, q, h1, h2, rfl⟩ := h
        exact ⟨p, q, WideElems.Trod_stays hl (ht t (by simp)).1 (ht t (by simp)).2 h1 (fun x hx => hs x (by simp [hx])) (fun x hx => hp x (by simp [hx])),
          trodAll_stays hl (fun u hu => ht u (by simp [hu])) h2 (fun x hx => hs x (by simp [hx])) (fun x hx => hp x (by simp [hx])), rfl⟩

/-- What a law's row owes behind the call, where the call answers true and leaves old memory alone. -/
theorem law_post {f : Func} {s : ChangeSpec} {W W' : World} {args : Array Value} {ds gs : List (DataW H)} {before : List MemPlace} {tb : TypeId} {again : Bool}
    (hl : laidOutB P = true) (hpar : (f.params.toList.all fun t => P.readableRec t && decide (t < P.types.size)) = true) (hvars : s.vars = []) (hfn : ds.length = f.params.size → s.fn H ds = { results := [.lit (.bool true)], args := ds })
    (hrt : f.resultTypes = #[tb]) (hb : P.underlying tb = some .bool)
    (hW : DataW.Whole enc P f.params.toList s.vars false W args.toList ds gs before) (hbel : Below W.heap.size W W') :
    s.post enc P f false true false again W args (.bool true) W' := by
  have hW2 := hW
  obtain ⟨p, q, hA, hV, rfl, hz, hn⟩ := hW2
  have hV2 : DataW.TrodVars enc P W (fun _ => true) [] gs q := hvars ▸ hV
  obtain ⟨rfl, rfl⟩ := trodVars_none hV2
  have hlen : ds.length = f.params.size := by
    have : ∀ (ts : List TypeId) (vs : List Value) (ds : List (DataW H)) (ps : List MemPlace), DataW.TrodAll enc P W 0 (fun _ => true) true ts vs ds ps → ds.length = ts.length := by
      intro ts
      induction ts with
      | nil => intro vs ds ps h; obtain ⟨_, rfl, _⟩ := trodAll_nil h; rfl
      | cons t ts ih =>
        intro vs ds ps h
        cases vs with
        | nil => simp [DataW.TrodAll] at h
        | cons v vs =>
          cases ds with
          | nil => simp [DataW.TrodAll] at h
          | cons d ds =>
            obtain ⟨p, q, h1, h2, rfl⟩ := h
            simp [ih _ _ _ h2]
    simpa using this _ _ _ _ hA
  have hf := hfn hlen
  have hpar' : ∀ t ∈ f.params.toList, P.readableRec t = true ∧ t < P.types.size := fun t ht => by
    have := List.all_eq_true.1 hpar t ht
    simpa using this
  refine post_of_below (pa := p) (pv := []) hW ?_ ?_ ?_ rfl hbel (ok_one hrt rfl (okWide_bool_mk hb true))
  · intro b sp hd
    rw [hrt]
    simp only [List.append_nil, hf]
    exact trodAll_mk1 (shut_bool hb true)
  · intro sp hsp
    simp only [List.append_nil, hf]
    exact trodAll_stays hl hpar' hA (fun x hx => hbel.same (hW.lt x (by simp [hx]))) (fun x hx => hsp x (by simp [hx]))
  · intro sp _
    simp only [List.append_nil, hf, hvars]
    rfl
end
end Go.Proofs.Ytkiadcgdmeebmaa
