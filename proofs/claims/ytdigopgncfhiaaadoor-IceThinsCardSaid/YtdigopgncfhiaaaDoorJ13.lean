/- Ice: what is too thin, in plain Lean. -/
import Derived.Test.YtdigopgncfhiaaaDoorJ7
import Derived.Test.YtdigopgncfhiaaaDoorJ12
namespace Go.Proofs.YtdigopgncfhiaaaDoor
open Go.RowKit Go.Sort
set_option linter.unusedSimpArgs false
set_option linter.unusedVariables false
def asksC (c : Cov) (u : Hour) : Int := if 0 < u.runs then c.limit else c.base
def worstE (t l : Sp) : Int := t.lo - l.hi
def bestE (t l : Sp) : Int := t.hi - l.lo
/-- sizes of thicknesses and losses -/
def Mild (t l : Sp) : Prop := (0 ≤ t.lo ∧ t.lo ≤ 4000 ∧ 0 ≤ t.hi ∧ t.hi ≤ 4000) ∧ 0 ≤ l.lo ∧ l.lo ≤ 1650 ∧ 0 ≤ l.hi ∧ l.hi ≤ 1650
/-- whether the stretch i, of bed z, is too thin in an hour -/
def tooThin (c : Cov) (pl : List Sli) (en : Sp → Sp → Int) (z : Bed) (i h : Nat) : Bool := decide (en (thickN c pl z i h) (lossC c z (c.hours.getD h default)) < asksC c (c.hours.getD h default))
def thinB (c : Cov) (pl : List Sli) (en : Sp → Sp → Int) (z : Bed) (i k : Nat) : List (Int × Int) := ((List.range k).filter (tooThin c pl en z i)).map fun (h : Nat) => ((h : Int), (i : Int))
theorem thinB_succ {c : Cov} {pl : List Sli} {en : Sp → Sp → Int} {z : Bed} {i k : Nat} : thinB c pl en z i (k + 1) = thinB c pl en z i k ++ (if tooThin c pl en z i k then [((k : Int), (i : Int))] else []) := by
  unfold thinB
  rw [List.range_succ, List.filter_append, List.map_append]
  congr 1
  by_cases h : tooThin c pl en z i k = true
  · simp [h]
  · simp [h]
theorem thinB_len {c : Cov} {pl : List Sli} {en : Sp → Sp → Int} {z : Bed} {i k : Nat} : (thinB c pl en z i k).length ≤ k := by
  unfold thinB
  rw [List.length_map]
  exact Nat.le_trans (List.length_filter_le _ _) (by simp)
def thinR (c : Cov) (pl : List Sli) (en : Sp → Sp → Int) (m : Nat) : List (Int × Int) := (List.range m).flatMap fun i => thinB c pl en (c.beds.getD i default) i c.hours.length
theorem thinR_succ {c : Cov} {pl : List Sli} {en : Sp → Sp → Int} {m : Nat} {z : Bed} (hz : c.beds[m]? = some z) : thinR c pl en (m + 1) = thinR c pl en m ++ thinB c pl en z m c.hours.length := by
  unfold thinR
  rw [List.range_succ, List.flatMap_append]
  simp only [List.flatMap_cons, List.flatMap_nil, List.append_nil, getD_of hz]
theorem thinR_len {c : Cov} {pl : List Sli} {en : Sp → Sp → Int} : ∀ {m : Nat}, m ≤ c.beds.length → (thinR c pl en m).length ≤ m * c.hours.length
  | 0, _ => by simp [thinR]
  | m + 1, h => by
    obtain ⟨z, hz⟩ : ∃ z, c.beds[m]? = some z := ⟨_, List.getElem?_eq_getElem (by omega)⟩
    rw [thinR_succ hz, List.length_append, Nat.succ_mul]
    have := thinR_len (c := c) (pl := pl) (en := en) (m := m) (by omega)
    have := thinB_len (c := c) (pl := pl) (en := en) (z := z) (i := m) (k := c.hours.length)
    omega

/-- .. hour by hour -/
def thinS (c : Cov) (pl : List Sli) (en : Sp → Sp → Int) : List (Int × Int) := (List.range c.hours.length).flatMap fun h => ((List.range c.beds.length).filter fun i => tooThin c pl en (c.beds.getD i default) i h).map fun (i : Nat) => ((h : Int), (i : Int))
def PrLt (p q : Int × Int) : Prop := p.1 < q.1 ∨ (p.1 = q.1 ∧ p.2 < q.2)
theorem strict_eq : ∀ {l m : List (Int × Int)}, l.Pairwise PrLt → m.Pairwise PrLt → (∀ x, x ∈ l ↔ x ∈ m) → l = m
  | [], [], _, _, _ => rfl
  | [], b :: m, _, _, h => by have := (h b).2 (by simp); simp at this
  | a :: l, [], _, _, h => by have := (h a).1 (by simp); simp at this
  | a :: l, b :: m, h1, h2, h => by
    obtain ⟨a1, a2⟩ := List.pairwise_cons.1 h1
    obtain ⟨b1, b2⟩ := List.pairwise_cons.1 h2
    have e : a = b := by
      rcases List.mem_cons.1 ((h a).1 (by simp)) with e | e
      · exact e
      · rcases List.mem_cons.1 ((h b).2 (by simp)) with f | f
        · exact f.symm
        · have k1 := b1 a e; have k2 := a1 b f
          simp only [PrLt] at k1 k2; omega
    subst e
    rw [strict_eq a2 b2 (fun x => ?_)]
    constructor
    · intro hx
      rcases List.mem_cons.1 ((h x).1 (List.mem_cons_of_mem _ hx)) with e | e
      · subst e; have := a1 x hx; simp only [PrLt] at this; omega
      · exact e
    · intro hx
      rcases List.mem_cons.1 ((h x).2 (List.mem_cons_of_mem _ hx)) with e | e
      · subst e; have := b1 x hx; simp only [PrLt] at this; omega
      · exact e
section
variable {c : Cov} {pl : List Sli} {en : Sp → Sp → Int}
theorem mem_thinB {z : Bed} {i k : Nat} {p : Int × Int} : p ∈ thinB c pl en z i k ↔ ∃ h, h < k ∧ tooThin c pl en z i h = true ∧ p = ((h : Int), (i : Int)) := by
  simp only [thinB, List.mem_map, List.mem_filter, List.mem_range]
  constructor
  · rintro ⟨h, ⟨h1, h2⟩, rfl⟩; exact ⟨h, h1, h2, rfl⟩
  · rintro ⟨h, h1, h2, rfl⟩; exact ⟨h, ⟨h1, h2⟩, rfl⟩
theorem mem_thinR {m : Nat} {p : Int × Int} : p ∈ thinR c pl en m ↔ ∃ i h, i < m ∧ h < c.hours.length ∧ tooThin c pl en (c.beds.getD i default) i h = true ∧ p = ((h : Int), (i : Int)) := by
  simp only [thinR, List.mem_flatMap, List.mem_range, mem_thinB]
  constructor
  · rintro ⟨i, h1, h, h2, h3, h4⟩; exact ⟨i, h, h1, h2, h3, h4⟩
  · rintro ⟨i, h, h1, h2, h3, h4⟩; exact ⟨i, h1, h, h2, h3, h4⟩
theorem mem_thinS {p : Int × Int} : p ∈ thinS c pl en ↔ ∃ i h, i < c.beds.length ∧ h < c.hours.length ∧ tooThin c pl en (c.beds.getD i default) i h = true ∧ p = ((h : Int), (i : Int)) := by
  simp only [thinS, List.mem_flatMap, List.mem_range, List.mem_map, List.mem_filter]
  constructor
  · rintro ⟨h, h1, i, ⟨h2, h3⟩, rfl⟩; exact ⟨i, h, h2, h1, h3, rfl⟩
  · rintro ⟨i, h, h1, h2, h3, rfl⟩; exact ⟨h, h2, i, ⟨h1, h3⟩, rfl⟩
theorem range_filter_lt (q : Nat → Bool) (k : Nat) : ((List.range k).filter q).Pairwise (· < ·) := List.Pairwise.filter _ List.pairwise_lt_range
theorem thinS_sorted : (thinS c pl en).Pairwise PrLt := by
  unfold thinS
  rw [List.pairwise_flatMap]
  refine ⟨fun h _ => ?_, ?_⟩
  · rw [List.pairwise_map]
    exact (range_filter_lt _ _).imp (fun {a b} hab => .inr ⟨rfl, by simp only; omega⟩)
  · refine List.pairwise_lt_range.imp (fun {a b} hab => ?_)
    intro x hx y hy
    simp only [List.mem_map] at hx hy
    obtain ⟨i, _, rfl⟩ := hx
    obtain ⟨j, _, rfl⟩ := hy
    exact .inl (by simp only; omega)
theorem thinR_nodup {m : Nat} : (thinR c pl en m).Nodup := by
  unfold thinR List.Nodup
  rw [List.pairwise_flatMap]
  refine ⟨fun i _ => ?_, ?_⟩
  · unfold thinB
    rw [List.pairwise_map]
    exact (range_filter_lt _ _).imp (fun {a b} hab => by simp only [ne_eq, Prod.mk.injEq]; omega)
  · refine List.pairwise_lt_range.imp (fun {a b} hab => ?_)
    intro x hx y hy
    obtain ⟨h, _, _, rfl⟩ := mem_thinB.1 hx
    obtain ⟨h', _, _, rfl⟩ := mem_thinB.1 hy
    simp only [ne_eq, Prod.mk.injEq]; omega
theorem sort_thin : sortP (thinR c pl en c.beds.length) = thinS c pl en := by
  have hp : (sortP (thinR c pl en c.beds.length)).Perm (thinR c pl en c.beds.length) := List.mergeSort_perm _ _
  have hnd : (sortP (thinR c pl en c.beds.length)).Nodup := hp.nodup_iff.2 thinR_nodup
  have hle : (sortP (thinR c pl en c.beds.length)).Pairwise (fun x y => (!(ltOf cfPr) y x) = true) := List.pairwise_mergeSort (fun a b d h1 h2 => by
    simp only [Bool.not_eq_true', ltPr_no] at h1 h2 ⊢; omega) (fun a b => by
    rw [Bool.or_eq_true]
    simp only [Bool.not_eq_true', ltPr_no]; omega) _
  refine strict_eq ?_ thinS_sorted (fun x => ?_)
  · refine (hle.and hnd).imp (fun {a b} h => ?_)
    obtain ⟨h1, h2⟩ := h
    simp only [Bool.not_eq_true', ltPr_no] at h1
    obtain ⟨a1, a2⟩ := a
    obtain ⟨b1, b2⟩ := b
    simp only [ne_eq, Prod.mk.injEq] at h1 h2
    simp only [PrLt]; omega
  · rw [hp.mem_iff, mem_thinR, mem_thinS]
theorem thinS_len (h4 : c.beds.length ≤ 20) (h5 : c.hours.length ≤ 12) : (thinS c pl en).length ≤ 240 := by
  rw [← sort_thin, sortP_len]
  have h9 := thinR_len (c := c) (pl := pl) (en := en) (m := c.beds.length) (Nat.le_refl _)
  have h11 : c.beds.length * c.hours.length ≤ 20 * 12 := Nat.mul_le_mul (by omega) (by omega)
  omega
end
end Go.Proofs.YtdigopgncfhiaaaDoor
