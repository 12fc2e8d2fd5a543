/- Useless measures: plain facts. -/
import Derived.Test.YtekjkaoibcfgfaaZ1
import Derived.Test.YtekjkaoibcfgfaaX23
namespace Go.Proofs.Ytekjkaoibcfgfaa
set_option linter.unusedSimpArgs false
set_option linter.unusedVariables false

section
variable {t : List St} {ms ms' l : List Me}
/-- the order of measures does not matter -/
theorem narrow_perm (hv : valid t = true) (hm : msOk t.length ms = true) (hm' : msOk t.length ms' = true) (hp : ∀ m, m ∈ ms' ↔ m ∈ ms) : errN t ms' = errN t ms ∧ nT t ms' = nT t ms := by
  have h := left_perm (ok_me hm) hp
  obtain ⟨a1, a2⟩ := left_same hv hm
  obtain ⟨b1, b2⟩ := left_same hv hm'
  have e : rnB t ms' = rnB t ms := by rw [← a1, ← b1, h.1]
  refine ⟨by rw [errN_yes hv hm, errN_yes hv hm', e], ?_⟩
  rw [nT_yes hv hm, nT_yes hv hm', ← a2, ← b2, h.2]
theorem useless_is (hv : valid t = true) (hm : msOk t.length l = true) (i : Nat) (x : Me) : Two.uselessP t l i x = decide (nT t (l.eraseIdx i) = nT t l) := by
  unfold Two.uselessP
  rw [nT_yes hv hm, nT_yes hv (errN_ok hv hm i)]
/-- one measure taken out -/
theorem take_out (hv : valid t = true) (hm : msOk t.length l = true) (he : errN t l = 0) (i : Nat) : errN t (l.eraseIdx i) = 0 ∧ NarT (nT t l) (nT t (l.eraseIdx i)) :=
  narrow_less hv (errN_ok hv hm i) hm (fun m h => List.mem_of_mem_eraseIdx h) he
/-- does a measure stand elsewhere, up to k? -/
def twiceTo (l : List Me) (i k : Nat) : Bool := (List.range k).any fun q => decide (q ≠ i) && decide (l[i]? = l[q]?)
theorem twiceTo_succ {i k : Nat} : twiceTo l i (k + 1) = (twiceTo l i k || (decide (k ≠ i) && decide (l[i]? = l[k]?))) := by
  simp [twiceTo, List.range_succ]
theorem twiceTo_zero {i : Nat} : twiceTo l i 0 = false := by simp [twiceTo]
theorem twice_useless (hv : valid t = true) (hm : msOk t.length l = true) {i : Nat} {x : Me} (hx : l[i]? = some x) (h : twiceTo l i l.length = true) : Two.uselessP t l i x = true := by
  rw [useless_is hv hm, decide_eq_true_eq]
  refine (narrow_perm hv hm (errN_ok hv hm i) (fun m => ⟨fun h => List.mem_of_mem_eraseIdx h, fun hmem => ?_⟩)).2
  simp only [twiceTo, List.any_eq_true, List.mem_range, Bool.and_eq_true, decide_eq_true_eq] at h
  obtain ⟨q, hq, hne, he⟩ := h
  rw [List.mem_eraseIdx_iff_getElem?]
  obtain ⟨j, hj⟩ := List.mem_iff_getElem?.1 hmem
  by_cases hji : j = i
  · subst hji
    exact ⟨q, hne, by rw [← he, hj]⟩
  · exact ⟨j, hji, hj⟩
end

/-! ### at the right place of a list of indices -/
section
variable {α : Type} {p : Nat → α → Bool} {l : List α}
theorem picks_split {i : Nat} (hi : i ≤ l.length) : picks p l = picksTo p l i ++ ((List.range' i (l.length - i)).filter (soAt p l)).map Int.ofNat := by
  unfold picks picksTo
  rw [← List.map_append, ← List.filter_append]
  congr 2
  rw [List.range_eq_range', List.range_eq_range']
  have := List.range'_append_1 (s := 0) (m := i) (n := l.length - i)
  rw [Nat.zero_add] at this
  rw [this]
  congr 1
  omega
theorem picks_yes {i : Nat} (hi : i < l.length) (h : soAt p l i = true) : (picks p l)[(picksTo p l i).length]? = some (i : Int) := by
  rw [picks_split (Nat.le_of_lt hi), List.getElem?_append_right (Nat.le_refl _), Nat.sub_self]
  rw [show l.length - i = (l.length - i - 1) + 1 by omega, List.range'_succ]
  simp [h]
theorem picks_no {i : Nat} (hi : i < l.length) (h : soAt p l i = false) {x : Int} (hx : (picks p l)[(picksTo p l i).length]? = some x) : x ≠ (i : Int) := by
  rw [picks_split (Nat.le_of_lt hi), List.getElem?_append_right (Nat.le_refl _), Nat.sub_self] at hx
  have hmem := List.mem_of_getElem? hx
  obtain ⟨j, hj, rfl⟩ := List.mem_map.1 hmem
  obtain ⟨h1, h2⟩ := List.mem_filter.1 hj
  intro e
  have h9 : (j : Int) = (i : Int) := e
  have : j = i := by omega
  subst this
  rw [h] at h2; cases h2
end

/-! ### the measures turned round -/
def rotTo (l : List Me) (r k : Nat) : List Me := (List.range k).map fun i => l.getD ((i + r) % l.length) default
theorem rotTo_succ {l : List Me} {r k : Nat} : rotTo l r (k + 1) = rotTo l r k ++ [l.getD ((k + r) % l.length) default] := by simp [rotTo, List.range_succ]
theorem rotTo_len {l : List Me} {r k : Nat} : (rotTo l r k).length = k := by simp [rotTo]
theorem rot_mem {l : List Me} {r : Nat} (hr : r < l.length) (m : Me) : m ∈ rotTo l r l.length ↔ m ∈ l := by
  have hn : 0 < l.length := by omega
  simp only [rotTo, List.mem_map, List.mem_range]
  constructor
  · rintro ⟨i, hi, rfl⟩
    have h := Nat.mod_lt (i + r) hn
    rw [List.getD_eq_getElem?_getD, List.getElem?_eq_getElem h]
    exact List.getElem_mem h
  · intro h
    obtain ⟨j, hj, rfl⟩ := List.mem_iff_getElem.1 h
    have fin : ∀ i, (i + r) % l.length = j → l.getD ((i + r) % l.length) default = l[j] := fun i e => by
      rw [e, List.getD_eq_getElem?_getD, List.getElem?_eq_getElem hj]; rfl
    by_cases hjr : r ≤ j
    · refine ⟨j - r, by omega, fin _ ?_⟩
      rw [show j - r + r = j by omega]
      exact Nat.mod_eq_of_lt hj
    · refine ⟨j + l.length - r, by omega, fin _ ?_⟩
      rw [show j + l.length - r + r = j + l.length by omega, Nat.add_mod_right]
      exact Nat.mod_eq_of_lt hj
theorem rot_ok {n : Nat} {l : List Me} {r : Nat} (hr : r < l.length) (h : msOk n l = true) : msOk n (rotTo l r l.length) = true := by
  obtain ⟨h1, h2⟩ := msOk_all h
  simp only [msOk, Bool.and_eq_true, decide_eq_true_eq, rotTo_len]
  exact ⟨h2, List.all_eq_true.2 fun m hm => h1 m ((rot_mem hr m).1 hm)⟩
end Go.Proofs.Ytekjkaoibcfgfaa
