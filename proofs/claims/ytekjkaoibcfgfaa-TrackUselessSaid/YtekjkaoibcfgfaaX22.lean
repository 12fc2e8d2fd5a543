/- Useless: the closure that takes a measure out of the map and puts it back; pick over it. -/
import Derived.Test.YtekjkaoibcfgfaaX21
import Derived.Test.YtekjkaoibcfgfaaX19
namespace Go.Proofs.Ytekjkaoibcfgfaa
open Go.RowKit
set_option maxRecDepth 20000
set_option linter.unusedSimpArgs false
set_option linter.unusedVariables false

/-- a map whose entries are the measures of l, in some order -/
structure Arr (l : List Me) (kb : KB) (ms : List Me) : Prop where
  len : ms.length = l.length
  ok : kb.ok l.length
  lt : ∀ j, j < l.length → kb.K j < l.length
  inj : ∀ i j, i < l.length → j < l.length → kb.K i = kb.K j → i = j
  val : ∀ j, j < l.length → ms[j]? = l[kb.K j]?
theorem arr_id (l : List Me) : Arr l (KB.id l.length) l := ⟨rfl, KB.id_ok _, fun _ h => h, fun _ _ _ _ h => h, fun _ _ => rfl⟩
theorem Arr.at_ {l ms : List Me} {kb : KB} (h : Arr l kb ms) {i : Nat} (hi : i < l.length) : ∃ j, j < l.length ∧ kb.K j = i := by
  refine Classical.byContradiction fun hn => ?_
  have h1 : (i :: (List.range l.length).map kb.K).Nodup := by
    refine List.nodup_cons.2 ⟨fun hm => ?_, ?_⟩
    · obtain ⟨j, hj, e⟩ := List.mem_map.1 hm
      exact hn ⟨j, List.mem_range.1 hj, e⟩
    · unfold List.Nodup
      rw [List.pairwise_map]
      refine List.nodup_range.imp_of_mem (fun {a b} ha hb hab e => hab (h.inj a b (List.mem_range.1 ha) (List.mem_range.1 hb) e))
  have h2 := nodup_len l.length _ h1 (fun x hx => by
    rcases List.mem_cons.1 hx with rfl | hx
    · exact hi
    · obtain ⟨j, hj, rfl⟩ := List.mem_map.1 hx
      exact h.lt j (List.mem_range.1 hj))
  simp at h2
  omega
def sh (j q : Nat) : Nat := if q < j then q else q + 1
theorem sh_lt {j q n : Nat} (h : q < n - 1) : sh j q < n := by unfold sh; split <;> omega
theorem sh_inj {j p q : Nat} (h : sh j p = sh j q) : p = q := by unfold sh at h; split at h <;> split at h <;> omega
theorem sh_ne {j q : Nat} : sh j q ≠ j := by unfold sh; split <;> omega
def delKB (kb : KB) (j : Nat) : KB := ⟨fun q => kb.K (sh j q), fun q => kb.B (sh j q), kb.c⟩
def putKB (kb : KB) (i n1 : Nat) : KB := ⟨fun q => if q < n1 then kb.K q else i, fun q => if q < n1 then kb.B q else kb.c, kb.c + 1⟩
theorem ents_del {kb : KB} {ms : List Me} {j : Nat} (hj : j < ms.length) : (entsMe kb ms).eraseIdxIfInBounds j = entsMe (delKB kb j) (ms.eraseIdx j) := by
  apply Array.ext'
  have hl : j < (entsMe kb ms).size := by simp [entsMe, entsL]; exact hj
  rw [Array.eraseIdxIfInBounds, dif_pos hl]
  rw [Array.toList_eraseIdx]
  simp only [entsMe, entsL]
  apply List.ext_getElem?
  intro q
  rw [List.getElem?_eraseIdx, List.getElem?_mapIdx, List.getElem?_mapIdx, List.getElem?_mapIdx, List.getElem?_eraseIdx]
  by_cases h : q < j
  · simp only [h, if_true]
    cases ms[q]? with
    | none => rfl
    | some x => simp [entMe, delKB, sh, h]
  · simp only [h, if_false]
    cases ms[q + 1]? with
    | none => rfl
    | some x => simp [entMe, delKB, sh, h]
theorem ents_put {kb : KB} {ms : List Me} {i : Nat} {x : Me} : (entsMe kb ms).push ⟨.int .i64 (i : Int), vMe x, kb.c⟩ = entsMe (putKB kb i ms.length) (ms ++ [x]) := by
  apply Array.ext'
  simp only [entsMe, entsL, Array.toList_push]
  apply List.ext_getElem?
  intro q
  rw [List.getElem?_append, List.getElem?_mapIdx, List.getElem?_mapIdx, List.getElem?_append, List.length_mapIdx]
  by_cases h : q < ms.length
  · rw [if_pos h, if_pos h]
    cases ms[q]? with
    | none => rfl
    | some y => simp [entMe, putKB, h]
  · rw [if_neg h, if_neg h]
    by_cases h2 : q - ms.length = 0
    · rw [h2]; simp [entMe, putKB, h]
    · rw [List.getElem?_eq_none (by simp; omega), List.getElem?_eq_none (by simp; omega)]; rfl
theorem Arr.del_ok {l ms : List Me} {kb : KB} {j : Nat} (h : Arr l kb ms) (hj : j < l.length) : (delKB kb j).ok (ms.eraseIdx j).length := by
  have e : (ms.eraseIdx j).length = l.length - 1 := by rw [List.length_eraseIdx, h.len, if_pos hj]
  rw [e]
  refine ⟨fun q hq => h.ok.lt _ (sh_lt hq), fun p q hp hq he => ?_⟩
  exact sh_inj (h.ok.inj _ _ (sh_lt hp) (sh_lt hq) he)
theorem Arr.put {l ms : List Me} {kb : KB} {i j : Nat} {x : Me} (h : Arr l kb ms) (hj : j < l.length) (hji : kb.K j = i) (hx : l[i]? = some x) : Arr l (putKB (delKB kb j) i (ms.eraseIdx j).length) (ms.eraseIdx j ++ [x]) := by
  have e : (ms.eraseIdx j).length = l.length - 1 := by rw [List.length_eraseIdx, h.len, if_pos hj]
  have hi : i < l.length := (List.getElem?_eq_some_iff.1 hx).1
  have hK : ∀ q, q < l.length - 1 → kb.K (sh j q) ≠ i := fun q hq he => sh_ne (h.inj _ _ (sh_lt hq) hj (he.trans hji.symm))
  have hB : ∀ q, q < l.length - 1 → kb.B (sh j q) < kb.c := fun q hq => h.ok.lt _ (sh_lt hq)
  rw [e]
  refine ⟨by simp [e]; omega, ⟨fun q hq => ?_, fun p q hp hq he => ?_⟩, fun q hq => ?_, fun p q hp hq he => ?_, fun q hq => ?_⟩
  · simp only [putKB, delKB]
    by_cases h1 : q < l.length - 1
    · rw [if_pos h1]; have := hB q h1; omega
    · rw [if_neg h1]; omega
  · simp only [putKB, delKB] at he
    by_cases h1 : p < l.length - 1 <;> by_cases h2 : q < l.length - 1
    · rw [if_pos h1, if_pos h2] at he; exact sh_inj (h.ok.inj _ _ (sh_lt h1) (sh_lt h2) he)
    · rw [if_pos h1, if_neg h2] at he; have := hB p h1; omega
    · rw [if_neg h1, if_pos h2] at he; have := hB q h2; omega
    · omega
  · simp only [putKB, delKB]
    by_cases h1 : q < l.length - 1
    · rw [if_pos h1]; exact h.lt _ (sh_lt h1)
    · rw [if_neg h1]; exact hi
  · simp only [putKB, delKB] at he
    by_cases h1 : p < l.length - 1 <;> by_cases h2 : q < l.length - 1
    · rw [if_pos h1, if_pos h2] at he; exact sh_inj (h.inj _ _ (sh_lt h1) (sh_lt h2) he)
    · rw [if_pos h1, if_neg h2] at he; exact absurd he (hK p h1)
    · rw [if_neg h1, if_pos h2] at he; exact absurd he.symm (hK q h2)
    · omega
  · rw [List.getElem?_append, e]
    simp only [putKB, delKB]
    by_cases h1 : q < l.length - 1
    · rw [if_pos h1, if_pos h1, List.getElem?_eraseIdx]
      have := h.val (sh j q) (sh_lt h1)
      unfold sh at this ⊢
      split
      · rename_i h2; rw [if_pos h2] at this; exact this
      · rename_i h2; rw [if_neg h2] at this; exact this
    · rw [if_neg h1, if_neg h1]
      have e2 : q - (l.length - 1) = 0 := by omega
      rw [e2, hx]; rfl
theorem Arr.mem_del {l ms : List Me} {kb : KB} {i j : Nat} (h : Arr l kb ms) (hj : j < l.length) (hji : kb.K j = i) (m : Me) : m ∈ ms.eraseIdx j ↔ m ∈ l.eraseIdx i := by
  have hi : i < l.length := hji ▸ h.lt j hj
  rw [List.mem_eraseIdx_iff_getElem?, List.mem_eraseIdx_iff_getElem?]
  constructor
  · rintro ⟨q, hq, hm⟩
    have hql : q < l.length := h.len ▸ (List.getElem?_eq_some_iff.1 hm).1
    exact ⟨kb.K q, fun e => hq (h.inj _ _ hql hj (e.trans hji.symm)), by rw [← h.val q hql]; exact hm⟩
  · rintro ⟨q, hq, hm⟩
    have hql : q < l.length := (List.getElem?_eq_some_iff.1 hm).1
    obtain ⟨p, hp, hpq⟩ := h.at_ hql
    exact ⟨p, fun e => hq (by rw [← hpq, e, hji]), by rw [h.val p hp, hpq]; exact hm⟩
theorem left_perm {t : List St} {ms ms' : List Me} (hok : ∀ m ∈ ms, okMe (t.length + 1) m) (hp : ∀ m, m ∈ ms' ↔ m ∈ ms) : leftB t ms' = leftB t ms ∧ leftT t ms' = leftT t ms := by
  have a1 := order_same (s := longs t) hok hp 1
  have a2 := order_same (s := falls t) hok hp 2
  have b1 : fine1 t ms' ↔ fine1 t ms := a1.1
  have b2 : fine2 t ms' ↔ fine2 t ms := by
    unfold fine2
    rw [falls_stage, falls_stage]; exact a2.1
  have e : leftB t ms' = leftB t ms := by
    rw [Bool.eq_iff_iff]
    simp only [leftB, decide_eq_true_eq, b1, b2]
  refine ⟨e, ?_⟩
  unfold leftT
  rw [e]
  cases hB : leftB t ms with
  | false => rfl
  | true =>
    simp only [leftB, decide_eq_true_eq] at hB
    have c1 : AgrM (t.length + 1) (dist 1 (longs t) ms' (t.length + 1)) (dist 1 (longs t) ms (t.length + 1)) := a1.2 (b1.2 hB.1)
    have c2 : AgrM (t.length + 1) (dist 2 (falls t) ms' (t.length + 1)) (dist 2 (falls t) ms (t.length + 1)) := a2.2 (by
      have := b2.2 hB.2; unfold fine2 at this; rw [falls_stage] at this; exact this)
    have s1 : stage1 t ms' = stage1 t ms := updTo_agr (F := setLong) (fun j s hj => by unfold setLong; rw [newSp_agr c1 hj]) rfl _
    simp only [if_true]
    unfold stage2
    rw [falls_stage, falls_stage, s1]
    exact updTo_agr (F := setFall) (fun j s hj => by unfold setFall; rw [newSp_agr c2 hj]) (by rw [stage1_len]) _
end Go.Proofs.Ytekjkaoibcfgfaa
