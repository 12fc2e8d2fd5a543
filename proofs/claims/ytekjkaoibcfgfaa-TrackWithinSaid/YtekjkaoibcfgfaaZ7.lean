/- Runs that are joined: what measures of the first one leave. Plain facts. -/
import Derived.Test.YtekjkaoibcfgfaaZ1
import Derived.Test.YtekjkaoibcfgfaaW6
namespace Go.Proofs.Ytekjkaoibcfgfaa
set_option linter.unusedSimpArgs false
set_option linter.unusedVariables false

/-! ### how far one mark is behind another one, at most -/
def farM (s : List Sp) : Mat := fun i k => if i ≤ k then sumHi s 0 k - sumHi s 0 i else sumLo s 0 k - sumLo s 0 i
theorem sum_wide {s : List Sp} (h : okSps s) {i : Nat} : ∀ d : Nat, 0 ≤ sumLo s 0 (i + d) - sumLo s 0 i ∧ sumLo s 0 (i + d) - sumLo s 0 i ≤ sumHi s 0 (i + d) - sumHi s 0 i ∧ sumHi s 0 (i + d) - sumHi s 0 i ≤ 30000 * d
  | 0 => by simp
  | d + 1 => by
    have := sum_wide h (i := i) d
    have := h (0 + (i + d))
    rw [show i + (d + 1) = i + d + 1 by omega]
    simp only [sumLo, sumHi]
    omega
theorem sum_wide' {s : List Sp} (h : okSps s) {i k : Nat} (hik : i ≤ k) : 0 ≤ sumLo s 0 k - sumLo s 0 i ∧ sumLo s 0 k - sumLo s 0 i ≤ sumHi s 0 k - sumHi s 0 i ∧ sumHi s 0 k - sumHi s 0 i ≤ 30000 * ((k - i : Nat) : Int) := by
  have := sum_wide h (i := i) (k - i)
  rwa [show i + (k - i) = k by omega] at this
theorem farM_tri {s : List Sp} (h : okSps s) {i k y : Nat} : farM s i k ≤ farM s i y + farM s y k := by
  unfold farM
  by_cases h1 : i ≤ k <;> by_cases h2 : i ≤ y <;> by_cases h3 : y ≤ k
  all_goals
    first
      | rw [if_pos h1] | rw [if_neg h1]
    first
      | rw [if_pos h2] | rw [if_neg h2]
    first
      | rw [if_pos h3] | rw [if_neg h3]
  · omega
  · have := sum_wide' h (show k ≤ y by omega); omega
  · have := sum_wide' h (show y ≤ i by omega); omega
  · omega
  · omega
  · have := sum_wide' h (show i ≤ y by omega); omega
  · have := sum_wide' h (show y ≤ k by omega); omega
  · omega
theorem farM_self {s : List Sp} {i : Nat} : farM s i i = 0 := by unfold farM; rw [if_pos (Nat.le_refl i)]; omega
theorem farM_up {s : List Sp} {i : Nat} : farM s i (i + 1) = (spAt s i).hi := by
  unfold farM; rw [if_pos (by omega)]; simp only [sumHi, Nat.zero_add]; omega
theorem farM_down {s : List Sp} {i : Nat} : farM s (i + 1) i = -(spAt s i).lo := by
  unfold farM; rw [if_neg (by omega)]; simp only [sumLo, Nat.zero_add]; omega
theorem farM_bd {s : List Sp} (h : okSps s) {i k : Nat} (hi : i ≤ 13) (hk : k ≤ 13) : farM s i k ≤ 390000 := by
  unfold farM
  split
  · have := sum_wide' h (show i ≤ k by omega); omega
  · have := sum_wide' h (show k ≤ i by omega); omega

section
variable {k : Int} {s1 s2 : List Sp} {ms : List Me}
theorem spAt_left {i : Nat} (h : i < s1.length) : spAt (s1 ++ s2) i = spAt s1 i := by
  unfold spAt; simp only [List.getD_eq_getElem?_getD, List.getElem?_append_left h]
theorem okSps_append (h1 : okSps s1) (h2 : okSps s2) : okSps (s1 ++ s2) := fun i => by
  by_cases h : i < s1.length
  · rw [spAt_left h]; exact h1 i
  · have := h2 (i - s1.length)
    unfold spAt at *
    simp only [List.getD_eq_getElem?_getD, List.getElem?_append_right (Nat.le_of_not_lt h)] at *
    exact this
theorem T0_left {a b : Nat} (ha : a < s1.length + 1) (hb : b < s1.length + 1) : T0 (s1 ++ s2) a b = T0 s1 a b := by
  unfold T0
  by_cases e : a = b
  · rw [if_pos e, if_pos e]
  rw [if_neg e, if_neg e]
  by_cases e1 : b = a + 1
  · rw [if_pos e1, if_pos e1, spAt_left (by omega)]
  rw [if_neg e1, if_neg e1]
  by_cases e2 : a = b + 1
  · rw [if_pos e2, if_pos e2, spAt_left (by omega)]
  rw [if_neg e2, if_neg e2]
theorem okMe_more {n n' : Nat} {m : Me} (h : okMe n m) (hn : n ≤ n') : okMe n' m := by unfold okMe at *; omega
theorem joined_k (o1 : okSps s1) (o2 : okSps s2) (hl : (s1 ++ s2).length ≤ 12) (hm : ∀ m ∈ ms, okMe (s1.length + 1) m) :
    (fineK k (s1 ++ s2) ms ((s1 ++ s2).length + 1) ↔ fineK k s1 ms (s1.length + 1)) ∧
    (fineK k s1 ms (s1.length + 1) → (∀ i, i < s1.length → newSp (dist k (s1 ++ s2) ms ((s1 ++ s2).length + 1)) i = newSp (dist k s1 ms (s1.length + 1)) i) ∧
      (∀ i, s1.length ≤ i → i < (s1 ++ s2).length → newSp (dist k (s1 ++ s2) ms ((s1 ++ s2).length + 1)) i = spAt (s1 ++ s2) i)) := by
  have hlen : (s1 ++ s2).length = s1.length + s2.length := List.length_append
  have o := okSps_append o1 o2
  have hm2 : ∀ m ∈ ms, okMe ((s1 ++ s2).length + 1) m := fun m h => okMe_more (hm m h) (by omega)
  -- what is left of both, of the first one alone
  have down : fineK k (s1 ++ s2) ms ((s1 ++ s2).length + 1) → fineK k s1 ms (s1.length + 1) ∧ Le (s1.length + 1) (dist k (s1 ++ s2) ms ((s1 ++ s2).length + 1)) (dist k s1 ms (s1.length + 1)) := fun hf => by
    obtain ⟨h1, h2⟩ := dist_tri hm2 hf
    obtain ⟨h3, h4⟩ := (le_meas ms _ hm2).1 (dist_le (kind := k) (s := s1 ++ s2) (ms := ms) (n := (s1 ++ s2).length + 1))
    exact left_truth hm (fun a b y ha hb hy => h1 a b y (by omega) (by omega) (by omega)) (fun a ha => h2 a (by omega)) (fun a b ha hb => by
      have := h3 a b (by omega) (by omega)
      rwa [T0_left ha hb] at this) h4
  -- what is left of the first one, and nothing but what was known behind it
  have up : fineK k s1 ms (s1.length + 1) → fineK k (s1 ++ s2) ms ((s1 ++ s2).length + 1) ∧ Le ((s1 ++ s2).length + 1) (fun a b => dist k s1 ms (s1.length + 1) (min a s1.length) (min b s1.length) + farM (s1 ++ s2) (max a s1.length) (max b s1.length)) (dist k (s1 ++ s2) ms ((s1 ++ s2).length + 1)) := fun hf => by
    obtain ⟨h1, h2⟩ := dist_tri hm hf
    obtain ⟨h3, h4⟩ := (le_meas ms _ hm).1 (dist_le (kind := k) (s := s1) (ms := ms) (n := s1.length + 1))
    have hbd := T0_R0 h1 h2 h3
    refine left_truth hm2 (fun a b y ha hb hy => ?_) (fun a ha => ?_) (fun a b ha hb => ?_) (fun m hx hk => ?_)
    · have a1 := h1 (min a s1.length) (min b s1.length) (min y s1.length) (by omega) (by omega) (by omega)
      have a2 := farM_tri o (i := max a s1.length) (k := max b s1.length) (y := max y s1.length)
      omega
    · have := h2 (min a s1.length) (by omega)
      skip
      rw [this, farM_self]; rfl
    · skip
      by_cases e : a = b
      · subst e
        rw [h2 _ (by omega), farM_self]; simp [T0]
      by_cases e1 : b = a + 1
      · subst e1
        rw [T0_up]
        by_cases hc : a < s1.length
        · rw [show min a s1.length = a by omega, show min (a + 1) s1.length = a + 1 by omega, show max a s1.length = s1.length by omega, show max (a + 1) s1.length = s1.length by omega, farM_self, spAt_left hc]
          have := h3 a (a + 1) (by omega) (by omega)
          rw [T0_up] at this
          omega
        · rw [show min a s1.length = s1.length by omega, show min (a + 1) s1.length = s1.length by omega, show max a s1.length = a by omega, show max (a + 1) s1.length = a + 1 by omega, h2 _ (by omega), farM_up]
          omega
      by_cases e2 : a = b + 1
      · subst e2
        rw [T0_down]
        by_cases hc : b < s1.length
        · rw [show min b s1.length = b by omega, show min (b + 1) s1.length = b + 1 by omega, show max b s1.length = s1.length by omega, show max (b + 1) s1.length = s1.length by omega, farM_self, spAt_left hc]
          have := h3 (b + 1) b (by omega) (by omega)
          rw [T0_down] at this
          omega
        · rw [show min b s1.length = s1.length by omega, show min (b + 1) s1.length = s1.length by omega, show max b s1.length = b by omega, show max (b + 1) s1.length = b + 1 by omega, h2 _ (by omega), farM_down]
          omega
      · have e3 : T0 (s1 ++ s2) a b = far := by unfold T0; rw [if_neg e, if_neg e1, if_neg e2]
        rw [e3]
        have b1 := farM_bd o (i := max a s1.length) (k := max b s1.length) (by omega) (by omega)
        have b2 := hbd (min a s1.length) (min b s1.length) (by omega) (by omega)
        have b3 : R0 s1 (min a s1.length) (min b s1.length) ≤ 390000 := by
          unfold R0
          split
          · have := sumHi_bd o1 (min a s1.length) (min b s1.length - min a s1.length); omega
          · have := sumLo_bd o1 (min b s1.length) (min a s1.length - min b s1.length); omega
        unfold far
        omega
    · have hom := hm m hx
      have h5 := h4 m hx hk
      unfold okMe at hom
      skip
      rw [show min m.frm.toNat s1.length = m.frm.toNat by omega, show min m.to.toNat s1.length = m.to.toNat by omega, show max m.frm.toNat s1.length = s1.length by omega, show max m.to.toNat s1.length = s1.length by omega, farM_self]
      omega
  refine ⟨⟨fun h => (down h).1, fun h => (up h).1⟩, fun hf => ?_⟩
  obtain ⟨u1, u2⟩ := up hf
  obtain ⟨-, d2⟩ := down u1
  obtain ⟨t1, t2⟩ := dist_tri hm hf
  refine ⟨fun i hi => ?_, fun i hi hi2 => ?_⟩
  · have a1 := u2 i (i + 1) (by omega) (by omega)
    have a2 := u2 (i + 1) i (by omega) (by omega)
    have a3 := d2 i (i + 1) (by omega) (by omega)
    have a4 := d2 (i + 1) i (by omega) (by omega)
    simp only at a1 a2
    rw [show min i s1.length = i by omega, show min (i + 1) s1.length = i + 1 by omega, show max i s1.length = s1.length by omega, show max (i + 1) s1.length = s1.length by omega, farM_self] at a1 a2
    simp only [newSp, Sp.mk.injEq]
    omega
  · have a1 := u2 i (i + 1) (by omega) (by omega)
    have a2 := u2 (i + 1) i (by omega) (by omega)
    simp only at a1 a2
    rw [show min i s1.length = s1.length by omega, show min (i + 1) s1.length = s1.length by omega, show max i s1.length = i by omega, show max (i + 1) s1.length = i + 1 by omega, t2 _ (by omega)] at a1 a2
    rw [farM_up] at a1
    rw [farM_down] at a2
    have hb := left_bd hm2 u1 hi2
    rw [leftSp_at hi2] at hb
    simp only [newSp] at hb
    have e : spAt (s1 ++ s2) i = ⟨(spAt (s1 ++ s2) i).lo, (spAt (s1 ++ s2) i).hi⟩ := rfl
    rw [e]
    simp only [newSp, Sp.mk.injEq]
    omega
end
section
variable {a b : List St} {ms : List Me}
theorem longs_append : longs (a ++ b) = longs a ++ longs b := by simp [longs]
theorem falls_append : falls (a ++ b) = falls a ++ falls b := by simp [falls]
theorem msOk_more {n n' : Nat} {l : List Me} (h : msOk n l = true) (hn : n ≤ n') : msOk n' l = true := by
  simp only [msOk, Bool.and_eq_true, decide_eq_true_eq, List.all_eq_true] at h ⊢
  refine ⟨h.1, fun m hm => ?_⟩
  have := h.2 m hm
  simp only [meOk, decide_eq_true_eq] at this ⊢
  omega
theorem narrow_joined (ha : valid a = true) (hb : valid b = true) (hv : valid (a ++ b) = true) (hm : msOk a.length ms = true) :
    msOk (a ++ b).length ms = true ∧ errN (a ++ b) ms = errN a ms ∧ (errN a ms = 0 → nT (a ++ b) ms = nT a ms ++ b) := by
  have hl := (valid_len hv).2
  have hlen : (a ++ b).length = a.length + b.length := List.length_append
  have hm2 : msOk (a ++ b).length ms = true := msOk_more hm (by omega)
  have oa := valid_okay ha
  have ob := valid_okay hb
  have l1 : (longs a).length = a.length := by simp [longs]
  have l2 : (falls a).length = a.length := by simp [falls]
  have l3 : (longs a ++ longs b).length = (a ++ b).length := by simp [longs]
  have l4 : (falls a ++ falls b).length = (a ++ b).length := by simp [falls]
  have j1 := joined_k (k := 1) (s1 := longs a) (s2 := longs b) (ms := ms) (okSps_longs oa) (okSps_longs ob) (by omega) (by rw [l1]; exact ok_me hm)
  have j2 := joined_k (k := 2) (s1 := falls a) (s2 := falls b) (ms := ms) (okSps_falls oa) (okSps_falls ob) (by omega) (by rw [l2]; exact ok_me hm)
  rw [l1, l3, ← longs_append] at j1
  rw [l2, l4, ← falls_append] at j2
  have e : rnB (a ++ b) ms = rnB a ms := by
    rw [Bool.eq_iff_iff, rnB_iff hv hm2, rnB_iff ha hm, j1.1, j2.1]
  have e2 : errN (a ++ b) ms = errN a ms := by rw [errN_yes hv hm2, errN_yes ha hm, e]
  refine ⟨hm2, e2, fun he => ?_⟩
  have hb1 := errN_fine ha hm he
  obtain ⟨f1, f2⟩ := (rnB_iff ha hm).1 hb1
  obtain ⟨p1, p2⟩ := j1.2 f1
  obtain ⟨q1, q2⟩ := j2.2 f2
  rw [nT_lefts hv hm2 (e.trans hb1), nT_lefts ha hm hb1]
  apply List.ext_getElem?
  intro i
  rw [lefts_get]
  by_cases hi : i < a.length
  · rw [List.getElem?_append_left hi, List.getElem?_append_left (by rw [lefts_len]; exact hi), lefts_get]
    rw [List.getElem?_eq_getElem hi]
    simp only [Option.map_some]
    rw [p1 i hi, q1 i hi]
  · rw [List.getElem?_append_right (by omega), List.getElem?_append_right (by rw [lefts_len]; omega), lefts_len]
    by_cases hi2 : i < (a ++ b).length
    · have hz : (a ++ b)[i]? = some (b[i - a.length]'(by omega)) := by
        rw [List.getElem?_append_right (by omega), List.getElem?_eq_getElem (by omega)]
      rw [List.getElem?_eq_getElem (by omega : i - a.length < b.length)]
      simp only [Option.map_some]
      rw [p2 i (by omega) hi2, q2 i (by omega) hi2, longs_at hz, falls_at hz]
    · rw [List.getElem?_eq_none (by omega)]; rfl
end
end Go.Proofs.Ytekjkaoibcfgfaa
