/- Marks, falls, places, slopes and ways, of truths by choices. Plain facts. -/
import Derived.Test.YtekjkaoibcfgfaaZ1
import Derived.Test.YtekjkaoibcfgfaaZ7
import Derived.Test.YtekjkaoibcfgfaaW3
import Derived.Test.YtekjkaoibcfgfaaV8
import Derived.Test.YtekjkaoibcfgfaaV5
import Derived.Test.YtekjkaoibcfgfaaSlope
import Derived.Test.YtekjkaoibcfgfaaY9
namespace Go.Proofs.Ytekjkaoibcfgfaa
set_option linter.unusedSimpArgs false
set_option linter.unusedVariables false

section
variable {t : List St} {L F : List Int}
theorem getD_in {t : List St} {L : List Int} {s : List Sp} (h : InT L s) (hs : s.length = t.length) {i : Nat} (hi : i < t.length) : i < L.length := by have := h.len; omega
/-- how far marks are apart, as sums from the start -/
theorem longBetween_sums {i : Nat} : ∀ d : Nat, i + d ≤ t.length → longBetween t i (i + d) = ⟨sumLo (longs t) 0 (i + d) - sumLo (longs t) 0 i, sumHi (longs t) 0 (i + d) - sumHi (longs t) 0 i⟩
  | 0, _ => by rw [Nat.add_zero, longBetween_self]; simp
  | d + 1, h => by
    have hz : t[i + d]? = some t[i + d] := by simp [show i + d < t.length by omega]
    rw [show i + (d + 1) = i + d + 1 by omega, longBetween_succ (by omega) (by omega), longBetween_sums d (by omega)]
    simp only [addSp, sumLo, sumHi, Nat.zero_add, longs_at hz, Sp.mk.injEq]
    omega
theorem fallBetween_sums {i : Nat} : ∀ d : Nat, i + d ≤ t.length → fallBetween t i (i + d) = ⟨sumLo (falls t) 0 (i + d) - sumLo (falls t) 0 i, sumHi (falls t) 0 (i + d) - sumHi (falls t) 0 i⟩
  | 0, _ => by rw [Nat.add_zero, fallBetween_self]; simp
  | d + 1, h => by
    have hz : t[i + d]? = some t[i + d] := by simp [show i + d < t.length by omega]
    rw [show i + (d + 1) = i + d + 1 by omega, fallBetween_succ (by omega) (by omega), fallBetween_sums d (by omega)]
    simp only [addSp, sumLo, sumHi, Nat.zero_add, falls_at hz, Sp.mk.injEq]
    omega
theorem longBetween_eq {i k : Nat} (h : i ≤ k) (hk : k ≤ t.length) : longBetween t i k = ⟨sumLo (longs t) 0 k - sumLo (longs t) 0 i, sumHi (longs t) 0 k - sumHi (longs t) 0 i⟩ := by
  have := longBetween_sums (t := t) (i := i) (k - i) (by omega)
  rwa [show i + (k - i) = k by omega] at this
theorem fallBetween_eq {i k : Nat} (h : i ≤ k) (hk : k ≤ t.length) : fallBetween t i k = ⟨sumLo (falls t) 0 k - sumLo (falls t) 0 i, sumHi (falls t) 0 k - sumHi (falls t) 0 i⟩ := by
  have := fallBetween_sums (t := t) (i := i) (k - i) (by omega)
  rwa [show i + (k - i) = k by omega] at this
/-- a truth's sums are within -/
theorem truth_sums {l : List Int} {s : List Sp} (h : InT l s) {i : Nat} : ∀ d : Nat, i + d ≤ s.length → sumLo s 0 (i + d) - sumLo s 0 i ≤ diffM l i (i + d) ∧ diffM l i (i + d) ≤ sumHi s 0 (i + d) - sumHi s 0 i
  | 0, _ => by simp [diffM]
  | d + 1, hd => by
    have ih := truth_sums h (i := i) d (by omega)
    have h1 := h.at_ (i + d) (by omega)
    have h2 := h.len
    rw [show i + (d + 1) = i + d + 1 by omega]
    unfold diffM at *
    rw [pre_succ (by omega)]
    simp only [sumLo, sumHi, Nat.zero_add]
    omega
theorem truth_between {l : List Int} {s : List Sp} (h : InT l s) {i k : Nat} (hik : i ≤ k) (hk : k ≤ s.length) : sumLo s 0 k - sumLo s 0 i ≤ diffM l i k ∧ diffM l i k ≤ sumHi s 0 k - sumHi s 0 i := by
  have := truth_sums h (i := i) (k - i) (by omega)
  rwa [show i + (k - i) = k by omega] at this
theorem truth_long (h : InT L (longs t)) {i k : Nat} (hik : i ≤ k) (hk : k ≤ t.length) : (longBetween t i k).lo ≤ diffM L i k ∧ diffM L i k ≤ (longBetween t i k).hi := by
  rw [longBetween_eq hik hk]
  exact truth_between h hik (by rw [longs_len']; exact hk)
theorem truth_fall (h : InT F (falls t)) {i k : Nat} (hik : i ≤ k) (hk : k ≤ t.length) : (fallBetween t i k).lo ≤ diffM F i k ∧ diffM F i k ≤ (fallBetween t i k).hi := by
  rw [fallBetween_eq hik hk]
  exact truth_between h hik (by rw [falls_len']; exact hk)
theorem mark_eq {i : Nat} (hi : i ≤ t.length) : mark t i = ⟨sumLo (longs t) 0 i, sumHi (longs t) 0 i⟩ := by
  unfold mark
  rw [longBetween_eq (Nat.zero_le _) hi]
  simp [sumLo, sumHi]
theorem truth_mark (h : InT L (longs t)) {i : Nat} (hi : i ≤ t.length) : (mark t i).lo ≤ pre L i ∧ pre L i ≤ (mark t i).hi := by
  have := truth_long h (Nat.zero_le i) hi
  unfold diffM at this
  rw [pre_zero] at this
  unfold mark
  omega

/-! ### the least and the greatest truth, as tracks -/
def leastS (s : St) : St := { s with long := ⟨s.long.lo, s.long.lo⟩, fall := ⟨s.fall.lo, s.fall.lo⟩ }
def mostS (s : St) : St := { s with long := ⟨s.long.hi, s.long.hi⟩, fall := ⟨s.fall.hi, s.fall.hi⟩ }
theorem valid_map {f : St → St} (hf : ∀ s, Okay s → (f s).id = s.id ∧ (f s).radius = s.radius ∧ (f s).side = s.side ∧ (f s).wall = s.wall ∧ 1 ≤ (f s).long.lo ∧ (f s).long.lo ≤ (f s).long.hi ∧ (f s).long.hi ≤ 30000 ∧ 0 ≤ (f s).fall.lo ∧ (f s).fall.lo ≤ (f s).fall.hi ∧ (f s).fall.hi ≤ 5000) (hv : valid t = true) : valid (t.map f) = true := by
  have key : ∀ (t : List St) (last : Int), (∀ s ∈ t, Okay s) → okFrom last t = true → okFrom last (t.map f) = true := by
    intro t
    induction t with
    | nil => intro _ _ _; rfl
    | cons s r ih =>
      intro last ho h
      simp only [okFrom, List.map_cons, Bool.and_eq_true] at h ⊢
      obtain ⟨h1, h2, h3, h4, h5⟩ := hf s (ho s (by simp))
      refine ⟨?_, by rw [h1]; exact ih _ (fun x hx => ho x (by simp [hx])) h.2⟩
      have h6 := h.1
      simp only [stOk, Bool.and_eq_true, inB_iff, knownB_iff] at h6 ⊢
      obtain ⟨⟨⟨⟨g1, g2⟩, g3⟩, g4⟩, g5⟩ := h6
      rw [h1, h2, h3, h4]
      exact ⟨⟨⟨⟨g1, by omega⟩, by omega⟩, g4⟩, g5⟩
  have ho := valid_okay hv
  simp only [valid, Bool.and_eq_true, List.length_map] at hv ⊢
  exact ⟨hv.1, key t _ ho hv.2⟩
theorem least_valid (hv : valid t = true) : valid (t.map leastS) = true := valid_map (fun s h => by have := h.l0; have := h.l1; have := h.l2; have := h.f0; have := h.f1; have := h.f2; unfold leastS; exact ⟨rfl, rfl, rfl, rfl, by dsimp only; omega, by dsimp only; omega, by dsimp only; omega, by dsimp only; omega, by dsimp only; omega, by dsimp only; omega⟩) hv
theorem most_valid (hv : valid t = true) : valid (t.map mostS) = true := valid_map (fun s h => by have := h.l0; have := h.l1; have := h.l2; have := h.f0; have := h.f1; have := h.f2; unfold mostS; exact ⟨rfl, rfl, rfl, rfl, by dsimp only; omega, by dsimp only; omega, by dsimp only; omega, by dsimp only; omega, by dsimp only; omega, by dsimp only; omega⟩) hv
theorem spAt_longs_map {f : St → St} {i : Nat} (hi : i < t.length) : spAt (longs (t.map f)) i = (f t[i]).long := longs_at (by simp [hi])
theorem spAt_falls_map {f : St → St} {i : Nat} (hi : i < t.length) : spAt (falls (t.map f)) i = (f t[i]).fall := falls_at (by simp [hi])
theorem sums_map {i : Nat} (hi : i ≤ t.length) :
    (sumLo (longs (t.map leastS)) 0 i = sumLo (longs t) 0 i ∧ sumHi (longs (t.map leastS)) 0 i = sumLo (longs t) 0 i) ∧ (sumLo (longs (t.map mostS)) 0 i = sumHi (longs t) 0 i ∧ sumHi (longs (t.map mostS)) 0 i = sumHi (longs t) 0 i) ∧
    (sumLo (falls (t.map leastS)) 0 i = sumLo (falls t) 0 i ∧ sumHi (falls (t.map leastS)) 0 i = sumLo (falls t) 0 i) ∧ (sumLo (falls (t.map mostS)) 0 i = sumHi (falls t) 0 i ∧ sumHi (falls (t.map mostS)) 0 i = sumHi (falls t) 0 i) := by
  induction i with
  | zero => simp [sumLo, sumHi]
  | succ i ih =>
    have hz : t[i]? = some t[i] := by simp [show i < t.length by omega]
    obtain ⟨⟨a1, a2⟩, ⟨a3, a4⟩, ⟨a5, a6⟩, a7, a8⟩ := ih (by omega)
    simp only [sumLo, sumHi, Nat.zero_add]
    rw [spAt_longs_map (by omega), spAt_longs_map (by omega), spAt_falls_map (by omega), spAt_falls_map (by omega), longs_at hz, falls_at hz]
    simp only [leastS, mostS]
    omega
theorem least_between {i k : Nat} (h : i ≤ k) (hk : k ≤ t.length) :
    longBetween (t.map leastS) i k = ⟨(longBetween t i k).lo, (longBetween t i k).lo⟩ ∧ fallBetween (t.map leastS) i k = ⟨(fallBetween t i k).lo, (fallBetween t i k).lo⟩ := by
  rw [longBetween_eq h (by simpa using hk), fallBetween_eq h (by simpa using hk), longBetween_eq h hk, fallBetween_eq h hk]
  obtain ⟨⟨a1, a2⟩, -, ⟨a5, a6⟩, -⟩ := sums_map (t := t) (i := i) (by omega)
  obtain ⟨⟨b1, b2⟩, -, ⟨b5, b6⟩, -⟩ := sums_map (t := t) (i := k) (by omega)
  rw [a1, a2, a5, a6, b1, b2, b5, b6]
  exact ⟨rfl, rfl⟩
theorem most_between {i k : Nat} (h : i ≤ k) (hk : k ≤ t.length) :
    longBetween (t.map mostS) i k = ⟨(longBetween t i k).hi, (longBetween t i k).hi⟩ ∧ fallBetween (t.map mostS) i k = ⟨(fallBetween t i k).hi, (fallBetween t i k).hi⟩ := by
  rw [longBetween_eq h (by simpa using hk), fallBetween_eq h (by simpa using hk), longBetween_eq h hk, fallBetween_eq h hk]
  obtain ⟨-, ⟨a3, a4⟩, -, a7, a8⟩ := sums_map (t := t) (i := i) (by omega)
  obtain ⟨-, ⟨b3, b4⟩, -, b7, b8⟩ := sums_map (t := t) (i := k) (by omega)
  rw [a3, a4, a7, a8, b3, b4, b7, b8]
  exact ⟨rfl, rfl⟩

/-! ### a stretch that is longer -/
def longer (t : List St) (i : Nat) (n : Int) : List St := t.mapIdx fun j s => if j = i then { s with long := ⟨s.long.lo + n, s.long.hi + n⟩ } else s
theorem longer_len {i : Nat} {n : Int} : (longer t i n).length = t.length := by simp [longer]
theorem longer_get {i j : Nat} {n : Int} : (longer t i n)[j]? = t[j]?.map fun s => if j = i then { s with long := ⟨s.long.lo + n, s.long.hi + n⟩ } else s := by simp [longer]
theorem longer_set {i : Nat} {n : Int} {z : St} (h : t[i]? = some z) : t.set i { z with long := ⟨z.long.lo + n, z.long.hi + n⟩ } = longer t i n := by
  apply List.ext_getElem?
  intro j
  rw [longer_get, List.getElem?_set]
  by_cases e : i = j
  · subst e
    have hi := (List.getElem?_eq_some_iff.1 h).1
    rw [if_pos rfl, if_pos hi, h]; simp
  · rw [if_neg e]
    cases hj : t[j]? with
    | none => rfl
    | some y => simp only [Option.map_some]; rw [if_neg (fun h => e h.symm)]
theorem longer_sums {i : Nat} {n : Int} (hi : i < t.length) : ∀ k : Nat, k ≤ t.length →
    sumLo (longs (longer t i n)) 0 k = sumLo (longs t) 0 k + (if i < k then n else 0) ∧ sumHi (longs (longer t i n)) 0 k = sumHi (longs t) 0 k + (if i < k then n else 0) ∧
    sumLo (falls (longer t i n)) 0 k = sumLo (falls t) 0 k ∧ sumHi (falls (longer t i n)) 0 k = sumHi (falls t) 0 k
  | 0, _ => by simp [sumLo, sumHi]
  | k + 1, hk => by
    have hz : t[k]? = some t[k] := by simp [show k < t.length by omega]
    have hz2 : (longer t i n)[k]? = some (if k = i then { t[k] with long := ⟨t[k].long.lo + n, t[k].long.hi + n⟩ } else t[k]) := by rw [longer_get, hz]; rfl
    obtain ⟨a1, a2, a3, a4⟩ := longer_sums (n := n) hi k (by omega)
    simp only [sumLo, sumHi, Nat.zero_add]
    rw [a1, a2, a3, a4, longs_at hz, falls_at hz, longs_at hz2, falls_at hz2]
    by_cases e : k = i
    · subst e
      simp only [if_true, show ¬ k < k by omega, if_false, show k < k + 1 by omega]
      refine ⟨?_, ?_, ?_, ?_⟩ <;> first | trivial | omega
    · simp only [if_neg e]
      by_cases h : i < k
      · rw [if_pos h, if_pos (by omega)]
        refine ⟨?_, ?_, ?_, ?_⟩ <;> first | trivial | omega
      · rw [if_neg h, if_neg (by omega)]
        refine ⟨?_, ?_, ?_, ?_⟩ <;> first | trivial | omega
theorem longer_mark {i k : Nat} {n : Int} (hi : i < t.length) (hk : k ≤ t.length) : mark (longer t i n) k = ⟨(mark t k).lo + (if i < k then n else 0), (mark t k).hi + (if i < k then n else 0)⟩ := by
  obtain ⟨a1, a2, -, -⟩ := longer_sums (n := n) hi k hk
  rw [mark_eq (by rw [longer_len]; exact hk), mark_eq hk, a1, a2]
theorem longer_fall {i : Nat} {n : Int} (hi : i < t.length) : fallBetween (longer t i n) 0 t.length = fallBetween t 0 t.length := by
  obtain ⟨-, -, a3, a4⟩ := longer_sums (n := n) hi t.length (Nat.le_refl _)
  rw [fallBetween_eq (Nat.zero_le _) (by rw [longer_len]; exact Nat.le_refl _), fallBetween_eq (Nat.zero_le _) (Nat.le_refl _), a3, a4]
  rfl

/-! ### spots by choices -/
def spotI (t : List St) (ch : List Int) (i : Nat) : Spot :=
  ⟨chooseI ch i % t.length, ⟨chooseI ch (i + 1) % (t.getD (chooseI ch i % t.length).toNat default).long.lo, chooseI ch (i + 1) % (t.getD (chooseI ch i % t.length).toNat default).long.lo + chooseI ch (i + 2) % ((t.getD (chooseI ch i % t.length).toNat default).long.lo - chooseI ch (i + 1) % (t.getD (chooseI ch i % t.length).toNat default).long.lo)⟩⟩
theorem spotI_ok {ch : List Int} (hv : valid t = true) (i : Nat) : spotOk t (spotI t ch i) = true := by
  have hl := (valid_len hv).1
  have h1 := Int.emod_nonneg (chooseI ch i) (show (t.length : Int) ≠ 0 by omega)
  have h2 := Int.emod_lt_of_pos (chooseI ch i) (show (0 : Int) < t.length by omega)
  obtain ⟨k, hk⟩ : ∃ k : Nat, chooseI ch i % t.length = k := ⟨_, (Int.toNat_of_nonneg h1).symm⟩
  have hkl : k < t.length := by omega
  have ho := valid_okay hv _ (List.getElem_mem hkl)
  have h0 := ho.l0
  have e : t.getD k default = t[k] := by simp [hkl]
  unfold spotI
  rw [hk, Int.toNat_natCast, e, spotOk_in hkl, knownB_iff]
  simp only
  have h3 := Int.emod_nonneg (chooseI ch (i + 1)) (show t[k].long.lo ≠ 0 by omega)
  have h4 := Int.emod_lt_of_pos (chooseI ch (i + 1)) (show 0 < t[k].long.lo by omega)
  have h5 := Int.emod_nonneg (chooseI ch (i + 2)) (show t[k].long.lo - chooseI ch (i + 1) % t[k].long.lo ≠ 0 by omega)
  have h6 := Int.emod_lt_of_pos (chooseI ch (i + 2)) (show 0 < t[k].long.lo - chooseI ch (i + 1) % t[k].long.lo by omega)
  omega
theorem spotOk_at {s : Spot} (h : spotOk t s = true) : 0 ≤ s.st ∧ s.st < t.length ∧ s.st.toNat < t.length ∧ s.off.lo ≤ s.off.hi := by
  obtain ⟨I, e, hI⟩ := spotOk_yes h
  obtain ⟨st, off⟩ := s
  simp only at e
  subst e
  rw [spotOk_in hI, knownB_iff] at h
  simp only [Int.toNat_natCast]
  omega
/-- how far spots are apart -/
theorem apT_eq {a b : Spot} (hv : valid t = true) (ha : spotOk t a = true) (hb : spotOk t b = true) :
    apT t a b = ⟨-(farM (longs t) b.st.toNat a.st.toNat) + b.off.lo - a.off.hi, farM (longs t) a.st.toNat b.st.toNat + b.off.hi - a.off.lo⟩ := by
  obtain ⟨a1, a2, a3, a4⟩ := spotOk_at ha
  obtain ⟨b1, b2, b3, b4⟩ := spotOk_at hb
  unfold apT
  rw [hv, ha, hb]
  simp only [Bool.and_self, if_true]
  by_cases h : b.st < a.st
  · rw [if_pos h]
    unfold ap0 negSp farM
    rw [longBetween_eq (by omega) (by omega), if_pos (by omega), if_neg (by omega)]
    simp only [Sp.mk.injEq]
    omega
  · rw [if_neg h]
    unfold ap0 farM
    rw [longBetween_eq (by omega) (by omega), if_pos (show a.st.toNat ≤ b.st.toNat by omega)]
    by_cases e : b.st.toNat ≤ a.st.toNat
    · rw [if_pos e]
      have : a.st.toNat = b.st.toNat := by omega
      rw [this]
      simp only [Sp.mk.injEq, and_true]
      omega
    · rw [if_neg e]
      simp only [Sp.mk.injEq, and_true]
      omega
theorem truth_far (h : InT L (longs t)) {i k : Nat} (hi : i ≤ t.length) (hk : k ≤ t.length) : pre L k - pre L i ≤ farM (longs t) i k := by
  unfold farM
  split
  · have := truth_between h (show i ≤ k by omega) (by rw [longs_len']; exact hk)
    unfold diffM at this; omega
  · have := truth_between h (show k ≤ i by omega) (by rw [longs_len']; exact hi)
    unfold diffM at this; omega
/-- all that TrackApart asks -/
theorem apart_facts {a b c : Spot} {x y : Int} (hv : valid t = true) (ha : spotOk t a = true) (hb : spotOk t b = true) (hc : spotOk t c = true) (h : InT L (longs t)) (hx : a.off.lo ≤ x ∧ x ≤ a.off.hi) (hy : b.off.lo ≤ y ∧ y ≤ b.off.hi) :
    apT t b a = ⟨-(apT t a b).hi, -(apT t a b).lo⟩ ∧ (apT t a c).lo + (apT t c b).lo ≤ (apT t a b).lo ∧ (apT t a b).hi ≤ (apT t a c).hi + (apT t c b).hi ∧
    ((atT t a).lo ≤ pre L a.st.toNat + x ∧ pre L a.st.toNat + x ≤ (atT t a).hi) ∧ ((atT t b).lo ≤ pre L b.st.toNat + y ∧ pre L b.st.toNat + y ≤ (atT t b).hi) ∧
    ((apT t a b).lo ≤ pre L b.st.toNat + y - (pre L a.st.toNat + x) ∧ pre L b.st.toNat + y - (pre L a.st.toNat + x) ≤ (apT t a b).hi) ∧ (atT t b).lo - (atT t a).hi ≤ (apT t a b).lo ∧ (apT t a b).hi ≤ (atT t b).hi - (atT t a).lo := by
  obtain ⟨a1, a2, a3, a4⟩ := spotOk_at ha
  obtain ⟨b1, b2, b3, b4⟩ := spotOk_at hb
  obtain ⟨c1, c2, c3, c4⟩ := spotOk_at hc
  have ok := okSps_longs (valid_okay hv)
  have ea : atT t a = addSp (mark t a.st.toNat) a.off := by unfold atT; rw [hv, ha]; rfl
  have eb : atT t b = addSp (mark t b.st.toNat) b.off := by unfold atT; rw [hv, hb]; rfl
  rw [apT_eq hv ha hb, apT_eq hv hb ha, apT_eq hv ha hc, apT_eq hv hc hb, ea, eb]
  have q1 := farM_tri ok (i := b.st.toNat) (k := a.st.toNat) (y := c.st.toNat)
  have q2 := farM_tri ok (i := a.st.toNat) (k := b.st.toNat) (y := c.st.toNat)
  have m1 := truth_mark h (i := a.st.toNat) (by omega)
  have m2 := truth_mark h (i := b.st.toNat) (by omega)
  have m3 := truth_far h (i := a.st.toNat) (k := b.st.toNat) (by omega) (by omega)
  have m4 := truth_far h (i := b.st.toNat) (k := a.st.toNat) (by omega) (by omega)
  have m5 : farM (longs t) b.st.toNat a.st.toNat ≤ (mark t a.st.toNat).hi - (mark t b.st.toNat).lo := by
    rw [mark_eq (by omega), mark_eq (by omega)]
    unfold farM
    have w1 := sum_wide' ok (Nat.zero_le a.st.toNat)
    have w2 := sum_wide' ok (Nat.zero_le b.st.toNat)
    simp only [sumLo, sumHi] at w1 w2 ⊢
    split <;> omega
  have m6 : farM (longs t) a.st.toNat b.st.toNat ≤ (mark t b.st.toNat).hi - (mark t a.st.toNat).lo := by
    rw [mark_eq (by omega), mark_eq (by omega)]
    unfold farM
    have w1 := sum_wide' ok (Nat.zero_le a.st.toNat)
    have w2 := sum_wide' ok (Nat.zero_le b.st.toNat)
    simp only [sumLo, sumHi] at w1 w2 ⊢
    split <;> omega
  simp only [addSp, Sp.mk.injEq]
  refine ⟨by omega, by omega, by omega, by omega, by omega, by omega, by omega, by omega⟩
end
end Go.Proofs.Ytekjkaoibcfgfaa
/- A place is where it may be, and nowhere else. Plain facts. -/
namespace Go.Proofs.Ytekjkaoibcfgfaa
set_option linter.unusedSimpArgs false
set_option linter.unusedVariables false

section
variable {α : Type} {p : Nat → α → Bool} {l : List α}
theorem picks_get {k : Nat} {x : Int} (h : (picks p l)[k]? = some x) : ∃ I : Nat, x = (I : Int) ∧ I < l.length ∧ soAt p l I = true := by
  have hm := List.mem_of_getElem? h
  unfold picks picksTo at hm
  obtain ⟨I, hI, rfl⟩ := List.mem_map.1 hm
  obtain ⟨h1, h2⟩ := List.mem_filter.1 hI
  exact ⟨I, rfl, List.mem_range.1 h1, h2⟩
theorem picks_lt {k k' : Nat} {x y : Int} (hk : k < k') (h : (picks p l)[k]? = some x) (h' : (picks p l)[k']? = some y) : x < y := by
  have hs : (picks p l).Pairwise (· < ·) := by
    unfold picks picksTo
    rw [List.pairwise_map]
    refine (List.Pairwise.filter _ List.pairwise_lt_range).imp (fun {a b} h => ?_)
    show (a : Int) < (b : Int)
    omega
  obtain ⟨h1, rfl⟩ := List.getElem?_eq_some_iff.1 h
  obtain ⟨h2, rfl⟩ := List.getElem?_eq_some_iff.1 h'
  exact List.pairwise_iff_getElem.1 hs k k' h1 h2 hk
theorem picks_mem {I : Nat} (hI : I < l.length) (h : soAt p l I = true) : (I : Int) ∈ picks p l := by
  unfold picks picksTo
  exact List.mem_map.2 ⟨I, List.mem_filter.2 ⟨List.mem_range.2 hI, h⟩, rfl⟩
end
/-- which stretch a place is in, in a truth, of the first i; or behind all n -/
def IsAt (L : List Int) (p : Int) (n i s : Nat) : Prop := (s = n ∧ ∀ j, j < i → ¬ (pre L j ≤ p ∧ p < pre L (j + 1))) ∨ (s < i ∧ pre L s ≤ p ∧ p < pre L (s + 1))
section
variable {t : List St} {L : List Int} {p : Int}
theorem isAt_start : IsAt L p t.length 0 t.length := .inl ⟨rfl, fun _ h => by omega⟩
theorem isAt_yes {i : Nat} (h : pre L i ≤ p ∧ p < pre L (i + 1)) : IsAt L p t.length (i + 1) i := .inr ⟨by omega, h.1, h.2⟩
theorem isAt_no {i s : Nat} (h : ¬ (pre L i ≤ p ∧ p < pre L (i + 1))) (hs : IsAt L p t.length i s) : IsAt L p t.length (i + 1) s := by
  rcases hs with ⟨h1, h2⟩ | ⟨h1, h2⟩
  · refine .inl ⟨h1, fun j hj => ?_⟩
    by_cases e : j = i
    · subst e; exact h
    · exact h2 j (by omega)
  · exact .inr ⟨by omega, h2⟩
theorem placeP_at {I : Nat} (hI : I ≤ t.length) (h : soAt (placeP (marks t) p) (marks t) I = true) : (mark t I).lo ≤ p ∧ (I < t.length → p < (mark t (I + 1)).hi) := by
  unfold soAt at h
  rw [marks_get t hI] at h
  simp only [placeP, Bool.and_eq_true, Bool.or_eq_true, decide_eq_true_eq] at h
  refine ⟨h.1, fun hlt => ?_⟩
  rcases h.2 with h2 | h2
  · rw [marks_len] at h2; omega
  · rw [marks_get t (by omega)] at h2
    simpa using h2
theorem placed_is {s : Nat} (hv : valid t = true) (h : InT L (longs t)) (hp : 0 ≤ p) (hs : IsAt L p t.length t.length s) : s ≤ t.length ∧ soAt (placeP (marks t) p) (marks t) s = true := by
  have hl := h.len
  rw [longs_len'] at hl
  unfold soAt
  rcases hs with ⟨rfl, h2⟩ | ⟨h1, h2, h3⟩
  · refine ⟨Nat.le_refl _, ?_⟩
    have key : ∀ j, j ≤ t.length → pre L j ≤ p := by
      intro j
      induction j with
      | zero => intro _; rw [pre_zero]; exact hp
      | succ j ih =>
        intro hj
        have a1 := ih (by omega)
        have a2 := h2 j (by omega)
        omega
    have a1 := key t.length (Nat.le_refl _)
    have a2 := (truth_mark h (Nat.le_refl t.length)).1
    rw [marks_get t (Nat.le_refl _)]
    simp only [placeP, Bool.and_eq_true, Bool.or_eq_true, decide_eq_true_eq]
    exact ⟨by omega, .inl (by rw [marks_len])⟩
  · refine ⟨by omega, ?_⟩
    have a1 := (truth_mark h (show s ≤ t.length by omega)).1
    have a2 := (truth_mark h (show s + 1 ≤ t.length by omega)).2
    rw [marks_get t (by omega)]
    simp only [placeP, Bool.and_eq_true, Bool.or_eq_true, decide_eq_true_eq]
    refine ⟨by omega, .inr ?_⟩
    rw [marks_get t (by omega)]
    simp only [decide_eq_true_eq]
    omega
theorem isAt_ex (i : Nat) : ∃ s, IsAt L p t.length i s := by
  induction i with
  | zero => exact ⟨_, isAt_start⟩
  | succ i ih =>
    obtain ⟨s, hs⟩ := ih
    by_cases h : pre L i ≤ p ∧ p < pre L (i + 1)
    · exact ⟨i, isAt_yes h⟩
    · exact ⟨s, isAt_no h hs⟩
theorem placed_mem {s : Nat} (hv : valid t = true) (h : InT L (longs t)) (hp : 0 ≤ p) (hs : IsAt L p t.length t.length s) : (s : Int) ∈ picks (placeP (marks t) p) (marks t) := by
  obtain ⟨h1, h2⟩ := placed_is hv h hp hs
  exact picks_mem (by rw [marks_len]; omega) h2
theorem placed_some (hv : valid t = true) (h : InT L (longs t)) (hp : 0 ≤ p) : (picks (placeP (marks t) p) (marks t)).length ≠ 0 := by
  obtain ⟨s, hs⟩ := isAt_ex (t := t) (L := L) (p := p) t.length
  have := placed_mem hv h hp hs
  intro e
  rw [List.eq_nil_of_length_eq_zero e] at this
  cases this
theorem placed_get {k : Nat} {x : Int} (h : (picks (placeP (marks t) p) (marks t))[k]? = some x) : ∃ I : Nat, x = (I : Int) ∧ I ≤ t.length ∧ (mark t I).lo ≤ p ∧ (I < t.length → p < (mark t (I + 1)).hi) := by
  obtain ⟨I, h1, h2, h3⟩ := picks_get h
  rw [marks_len] at h2
  exact ⟨I, h1, by omega, placeP_at (by omega) h3⟩
theorem mark_next {I : Nat} {z : St} (hz : t[I]? = some z) : (mark t (I + 1)).hi = (mark t I).hi + z.long.hi := by
  have hI := (List.getElem?_eq_some_iff.1 hz).1
  unfold mark
  rw [longBetween_succ (Nat.zero_le _) hI]
  have e : t[I] = z := by rw [List.getElem?_eq_getElem hI] at hz; exact Option.some.inj hz
  rw [e]; rfl
theorem mark_bd {I : Nat} (hv : valid t = true) (hI : I ≤ t.length) : 0 ≤ (mark t I).lo ∧ (mark t I).lo ≤ (mark t I).hi ∧ (mark t I).hi ≤ 360000 := by
  have h := between_bd (valid_okay hv) (Nat.zero_le I) hI
  have hl := valid_len hv
  unfold mark
  omega
end
end Go.Proofs.Ytekjkaoibcfgfaa
/- The steepest stretch, in a truth. Plain facts. -/
namespace Go.Proofs.Ytekjkaoibcfgfaa
set_option linter.unusedSimpArgs false
set_option linter.unusedVariables false

theorem mul_mono {a b c d : Int} (h1 : 0 ≤ a) (h2 : a ≤ b) (h3 : 0 ≤ c) (h4 : c ≤ d) : a * c ≤ b * d :=
  Int.le_trans (Int.mul_le_mul_of_nonneg_right h2 h3) (Int.mul_le_mul_of_nonneg_left h4 (by omega))
/-- one of some is the steepest one -/
theorem best_ex (F L : Nat → Int) (hL : ∀ q, 0 < L q) : ∀ n, 0 < n → ∃ i, i < n ∧ ∀ q, q < n → F q * L i ≤ F i * L q
  | 0, h => by omega
  | 1, _ => ⟨0, by omega, fun q hq => by obtain rfl : q = 0 := by omega
                                         exact Int.le_refl _⟩
  | n + 2, _ => by
    obtain ⟨i, hi, hq⟩ := best_ex F L hL (n + 1) (by omega)
    by_cases h : F (n + 1) * L i ≤ F i * L (n + 1)
    · refine ⟨i, by omega, fun q hq2 => ?_⟩
      by_cases e : q = n + 1
      · subst e; exact h
      · exact hq q (by omega)
    · refine ⟨n + 1, by omega, fun q hq2 => ?_⟩
      by_cases e : q = n + 1
      · subst e; exact Int.le_refl _
      · have h1 := hq q (by omega)
        have h2 : F i * L (n + 1) < F (n + 1) * L i := by omega
        refine Int.le_of_mul_le_mul_right ?_ (hL i)
        have a1 : F q * L (n + 1) * L i = F q * L i * L (n + 1) := Int.mul_right_comm _ _ _
        have a2 : F q * L i * L (n + 1) ≤ F i * L q * L (n + 1) := Int.mul_le_mul_of_nonneg_right h1 (by have := hL (n + 1); omega)
        have a3 : F i * L q * L (n + 1) = F i * L (n + 1) * L q := Int.mul_right_comm _ _ _
        have a4 : F i * L (n + 1) * L q ≤ F (n + 1) * L i * L q := Int.mul_le_mul_of_nonneg_right (by omega) (by have := hL q; omega)
        have a5 : F (n + 1) * L i * L q = F (n + 1) * L q * L i := Int.mul_right_comm _ _ _
        omega
section
variable {t : List St} {L F : List Int}
/-- what is the steepest one in a truth is told -/
theorem steep_told (hv : valid t = true) (h1 : InT L (longs t)) (h2 : InT F (falls t)) {i : Nat} (hi : i < t.length) (hb : ∀ q, q < t.length → F.getD q 0 * L.getD i 0 ≤ F.getD i 0 * L.getD q 0) : (i : Int) ∈ picks (steepP t) t := by
  have ho := valid_okay hv
  have hz : t[i]? = some t[i] := List.getElem?_eq_getElem hi
  refine picks_mem hi ?_
  unfold soAt
  rw [hz]
  simp only [steepP, decide_eq_true_eq]
  cases hp : picks (lessP t[i] i) t with
  | nil => rfl
  | cons x r =>
    exfalso
    obtain ⟨k, -, hk, hs⟩ := picks_get (p := lessP t[i] i) (l := t) (k := 0) (x := x) (by rw [hp]; rfl)
    have hzk : t[k]? = some t[k] := List.getElem?_eq_getElem hk
    unfold soAt at hs
    rw [hzk] at hs
    simp only [lessP, Bool.and_eq_true, decide_eq_true_eq] at hs
    have a1 := h1.at_ i (by rw [longs_len']; exact hi)
    have a2 := h1.at_ k (by rw [longs_len']; exact hk)
    have a3 := h2.at_ i (by rw [falls_len']; exact hi)
    have a4 := h2.at_ k (by rw [falls_len']; exact hk)
    rw [longs_at hz] at a1
    rw [longs_at hzk] at a2
    rw [falls_at hz] at a3
    rw [falls_at hzk] at a4
    have o1 := ho _ (List.getElem_mem hi)
    have o2 := ho _ (List.getElem_mem hk)
    have e1 := o1.l0; have e2 := o1.f0; have e3 := o2.l0; have e4 := o2.f0
    have b1 : t[k].fall.lo * t[i].long.lo ≤ F.getD k 0 * L.getD i 0 := mul_mono e4 a4.1 (by omega) a1.1
    have b2 : F.getD i 0 * L.getD k 0 ≤ t[i].fall.hi * t[k].long.hi := mul_mono (by omega) a3.2 (by omega) a2.2
    have b3 := hb k hk
    have b4 := hs.2
    omega
theorem steep_some (hv : valid t = true) (h1 : InT L (longs t)) (h2 : InT F (falls t)) : (picks (steepP t) t).length ≠ 0 := by
  have hl := (valid_len hv).1
  have ho := valid_okay hv
  obtain ⟨i, hi, hb⟩ := best_ex (fun q => F.getD q 0) (fun q => if q < t.length then L.getD q 0 else 1) (fun q => by
    skip
    split
    · rename_i hq
      have a1 := h1.at_ q (by rw [longs_len']; exact hq)
      rw [longs_at (List.getElem?_eq_getElem hq)] at a1
      have := (ho _ (List.getElem_mem hq)).l0
      omega
    · omega) t.length (by omega)
  have := steep_told hv h1 h2 hi (fun q hq => by
    have := hb q hq
    skip
    rw [if_pos hi, if_pos hq] at this
    exact this)
  intro e
  rw [List.eq_nil_of_length_eq_zero e] at this
  cases this
theorem steep_get {k : Nat} {x : Int} (h : (picks (steepP t) t)[k]? = some x) : ∃ I : Nat, x = (I : Int) ∧ I < t.length := by
  obtain ⟨I, h1, h2, h3⟩ := picks_get h
  exact ⟨I, h1, h2⟩
/-- a slope is within what is told -/
theorem slope_in {z : St} {x y : Int} (ho : Okay z) (hx : z.long.lo ≤ x ∧ x ≤ z.long.hi) (hy : z.fall.lo ≤ y ∧ y ≤ z.fall.hi) :
    (slopeOf z).lo * x ≤ y * 1000 ∧ y * 1000 ≤ (slopeOf z).hi * x ∧ 0 ≤ (slopeOf z).lo * x ∧ (slopeOf z).hi * x ≤ 200000000000 := by
  have e1 := ho.l0; have e2 := ho.l1; have e3 := ho.l2; have e4 := ho.f0; have e5 := ho.f1; have e6 := ho.f2
  unfold slopeOf
  dsimp only
  have g1 : 0 ≤ z.fall.lo * 1000 / z.long.hi := Int.ediv_nonneg (by omega) (by omega)
  have g2 : z.fall.lo * 1000 / z.long.hi * z.long.hi ≤ z.fall.lo * 1000 := Int.ediv_mul_le _ (by omega)
  have g3 : z.fall.lo * 1000 / z.long.hi * x ≤ z.fall.lo * 1000 / z.long.hi * z.long.hi := Int.mul_le_mul_of_nonneg_left hx.2 g1
  have h0 : 0 ≤ (z.fall.hi * 1000 + z.long.lo - 1) / z.long.lo := Int.ediv_nonneg (by omega) (by omega)
  have h1 : z.fall.hi * 1000 + z.long.lo - 1 < ((z.fall.hi * 1000 + z.long.lo - 1) / z.long.lo + 1) * z.long.lo := Int.lt_ediv_add_one_mul_self _ (by omega)
  have h2 : ((z.fall.hi * 1000 + z.long.lo - 1) / z.long.lo + 1) * z.long.lo = (z.fall.hi * 1000 + z.long.lo - 1) / z.long.lo * z.long.lo + z.long.lo := by rw [Int.add_mul, Int.one_mul]
  have h3 : (z.fall.hi * 1000 + z.long.lo - 1) / z.long.lo * z.long.lo ≤ (z.fall.hi * 1000 + z.long.lo - 1) / z.long.lo * x := Int.mul_le_mul_of_nonneg_left hx.1 h0
  have h4 : (z.fall.hi * 1000 + z.long.lo - 1) / z.long.lo ≤ z.fall.hi * 1000 + z.long.lo - 1 := Int.ediv_le_self _ (by omega)
  have h5 : 0 ≤ z.fall.lo * 1000 / z.long.hi * x := Int.mul_nonneg g1 (by omega)
  have h6 : (z.fall.hi * 1000 + z.long.lo - 1) / z.long.lo * x ≤ 5030000 * 30000 := mul_mono h0 (by omega) (by omega) (by omega)
  omega
end
end Go.Proofs.Ytekjkaoibcfgfaa
