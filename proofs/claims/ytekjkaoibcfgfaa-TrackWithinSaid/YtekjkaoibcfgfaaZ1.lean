/- Narrowing twice: plain facts. -/
import Derived.Test.YtekjkaoibcfgfaaX9
import Derived.Test.YtekjkaoibcfgfaaX18
import Derived.Test.YtekjkaoibcfgfaaV1
namespace Go.Proofs.Ytekjkaoibcfgfaa
set_option linter.unusedSimpArgs false
set_option linter.unusedVariables false

theorem dist_tri {kind : Int} {s : List Sp} {ms : List Me} {n : Nat} (hm : ∀ m ∈ ms, okMe n m) (hf : fineK kind s ms n) : Tri n (dist kind s ms n) ∧ Diag n (dist kind s ms n) := by
  have h0 := diag_meas (kind := kind) ms _ hm (T0_diag n s)
  exact ⟨fw_tri h0 hf, fwTo_diag h0 hf⟩
theorem dist_le {kind : Int} {s : List Sp} {ms : List Me} {n : Nat} : Le n (dist kind s ms n) (meas kind (T0 s) ms) := fun i k _ _ => fwTo_le _ n i k
theorem meas_le {kind : Int} {ms : List Me} {n : Nat} {M : Mat} (hm : ∀ m ∈ ms, okMe n m) : Le n (meas kind M ms) M := ((le_meas ms M hm).1 (fun i k _ _ => Int.le_refl _)).1
/-- the spans that measures of a kind leave -/
def leftSp (kind : Int) (s : List Sp) (ms : List Me) : List Sp := (List.range s.length).map (newSp (dist kind s ms (s.length + 1)))
theorem leftSp_len {kind : Int} {s : List Sp} {ms : List Me} : (leftSp kind s ms).length = s.length := by simp [leftSp]
theorem leftSp_at {kind : Int} {s : List Sp} {ms : List Me} {i : Nat} (h : i < s.length) : spAt (leftSp kind s ms) i = newSp (dist kind s ms (s.length + 1)) i := by
  unfold spAt leftSp
  rw [List.getD_eq_getElem?_getD, List.getElem?_map, List.getElem?_range h]; rfl
theorem leftSp_far {kind : Int} {s : List Sp} {ms : List Me} {i : Nat} (h : ¬ i < s.length) : spAt (leftSp kind s ms) i = ⟨0, 0⟩ := by
  unfold spAt leftSp
  rw [List.getD_eq_getElem?_getD, List.getElem?_eq_none (by simp; omega)]; rfl
theorem T0_up {s : List Sp} {i : Nat} : T0 s i (i + 1) = (spAt s i).hi := by unfold T0; rw [if_neg (by omega), if_pos rfl]
theorem T0_down {s : List Sp} {i : Nat} : T0 s (i + 1) i = -(spAt s i).lo := by unfold T0; rw [if_neg (by omega), if_neg (by omega), if_pos rfl]
section
variable {kind : Int} {s : List Sp} {ms ms2 : List Me}
theorem left_bd (hm : ∀ m ∈ ms, okMe (s.length + 1) m) (hf : fineK kind s ms (s.length + 1)) {i : Nat} (hi : i < s.length) :
    (spAt s i).lo ≤ (spAt (leftSp kind s ms) i).lo ∧ (spAt (leftSp kind s ms) i).lo ≤ (spAt (leftSp kind s ms) i).hi ∧ (spAt (leftSp kind s ms) i).hi ≤ (spAt s i).hi := by
  rw [leftSp_at hi]
  obtain ⟨h1, h2⟩ := dist_tri hm hf
  have a1 := h1 i i (i + 1) (by omega) (by omega) (by omega)
  rw [h2 i (by omega)] at a1
  have b1 := Int.le_trans (dist_le (kind := kind) (s := s) (ms := ms) (n := s.length + 1) (i + 1) i (by omega) (by omega)) (meas_le hm (i + 1) i (by omega) (by omega))
  have b2 := Int.le_trans (dist_le (kind := kind) (s := s) (ms := ms) (n := s.length + 1) i (i + 1) (by omega) (by omega)) (meas_le hm i (i + 1) (by omega) (by omega))
  rw [T0_down] at b1
  rw [T0_up] at b2
  simp only [newSp]
  omega
theorem left_okSps (hs : okSps s) (hm : ∀ m ∈ ms, okMe (s.length + 1) m) (hf : fineK kind s ms (s.length + 1)) : okSps (leftSp kind s ms) := fun i => by
  by_cases hi : i < s.length
  · have := left_bd hm hf hi
    have := hs i
    omega
  · rw [leftSp_far hi]; simp
/-- with those measures and more, it makes no difference whether one narrows what was narrowed -/
theorem left_more (hm : ∀ m ∈ ms, okMe (s.length + 1) m) (hm2 : ∀ m ∈ ms2, okMe (s.length + 1) m) (hsub : ∀ m ∈ ms, m ∈ ms2) (hf : fineK kind s ms (s.length + 1)) {E : Mat} (hE : Tri (s.length + 1) E) :
    Le (s.length + 1) E (meas kind (T0 (leftSp kind s ms)) ms2) ↔ Le (s.length + 1) E (meas kind (T0 s) ms2) := by
  rw [le_meas ms2 _ hm2, le_meas ms2 _ hm2]
  constructor
  · rintro ⟨h1, h2⟩
    refine ⟨fun a b ha hb => Int.le_trans (h1 a b ha hb) ?_, h2⟩
    by_cases e : a = b
    · subst e; simp [T0]
    by_cases e1 : b = a + 1
    · subst e1; rw [T0_up, T0_up]; exact (left_bd hm hf (by omega)).2.2
    by_cases e2 : a = b + 1
    · subst e2; rw [T0_down, T0_down]; have := (left_bd (kind := kind) hm hf (show b < s.length by omega)).1; omega
    · unfold T0; rw [if_neg e, if_neg e, if_neg e1, if_neg e1, if_neg e2, if_neg e2]; exact Int.le_refl _
  · rintro ⟨h1, h2⟩
    refine ⟨fun a b ha hb => ?_, h2⟩
    have h3 : Le (s.length + 1) E (meas kind (T0 s) ms) := (le_meas ms _ hm).2 ⟨h1, fun m h => h2 m (hsub m h)⟩
    have h4 := fw_above hE h3 (s.length + 1) (Nat.le_refl _)
    by_cases e : a = b
    · subst e; have := h1 a a ha ha; simpa [T0] using this
    by_cases e1 : b = a + 1
    · subst e1; rw [T0_up, leftSp_at (by omega)]; exact h4 a (a + 1) ha hb
    by_cases e2 : a = b + 1
    · subst e2; rw [T0_down, leftSp_at (by omega)]; have := h4 (b + 1) b ha hb; simp only [newSp]; unfold dist; omega
    · have := h1 a b ha hb
      unfold T0 at this ⊢; rw [if_neg e, if_neg e1, if_neg e2] at *; exact this
theorem left_twice (hm : ∀ m ∈ ms, okMe (s.length + 1) m) (hm2 : ∀ m ∈ ms2, okMe (s.length + 1) m) (hsub : ∀ m ∈ ms, m ∈ ms2) (hf : fineK kind s ms (s.length + 1)) :
    (fineK kind (leftSp kind s ms) ms2 (s.length + 1) ↔ fineK kind s ms2 (s.length + 1)) ∧ (fineK kind (leftSp kind s ms) ms2 (s.length + 1) → AgrM (s.length + 1) (dist kind (leftSp kind s ms) ms2 (s.length + 1)) (dist kind s ms2 (s.length + 1))) :=
  fw_same (diag_meas ms2 _ hm2 (T0_diag _ _)) (diag_meas ms2 _ hm2 (T0_diag _ _)) (fun E hE _ h => (left_more hm hm2 hsub hf hE).1 h) (fun E hE _ h => (left_more hm hm2 hsub hf hE).2 h)
theorem left_twiceL (hm : ∀ m ∈ ms, okMe (s.length + 1) m) (hm2 : ∀ m ∈ ms2, okMe (s.length + 1) m) (hsub : ∀ m ∈ ms, m ∈ ms2) (hf : fineK kind s ms (s.length + 1)) (hf2 : fineK kind s ms2 (s.length + 1)) :
    leftSp kind (leftSp kind s ms) ms2 = leftSp kind s ms2 := by
  have h := (left_twice hm hm2 hsub hf).2 ((left_twice hm hm2 hsub hf).1.2 hf2)
  apply List.ext_getElem?
  intro i
  unfold leftSp
  simp only [List.length_map, List.length_range, List.getElem?_map]
  by_cases hi : i < s.length
  · rw [List.getElem?_range hi]
    simp only [Option.map_some, Option.some.injEq]
    exact newSp_agr h (by omega)
  · rw [List.getElem?_eq_none (by simpa using hi)]; rfl
/-- more measures leave less -/
theorem left_mono (hm : ∀ m ∈ ms, okMe (s.length + 1) m) (hm2 : ∀ m ∈ ms2, okMe (s.length + 1) m) (hsub : ∀ m ∈ ms, m ∈ ms2) (hf2 : fineK kind s ms2 (s.length + 1)) :
    fineK kind s ms (s.length + 1) ∧ Le (s.length + 1) (dist kind s ms2 (s.length + 1)) (dist kind s ms (s.length + 1)) := by
  refine fw_fine (diag_meas ms2 _ hm2 (T0_diag _ _)) (fun E hE _ h => ?_) hf2
  rw [le_meas ms2 _ hm2] at h
  exact (le_meas ms _ hm).2 ⟨h.1, fun m hx => h.2 m (hsub m hx)⟩
/-- if there is a truth, something is left, and the truth is in it -/
theorem left_truth (hm : ∀ m ∈ ms, okMe (s.length + 1) m) {E : Mat} (hE : Tri (s.length + 1) E) (hd : Diag (s.length + 1) E) (h : Le (s.length + 1) E (T0 s)) (h2 : ∀ m ∈ ms, m.kind = kind → E m.frm.toNat m.to.toNat ≤ m.value.hi ∧ E m.to.toNat m.frm.toNat ≤ -m.value.lo) :
    fineK kind s ms (s.length + 1) ∧ Le (s.length + 1) E (dist kind s ms (s.length + 1)) := by
  have h3 : Le (s.length + 1) E (meas kind (T0 s) ms) := (le_meas ms _ hm).2 ⟨h, h2⟩
  refine ⟨fun y hy i hi => ?_, fw_above hE h3 _ (Nat.le_refl _)⟩
  have := fw_above hE h3 y hy i i hi hi
  rw [hd i hi] at this
  exact this
end
end Go.Proofs.Ytekjkaoibcfgfaa
/- What narrowing leaves of a track is a track, and narrower. -/
namespace Go.Proofs.Ytekjkaoibcfgfaa
set_option linter.unusedSimpArgs false
set_option linter.unusedVariables false

/-- the spans of one stretch are in those of another one; else they are the same -/
structure Nar (s' s : St) : Prop where
  id : s'.id = s.id
  radius : s'.radius = s.radius
  side : s'.side = s.side
  wall : s'.wall = s.wall
  l0 : s.long.lo ≤ s'.long.lo
  l1 : s'.long.lo ≤ s'.long.hi
  l2 : s'.long.hi ≤ s.long.hi
  f0 : s.fall.lo ≤ s'.fall.lo
  f1 : s'.fall.lo ≤ s'.fall.hi
  f2 : s'.fall.hi ≤ s.fall.hi
theorem stOk_nar {last : Int} {s' s : St} (h : Nar s' s) (hs : stOk last s = true) : stOk last s' = true := by
  simp only [stOk, Bool.and_eq_true, inB_iff, knownB_iff] at hs ⊢
  obtain ⟨⟨⟨⟨h1, h2⟩, h3⟩, h4⟩, h5⟩ := hs
  have := h.l0; have := h.l1; have := h.l2; have := h.f0; have := h.f1; have := h.f2
  rw [h.id, h.wall, h.side, h.radius]
  exact ⟨⟨⟨⟨h1, by omega⟩, by omega⟩, h4⟩, h5⟩
theorem okFrom_nar : ∀ (t t' : List St) (last : Int), t'.length = t.length → (∀ (i : Nat) z z', t[i]? = some z → t'[i]? = some z' → Nar z' z) → okFrom last t = true → okFrom last t' = true
  | [], [], _, _, _, _ => rfl
  | s :: r, s' :: r', last, hl, h, ho => by
    simp only [okFrom, Bool.and_eq_true] at ho ⊢
    have h0 := h 0 s s' rfl rfl
    refine ⟨stOk_nar h0 ho.1, ?_⟩
    rw [h0.id]
    exact okFrom_nar r r' s.id (by simpa using hl) (fun i z z' hz hz' => h (i + 1) z z' (by simpa using hz) (by simpa using hz')) ho.2
  | [], _ :: _, _, hl, _, _ => by simp at hl
  | _ :: _, [], _, hl, _, _ => by simp at hl
theorem valid_nar {t t' : List St} (hl : t'.length = t.length) (h : ∀ (i : Nat) z z', t[i]? = some z → t'[i]? = some z' → Nar z' z) (hv : valid t = true) : valid t' = true := by
  simp only [valid, Bool.and_eq_true] at hv ⊢
  rw [hl]
  exact ⟨hv.1, okFrom_nar t t' _ hl h hv.2⟩

section
variable {t : List St} {ms ms2 : List Me}
/-- what measures leave, if they leave something -/
def lefts (t : List St) (ms : List Me) : List St := t.mapIdx fun i s => { s with long := newSp (dist 1 (longs t) ms (t.length + 1)) i, fall := newSp (dist 2 (falls t) ms (t.length + 1)) i }
theorem lefts_get {i : Nat} : (lefts t ms)[i]? = t[i]?.map fun s => { s with long := newSp (dist 1 (longs t) ms (t.length + 1)) i, fall := newSp (dist 2 (falls t) ms (t.length + 1)) i } := by
  unfold lefts; rw [List.getElem?_mapIdx]
theorem lefts_len : (lefts t ms).length = t.length := by unfold lefts; simp
theorem stage2_lefts : stage2 t ms = lefts t ms := by
  apply List.ext_getElem?
  intro i
  rw [lefts_get]
  unfold stage2
  rw [falls_stage, updTo_get]
  unfold stage1
  rw [updTo_get]
  cases h : t[i]? with
  | none => rfl
  | some z =>
    have hlt := (List.getElem?_eq_some_iff.1 h).1
    simp [setLong, setFall, hlt]
theorem longs_at {i : Nat} {z : St} (h : t[i]? = some z) : spAt (longs t) i = z.long := by
  unfold spAt longs; rw [List.getD_eq_getElem?_getD, List.getElem?_map, h]; rfl
theorem falls_at {i : Nat} {z : St} (h : t[i]? = some z) : spAt (falls t) i = z.fall := by
  unfold spAt falls; rw [List.getD_eq_getElem?_getD, List.getElem?_map, h]; rfl
theorem longs_lefts : longs (lefts t ms) = leftSp 1 (longs t) ms := by
  apply List.ext_getElem?
  intro i
  unfold longs leftSp
  rw [List.getElem?_map, lefts_get, List.getElem?_map]
  by_cases hi : i < t.length
  · rw [List.getElem?_range (by simpa using hi), List.getElem?_eq_getElem hi]
    simp [longs]
  · rw [List.getElem?_eq_none (by omega), List.getElem?_eq_none (by simpa using hi)]; rfl
theorem falls_lefts : falls (lefts t ms) = leftSp 2 (falls t) ms := by
  apply List.ext_getElem?
  intro i
  unfold falls leftSp
  rw [List.getElem?_map, lefts_get, List.getElem?_map]
  by_cases hi : i < t.length
  · rw [List.getElem?_range (by simpa using hi), List.getElem?_eq_getElem hi]
    simp [falls]
  · rw [List.getElem?_eq_none (by omega), List.getElem?_eq_none (by simpa using hi)]; rfl
theorem lefts_nar (hv : valid t = true) (hm : ∀ m ∈ ms, okMe (t.length + 1) m) (h1 : fineK 1 (longs t) ms (t.length + 1)) (h2 : fineK 2 (falls t) ms (t.length + 1)) : ∀ (i : Nat) z z', t[i]? = some z → (lefts t ms)[i]? = some z' → Nar z' z := fun i z z' hz hz' => by
  have hi := (List.getElem?_eq_some_iff.1 hz).1
  rw [lefts_get, hz] at hz'
  simp only [Option.map_some, Option.some.injEq] at hz'
  subst hz'
  have l1 : (longs t).length = t.length := by simp [longs]
  have l2 : (falls t).length = t.length := by simp [falls]
  have a1 := left_bd (kind := 1) (s := longs t) (ms := ms) (by rw [l1]; exact hm) (by rw [l1]; exact h1) (i := i) (by omega)
  have a2 := left_bd (kind := 2) (s := falls t) (ms := ms) (by rw [l2]; exact hm) (by rw [l2]; exact h2) (i := i) (by omega)
  rw [leftSp_at (by omega), longs_at hz, l1] at a1
  rw [leftSp_at (by omega), falls_at hz, l2] at a2
  exact ⟨rfl, rfl, rfl, rfl, a1.1, a1.2.1, a1.2.2, a2.1, a2.2.1, a2.2.2⟩
theorem lefts_valid (hv : valid t = true) (hm : ∀ m ∈ ms, okMe (t.length + 1) m) (h1 : fineK 1 (longs t) ms (t.length + 1)) (h2 : fineK 2 (falls t) ms (t.length + 1)) : valid (lefts t ms) = true :=
  valid_nar lefts_len (lefts_nar hv hm h1 h2) hv
/-- narrowing what was narrowed -/
theorem lefts_twice (hm : ∀ m ∈ ms, okMe (t.length + 1) m) (hm2 : ∀ m ∈ ms2, okMe (t.length + 1) m) (hsub : ∀ m ∈ ms, m ∈ ms2) (h1 : fineK 1 (longs t) ms (t.length + 1)) (h2 : fineK 2 (falls t) ms (t.length + 1)) :
    (fineK 1 (longs (lefts t ms)) ms2 (t.length + 1) ↔ fineK 1 (longs t) ms2 (t.length + 1)) ∧ (fineK 2 (falls (lefts t ms)) ms2 (t.length + 1) ↔ fineK 2 (falls t) ms2 (t.length + 1)) ∧
    (fineK 1 (longs t) ms2 (t.length + 1) → fineK 2 (falls t) ms2 (t.length + 1) → lefts (lefts t ms) ms2 = lefts t ms2) := by
  have l1 : (longs t).length = t.length := by simp [longs]
  have l2 : (falls t).length = t.length := by simp [falls]
  have a1 := left_twice (kind := 1) (s := longs t) (ms := ms) (ms2 := ms2) (by rw [l1]; exact hm) (by rw [l1]; exact hm2) hsub (by rw [l1]; exact h1)
  have a2 := left_twice (kind := 2) (s := falls t) (ms := ms) (ms2 := ms2) (by rw [l2]; exact hm) (by rw [l2]; exact hm2) hsub (by rw [l2]; exact h2)
  rw [l1] at a1
  rw [l2] at a2
  rw [longs_lefts, falls_lefts]
  refine ⟨a1.1, a2.1, fun g1 g2 => ?_⟩
  have b1 := a1.2 (a1.1.2 g1)
  have b2 := a2.2 (a2.1.2 g2)
  apply List.ext_getElem?
  intro i
  rw [lefts_get, lefts_get, lefts_get, longs_lefts, falls_lefts, lefts_len]
  cases h : t[i]? with
  | none => rfl
  | some z =>
    have hlt := (List.getElem?_eq_some_iff.1 h).1
    simp only [Option.map_some]
    rw [newSp_agr b1 (by omega), newSp_agr b2 (by omega)]
end
end Go.Proofs.Ytekjkaoibcfgfaa
/- Narrow's answers: what is narrowed again, and with more measures. -/
namespace Go.Proofs.Ytekjkaoibcfgfaa
set_option linter.unusedSimpArgs false
set_option linter.unusedVariables false

def NarT (a b : List St) : Prop := a.length = b.length ∧ ∀ (i : Nat) x y, a[i]? = some x → b[i]? = some y → y.long.lo ≤ x.long.lo ∧ x.long.hi ≤ y.long.hi ∧ y.fall.lo ≤ x.fall.lo ∧ x.fall.hi ≤ y.fall.hi
section
variable {t : List St} {ms ms2 : List Me}
theorem rnB_iff (hv : valid t = true) (hm : msOk t.length ms = true) : rnB t ms = true ↔ fineK 1 (longs t) ms (t.length + 1) ∧ fineK 2 (falls t) ms (t.length + 1) := by
  rw [← (left_same hv hm).1]
  simp only [leftB, decide_eq_true_eq]
  unfold fine1 fine2
  rw [falls_stage]
theorem nT_lefts (hv : valid t = true) (hm : msOk t.length ms = true) (hb : rnB t ms = true) : nT t ms = lefts t ms := by
  rw [nT_yes hv hm, ← (left_same hv hm).2]
  unfold leftT
  rw [(left_same hv hm).1, hb, if_pos rfl, stage2_lefts]
theorem errN_yes (hv : valid t = true) (hm : msOk t.length ms = true) : errN t ms = if rnB t ms then 0 else 8 := by simp [errN, hv, hm]
theorem ok_me (hm : msOk t.length ms = true) : ∀ m ∈ ms, okMe (t.length + 1) m := fun m h => meOk_okMe ((msOk_all hm).1 m h)
theorem errN_fine (hv : valid t = true) (hm : msOk t.length ms = true) (he : errN t ms = 0) : rnB t ms = true := by
  rw [errN_yes hv hm] at he
  cases h : rnB t ms with
  | true => rfl
  | false => rw [h] at he; simp at he
/-- what is left is a track, narrower than that one; with those measures and more it leaves what that one leaves -/
theorem narrow_again (hv : valid t = true) (hm : msOk t.length ms = true) (he : errN t ms = 0) :
    valid (nT t ms) = true ∧ NarT (nT t ms) t ∧ ∀ ms2, msOk t.length ms2 = true → (∀ m ∈ ms, m ∈ ms2) → errN (nT t ms) ms2 = errN t ms2 ∧ nT (nT t ms) ms2 = nT t ms2 := by
  have hb := errN_fine hv hm he
  obtain ⟨h1, h2⟩ := (rnB_iff hv hm).1 hb
  have hN := nT_lefts hv hm hb
  have hvl : valid (lefts t ms) = true := lefts_valid hv (ok_me hm) h1 h2
  rw [hN]
  refine ⟨hvl, ⟨lefts_len, fun i x y hx hy => ?_⟩, fun ms2 hm2 hsub => ?_⟩
  · have := lefts_nar hv (ok_me hm) h1 h2 i y x hy hx
    exact ⟨this.l0, this.l2, this.f0, this.f2⟩
  · have hl := lefts_len (t := t) (ms := ms)
    have hm2' : msOk (lefts t ms).length ms2 = true := by rw [hl]; exact hm2
    obtain ⟨c1, c2, c3⟩ := lefts_twice (ok_me hm) (ok_me hm2) hsub h1 h2
    have e : rnB (lefts t ms) ms2 = rnB t ms2 := by
      rw [Bool.eq_iff_iff, rnB_iff hvl hm2', rnB_iff hv hm2, hl, c1, c2]
    refine ⟨by rw [errN_yes hvl hm2', errN_yes hv hm2, e], ?_⟩
    cases hb2 : rnB t ms2 with
    | false =>
      rw [nT_no (by rw [errN_yes hvl hm2', e, hb2]; decide), nT_no (by rw [errN_yes hv hm2, hb2]; decide)]
    | true =>
      rw [nT_lefts hvl hm2' (e.trans hb2), nT_lefts hv hm2 hb2]
      obtain ⟨g1, g2⟩ := (rnB_iff hv hm2).1 hb2
      exact c3 g1 g2
theorem narrow_same_again (hv : valid t = true) (hm : msOk t.length ms = true) (he : errN t ms = 0) : errN (nT t ms) ms = 0 ∧ nT (nT t ms) ms = nT t ms := by
  have h := (narrow_again hv hm he).2.2 ms hm (fun _ h => h)
  exact ⟨h.1.trans he, h.2⟩
theorem narrow_less (hv : valid t = true) (hm : msOk t.length ms = true) (hm2 : msOk t.length ms2 = true) (hsub : ∀ m ∈ ms, m ∈ ms2) (he2 : errN t ms2 = 0) : errN t ms = 0 ∧ NarT (nT t ms2) (nT t ms) := by
  have hb2 := errN_fine hv hm2 he2
  obtain ⟨g1, g2⟩ := (rnB_iff hv hm2).1 hb2
  have l1 : (longs t).length = t.length := by simp [longs]
  have l2 : (falls t).length = t.length := by simp [falls]
  have a1 := left_mono (kind := 1) (s := longs t) (ms := ms) (ms2 := ms2) (by rw [l1]; exact ok_me hm) (by rw [l1]; exact ok_me hm2) hsub (by rw [l1]; exact g1)
  have a2 := left_mono (kind := 2) (s := falls t) (ms := ms) (ms2 := ms2) (by rw [l2]; exact ok_me hm) (by rw [l2]; exact ok_me hm2) hsub (by rw [l2]; exact g2)
  rw [l1] at a1
  rw [l2] at a2
  have hb : rnB t ms = true := (rnB_iff hv hm).2 ⟨a1.1, a2.1⟩
  refine ⟨by rw [errN_yes hv hm, hb]; rfl, ?_⟩
  rw [nT_lefts hv hm2 hb2, nT_lefts hv hm hb]
  refine ⟨by rw [lefts_len, lefts_len], fun i x y hx hy => ?_⟩
  rw [lefts_get] at hx hy
  cases h : t[i]? with
  | none => rw [h] at hx; simp at hx
  | some z =>
    have hlt := (List.getElem?_eq_some_iff.1 h).1
    rw [h] at hx hy
    simp only [Option.map_some, Option.some.injEq] at hx hy
    subst hx hy
    have d1 := a1.2 (i + 1) i (by omega) (by omega)
    have d2 := a1.2 i (i + 1) (by omega) (by omega)
    have d3 := a2.2 (i + 1) i (by omega) (by omega)
    have d4 := a2.2 i (i + 1) (by omega) (by omega)
    simp only [newSp]
    omega
end
end Go.Proofs.Ytekjkaoibcfgfaa
/- Truths, by choices: numbers of spans, their sums, and measures that agree with them. Plain facts. -/
namespace Go.Proofs.Ytekjkaoibcfgfaa
set_option linter.unusedSimpArgs false
set_option linter.unusedVariables false

/-- the numbers of a list lie in spans -/
structure InT (l : List Int) (s : List Sp) : Prop where
  len : l.length = s.length
  at_ : ∀ i, i < s.length → (spAt s i).lo ≤ l.getD i 0 ∧ l.getD i 0 ≤ (spAt s i).hi
def pre (l : List Int) (i : Nat) : Int := sumI (l.take i)
def diffM (l : List Int) : Mat := fun a b => pre l b - pre l a
theorem diff_tri {n : Nat} {l : List Int} : Tri n (diffM l) := fun i k y _ _ _ => by unfold diffM; omega
theorem diff_diag {n : Nat} {l : List Int} : Diag n (diffM l) := fun i _ => by unfold diffM; omega
theorem pre_zero {l : List Int} : pre l 0 = 0 := by simp [pre, sumI]
theorem pre_succ {l : List Int} {i : Nat} (h : i < l.length) : pre l (i + 1) = pre l i + l.getD i 0 := by
  unfold pre
  rw [sumI_take h]
  simp [h]
theorem InT.bd {l : List Int} {s : List Sp} (h : InT l s) (ho : okSps s) : ∀ x ∈ l, 0 ≤ x ∧ x ≤ 30000 := fun x hx => by
  obtain ⟨i, hi, rfl⟩ := List.mem_iff_getElem.1 hx
  have h1 := h.at_ i (by rw [← h.len]; exact hi)
  have h2 := ho i
  have e : l.getD i 0 = l[i] := by simp [hi]
  rw [e] at h1
  omega
theorem pre_bd {l : List Int} (hb : ∀ x ∈ l, 0 ≤ x ∧ x ≤ 30000) (i : Nat) : 0 ≤ pre l i ∧ pre l i ≤ l.length * 30000 := by
  have h := sumI_bd (l := l.take i) (B := 30000) (fun x hx => hb x (List.mem_of_mem_take hx))
  rw [List.length_take] at h
  unfold pre
  omega
theorem sum_diff {l : List Int} {a b : Nat} (h : a ≤ b) : sumI ((l.take b).drop a) = diffM l a b := by
  have e : l.take b = l.take a ++ (l.take b).drop a := by
    have := (List.take_append_drop a (l.take b)).symm
    rwa [List.take_take, Nat.min_eq_left h] at this
  have e2 := congrArg sumI e
  rw [sumI_append] at e2
  unfold diffM pre
  omega
theorem diff_T0 {l : List Int} {s : List Sp} (h : InT l s) (ho : okSps s) (hl : s.length ≤ 12) : Le (s.length + 1) (diffM l) (T0 s) := fun a b ha hb => by
  have hbd := h.bd ho
  have hlen := h.len
  unfold diffM T0
  by_cases e : a = b
  · subst e; simp
  rw [if_neg e]
  by_cases e1 : b = a + 1
  · subst e1
    rw [if_pos rfl, pre_succ (by omega)]
    have := (h.at_ a (by omega)).2
    omega
  rw [if_neg e1]
  by_cases e2 : a = b + 1
  · subst e2
    rw [if_pos rfl, pre_succ (by omega)]
    have := (h.at_ b (by omega)).1
    omega
  rw [if_neg e2]
  have h1 := pre_bd hbd a
  have h2 := pre_bd hbd b
  unfold far
  omega
/-- a measure agrees with a truth -/
def AgrK (kind : Int) (l : List Int) (m : Me) : Prop := m.kind = kind → m.value.lo ≤ diffM l m.frm.toNat m.to.toNat ∧ diffM l m.frm.toNat m.to.toNat ≤ m.value.hi
theorem kept_k {kind : Int} {l : List Int} {s : List Sp} {ms : List Me} (h : InT l s) (ho : okSps s) (hl : s.length ≤ 12) (hm : ∀ m ∈ ms, okMe (s.length + 1) m) (ha : ∀ m ∈ ms, AgrK kind l m) :
    fineK kind s ms (s.length + 1) ∧ Le (s.length + 1) (diffM l) (dist kind s ms (s.length + 1)) :=
  left_truth hm diff_tri diff_diag (diff_T0 h ho hl) (fun m hx hk => by
    have := ha m hx hk
    unfold diffM at *
    omega)
/-- what measures of a kind leave is in each of them -/
theorem in_meas {kind : Int} {s : List Sp} {ms : List Me} (hm : ∀ m ∈ ms, okMe (s.length + 1) m) : ∀ m ∈ ms, m.kind = kind → dist kind s ms (s.length + 1) m.frm.toNat m.to.toNat ≤ m.value.hi ∧ dist kind s ms (s.length + 1) m.to.toNat m.frm.toNat ≤ -m.value.lo :=
  ((le_meas ms _ hm).1 dist_le).2

theorem longs_len' {t : List St} : (longs t).length = t.length := by simp [longs]
theorem falls_len' {t : List St} : (falls t).length = t.length := by simp [falls]
/-- what is left has each truth that agrees; and it is no more than what was known, nor than what was measured of a single stretch -/
structure Kept (ms : List Me) (x y : Int) (i : Nat) (z z' : St) : Prop where
  nar : Nar z' z
  long : z'.long.lo ≤ x ∧ x ≤ z'.long.hi
  fall : z'.fall.lo ≤ y ∧ y ≤ z'.fall.hi
  ml : ∀ m ∈ ms, m.kind = 1 → m.frm = i → m.to = (i : Int) + 1 → m.value.lo ≤ z'.long.lo ∧ z'.long.hi ≤ m.value.hi
  mf : ∀ m ∈ ms, m.kind = 2 → m.frm = i → m.to = (i : Int) + 1 → m.value.lo ≤ z'.fall.lo ∧ z'.fall.hi ≤ m.value.hi
theorem truth_kept {t : List St} {ms : List Me} {L F : List Int} (hv : valid t = true) (hm : msOk t.length ms = true) (h1 : InT L (longs t)) (h2 : InT F (falls t)) (a1 : ∀ m ∈ ms, AgrK 1 L m) (a2 : ∀ m ∈ ms, AgrK 2 F m) :
    errN t ms = 0 ∧ (nT t ms).length = t.length ∧ ∀ (i : Nat) z z', t[i]? = some z → (nT t ms)[i]? = some z' → Kept ms (L.getD i 0) (F.getD i 0) i z z' := by
  have ho := valid_okay hv
  have hlen := valid_len hv
  have k1 := kept_k h1 (okSps_longs ho) (by rw [longs_len']; omega) (by rw [longs_len']; exact ok_me hm) a1
  have k2 := kept_k h2 (okSps_falls ho) (by rw [falls_len']; omega) (by rw [falls_len']; exact ok_me hm) a2
  have m1 := in_meas (kind := 1) (s := longs t) (ms := ms) (by rw [longs_len']; exact ok_me hm)
  have m2 := in_meas (kind := 2) (s := falls t) (ms := ms) (by rw [falls_len']; exact ok_me hm)
  rw [longs_len'] at k1 m1
  rw [falls_len'] at k2 m2
  have hb : rnB t ms = true := (rnB_iff hv hm).2 ⟨k1.1, k2.1⟩
  refine ⟨by rw [errN_yes hv hm, hb]; rfl, by rw [nT_lefts hv hm hb]; exact lefts_len, fun i z z' hz hz' => ?_⟩
  rw [nT_lefts hv hm hb] at hz'
  have hn := lefts_nar hv (ok_me hm) k1.1 k2.1 i z z' hz hz'
  have hi := (List.getElem?_eq_some_iff.1 hz).1
  rw [lefts_get, hz] at hz'
  simp only [Option.map_some, Option.some.injEq] at hz'
  subst hz'
  have l1 := h1.len
  have l2 := h2.len
  rw [longs_len'] at l1
  rw [falls_len'] at l2
  have d1 := k1.2 (i + 1) i (by omega) (by omega)
  have d2 := k1.2 i (i + 1) (by omega) (by omega)
  have d3 := k2.2 (i + 1) i (by omega) (by omega)
  have d4 := k2.2 i (i + 1) (by omega) (by omega)
  unfold diffM at d1 d2 d3 d4
  rw [pre_succ (by omega)] at d1 d2 d3 d4
  refine ⟨hn, ?_, ?_, fun m hx hk hf ht => ?_, fun m hx hk hf ht => ?_⟩
  · simp only [newSp]; omega
  · simp only [newSp]; omega
  · have := m1 m hx hk
    rw [show m.frm.toNat = i by omega, show m.to.toNat = i + 1 by omega] at this
    simp only [newSp]; omega
  · have := m2 m hx hk
    rw [show m.frm.toNat = i by omega, show m.to.toNat = i + 1 by omega] at this
    simp only [newSp]; omega

/-! ### choices -/
def FitC (ch : List Int) : Prop := ∀ x ∈ ch, 0 ≤ x ∧ x ≤ 4294967295
def chooseI (ch : List Int) (i : Nat) : Int := ch.getD (i % ch.length) 0
theorem chooseI_bd {ch : List Int} (h : FitC ch) (i : Nat) : 0 ≤ chooseI ch i ∧ chooseI ch i ≤ 4294967295 := by
  unfold chooseI
  rw [List.getD_eq_getElem?_getD]
  cases hx : ch[i % ch.length]? with
  | none => simp
  | some x => exact h x (List.mem_of_getElem? hx)
def someI (s : Sp) (x : Int) : Int := s.lo + x % (s.hi - s.lo + 1)
theorem someI_in {s : Sp} (h : s.lo ≤ s.hi) (x : Int) : s.lo ≤ someI s x ∧ someI s x ≤ s.hi := by
  have h1 := Int.emod_nonneg x (show s.hi - s.lo + 1 ≠ 0 by omega)
  have h2 := Int.emod_lt_of_pos x (show 0 < s.hi - s.lo + 1 by omega)
  unfold someI
  omega
def truthL (t : List St) (ch : List Int) : List Int := t.mapIdx fun i s => someI s.long (chooseI ch (2 * i))
def truthF (t : List St) (ch : List Int) : List Int := t.mapIdx fun i s => someI s.fall (chooseI ch (2 * i + 1))
theorem truthL_len {t : List St} {ch : List Int} : (truthL t ch).length = t.length := by simp [truthL]
theorem truthF_len {t : List St} {ch : List Int} : (truthF t ch).length = t.length := by simp [truthF]
theorem truthL_in {t : List St} {ch : List Int} (ho : ∀ s ∈ t, Okay s) : InT (truthL t ch) (longs t) := by
  refine ⟨by simp [truthL, longs], fun i hi => ?_⟩
  rw [longs_len'] at hi
  have hz : t[i]? = some t[i] := by simp [hi]
  rw [longs_at hz]
  have e : (truthL t ch).getD i 0 = someI t[i].long (chooseI ch (2 * i)) := by simp [truthL, hi]
  rw [e]
  exact someI_in (ho _ (List.getElem_mem hi)).l1 _
theorem truthF_in {t : List St} {ch : List Int} (ho : ∀ s ∈ t, Okay s) : InT (truthF t ch) (falls t) := by
  refine ⟨by simp [truthF, falls], fun i hi => ?_⟩
  rw [falls_len'] at hi
  have hz : t[i]? = some t[i] := by simp [hi]
  rw [falls_at hz]
  have e : (truthF t ch).getD i 0 = someI t[i].fall (chooseI ch (2 * i + 1)) := by simp [truthF, hi]
  rw [e]
  exact someI_in (ho _ (List.getElem_mem hi)).f1 _

/-! ### measures that are told of a truth -/
def tellFrm (L ch : List Int) (i : Nat) : Int := chooseI ch (7 * i) % L.length
def tellTo (L ch : List Int) (i : Nat) : Int := tellFrm L ch i + 1 + chooseI ch (7 * i + 1) % (L.length - tellFrm L ch i)
def tellOdd (ch : List Int) (i : Nat) : Bool := decide (chooseI ch (7 * i + 2) % 2 = 1)
def tellSum (L F ch : List Int) (i : Nat) : Int := diffM (cond (tellOdd ch i) F L) (tellFrm L ch i).toNat (tellTo L ch i).toNat
def tellI (L F ch : List Int) (i : Nat) : Me :=
  ⟨cond (tellOdd ch i) 2 1, tellFrm L ch i, tellTo L ch i, ⟨max 0 (tellSum L F ch i - chooseI ch (7 * i + 3) % 50), min 360000 (tellSum L F ch i + chooseI ch (7 * i + 4) % 50)⟩⟩
def tells (L F ch : List Int) (many : Nat) : List Me := (List.range many).map (tellI L F ch)
theorem tells_len {L F ch : List Int} {many : Nat} : (tells L F ch many).length = many := by simp [tells]
theorem tells_succ {L F ch : List Int} {i : Nat} : tells L F ch (i + 1) = tells L F ch i ++ [tellI L F ch i] := by simp [tells, List.range_succ]
theorem tell_place {L ch : List Int} (hL : 1 ≤ L.length) (i : Nat) : 0 ≤ tellFrm L ch i ∧ tellFrm L ch i < L.length ∧ tellFrm L ch i < tellTo L ch i ∧ tellTo L ch i ≤ L.length := by
  have h1 : 0 ≤ tellFrm L ch i := Int.emod_nonneg _ (by omega)
  have h2 : tellFrm L ch i < L.length := Int.emod_lt_of_pos _ (by omega)
  have h3 := Int.emod_nonneg (chooseI ch (7 * i + 1)) (show (L.length : Int) - tellFrm L ch i ≠ 0 by omega)
  have h4 := Int.emod_lt_of_pos (chooseI ch (7 * i + 1)) (show 0 < (L.length : Int) - tellFrm L ch i by omega)
  have h5 : tellTo L ch i = tellFrm L ch i + 1 + chooseI ch (7 * i + 1) % (L.length - tellFrm L ch i) := rfl
  omega
theorem pre_mono {l : List Int} (hb : ∀ x ∈ l, 0 ≤ x ∧ x ≤ 30000) {a b : Nat} (h : a ≤ b) : pre l a ≤ pre l b := by
  have e := sum_diff (l := l) h
  have := sumI_bd (l := (l.take b).drop a) (B := 30000) (fun x hx => hb x (List.mem_of_mem_take (List.mem_of_mem_drop hx)))
  unfold diffM at e
  omega
theorem tell_sum_bd {L F ch : List Int} (hL : 1 ≤ L.length) (h12 : L.length ≤ 12) (hF : F.length = L.length) (bL : ∀ x ∈ L, 0 ≤ x ∧ x ≤ 30000) (bF : ∀ x ∈ F, 0 ≤ x ∧ x ≤ 30000) (i : Nat) : 0 ≤ tellSum L F ch i ∧ tellSum L F ch i ≤ 360000 := by
  have hp := tell_place (ch := ch) hL i
  have key : ∀ l : List Int, (∀ x ∈ l, 0 ≤ x ∧ x ≤ 30000) → l.length ≤ 12 → 0 ≤ diffM l (tellFrm L ch i).toNat (tellTo L ch i).toNat ∧ diffM l (tellFrm L ch i).toNat (tellTo L ch i).toNat ≤ 360000 := fun l hl hn => by
    have h1 := pre_mono hl (show (tellFrm L ch i).toNat ≤ (tellTo L ch i).toNat by omega)
    have h2 := pre_bd hl (tellTo L ch i).toNat
    have h3 := pre_bd hl (tellFrm L ch i).toNat
    unfold diffM
    omega
  unfold tellSum
  cases tellOdd ch i
  · exact key L bL h12
  · exact key F bF (by omega)
theorem tellI_ok {L F ch : List Int} (hL : 1 ≤ L.length) (h12 : L.length ≤ 12) (hF : F.length = L.length) (bL : ∀ x ∈ L, 0 ≤ x ∧ x ≤ 30000) (bF : ∀ x ∈ F, 0 ≤ x ∧ x ≤ 30000) (i : Nat) : meOk L.length (tellI L F ch i) = true := by
  have hp := tell_place (ch := ch) hL i
  have hs := tell_sum_bd (ch := ch) hL h12 hF bL bF i
  have h3 := Int.emod_nonneg (chooseI ch (7 * i + 3)) (show (50 : Int) ≠ 0 by omega)
  have h4 := Int.emod_nonneg (chooseI ch (7 * i + 4)) (show (50 : Int) ≠ 0 by omega)
  have hk : (1 : Int) ≤ cond (tellOdd ch i) 2 1 ∧ cond (tellOdd ch i) (2 : Int) 1 ≤ 2 := by cases tellOdd ch i <;> decide
  unfold meOk tellI
  exact decide_eq_true ⟨hk.1, hk.2, by simp only; omega, by simp only; omega, by simp only; omega, by simp only; omega, by simp only; omega, by simp only; omega, by simp only; omega, by simp only; omega⟩
theorem tells_ok {L F ch : List Int} (hL : 1 ≤ L.length) (h12 : L.length ≤ 12) (hF : F.length = L.length) (bL : ∀ x ∈ L, 0 ≤ x ∧ x ≤ 30000) (bF : ∀ x ∈ F, 0 ≤ x ∧ x ≤ 30000) {many : Nat} (hm : many ≤ 12) : msOk L.length (tells L F ch many) = true := by
  simp only [msOk, Bool.and_eq_true, decide_eq_true_eq, tells_len]
  refine ⟨hm, List.all_eq_true.2 fun m hx => ?_⟩
  obtain ⟨i, _, rfl⟩ := List.mem_map.1 hx
  exact tellI_ok hL h12 hF bL bF i
theorem tells_agr {L F ch : List Int} (hL : 1 ≤ L.length) (h12 : L.length ≤ 12) (hF : F.length = L.length) (bL : ∀ x ∈ L, 0 ≤ x ∧ x ≤ 30000) (bF : ∀ x ∈ F, 0 ≤ x ∧ x ≤ 30000) {many : Nat} : ∀ m ∈ tells L F ch many, AgrK 1 L m ∧ AgrK 2 F m := fun m hx => by
  obtain ⟨i, _, rfl⟩ := List.mem_map.1 hx
  have hs := tell_sum_bd (ch := ch) hL h12 hF bL bF i
  have h3 := Int.emod_nonneg (chooseI ch (7 * i + 3)) (show (50 : Int) ≠ 0 by omega)
  have h4 := Int.emod_nonneg (chooseI ch (7 * i + 4)) (show (50 : Int) ≠ 0 by omega)
  constructor
  · intro hk
    have ho : tellOdd ch i = false := by
      cases h : tellOdd ch i with
      | false => rfl
      | true => simp [tellI, h] at hk
    have e : diffM L (tellI L F ch i).frm.toNat (tellI L F ch i).to.toNat = tellSum L F ch i := by simp [tellSum, ho, tellI]
    rw [e]
    simp only [tellI]
    omega
  · intro hk
    have ho : tellOdd ch i = true := by
      cases h : tellOdd ch i with
      | true => rfl
      | false => simp [tellI, h] at hk
    have e : diffM F (tellI L F ch i).frm.toNat (tellI L F ch i).to.toNat = tellSum L F ch i := by simp [tellSum, ho, tellI]
    rw [e]
    simp only [tellI]
    omega
end Go.Proofs.Ytekjkaoibcfgfaa
