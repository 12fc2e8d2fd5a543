/- Truths, by choices: numbers of spans, their sums, and measures that agree with them. Plain facts. -/
import Derived.Test.YtekjkaoibcfgfaaZ1
import Derived.Test.YtekjkaoibcfgfaaV1
namespace Go.Proofs.Ytekjkaoibcfgfaa
set_option linter.unusedSimpArgs false
set_option linter.unusedVariables false

/-- the numbers of a list lie in spans -/
structure InT (l : List Int) (s : List Sp) : Prop where
  len : l.length = s.length
  at_ : ∀ i, i < s.length → (spAt s i).lo ≤ l.getD i 0 ∧ l.getD i 0 ≤ (spAt s i).hi
def pre (l : List Int) (i : Nat) : Int := sumI (l.take i)
def diffM (l : List Int) : Mat := fun a b => pre l b - pre l a
theorem diff_tri {n : Nat} {l : List Int} : Tri n (diffM l) := fun i k y _ _ _ => by unfold diffM; omega
theorem diff_diag {n : Nat} {l : List Int} : Diag n (diffM l) := fun i _ => by unfold diffM; omega
theorem pre_zero {l : List Int} : pre l 0 = 0 := by simp [pre, sumI]
theorem pre_succ {l : List Int} {i : Nat} (h : i < l.length) : pre l (i + 1) = pre l i + l.getD i 0 := by
  unfold pre
  rw [sumI_take h]
  simp [h]
theorem InT.bd {l : List Int} {s : List Sp} (h : InT l s) (ho : okSps s) : ∀ x ∈ l, 0 ≤ x ∧ x ≤ 30000 := fun x hx => by
  obtain ⟨i, hi, rfl⟩ := List.mem_iff_getElem.1 hx
  have h1 := h.at_ i (by rw [← h.len]; exact hi)
  have h2 := ho i
  have e : l.getD i 0 = l[i] := by simp [hi]
  rw [e] at h1
  omega
theorem pre_bd {l : List Int} (hb : ∀ x ∈ l, 0 ≤ x ∧ x ≤ 30000) (i : Nat) : 0 ≤ pre l i ∧ pre l i ≤ l.length * 30000 := by
  have h := sumI_bd (l := l.take i) (B := 30000) (fun x hx => hb x (List.mem_of_mem_take hx))
  rw [List.length_take] at h
  unfold pre
  omega
theorem sum_diff {l : List Int} {a b : Nat} (h : a ≤ b) : sumI ((l.take b).drop a) = diffM l a b := by
  have e : l.take b = l.take a ++ (l.take b).drop a := by
    have := (List.take_append_drop a (l.take b)).symm
    rwa [List.take_take, Nat.min_eq_left h] at this
  have e2 := congrArg sumI e
  rw [sumI_append] at e2
  unfold diffM pre
  omega
theorem diff_T0 {l : List Int} {s : List Sp} (h : InT l s) (ho : okSps s) (hl : s.length ≤ 12) : Le (s.length + 1) (diffM l) (T0 s) := fun a b ha hb => by
  have hbd := h.bd ho
  have hlen := h.len
  unfold diffM T0
  by_cases e : a = b
  · subst e; simp
  rw [if_neg e]
  by_cases e1 : b = a + 1
  · subst e1
    rw [if_pos rfl, pre_succ (by omega)]
    have := (h.at_ a (by omega)).2
    omega
  rw [if_neg e1]
  by_cases e2 : a = b + 1
  · subst e2
    rw [if_pos rfl, pre_succ (by omega)]
    have := (h.at_ b (by omega)).1
    omega
  rw [if_neg e2]
  have h1 := pre_bd hbd a
  have h2 := pre_bd hbd b
  unfold far
  omega
/-- a measure agrees with a truth -/
def AgrK (kind : Int) (l : List Int) (m : Me) : Prop := m.kind = kind → m.value.lo ≤ diffM l m.frm.toNat m.to.toNat ∧ diffM l m.frm.toNat m.to.toNat ≤ m.value.hi
theorem kept_k {kind : Int} {l : List Int} {s : List Sp} {ms : List Me} (h : InT l s) (ho : okSps s) (hl : s.length ≤ 12) (hm : ∀ m ∈ ms, okMe (s.length + 1) m) (ha : ∀ m ∈ ms, AgrK kind l m) :
    fineK kind s ms (s.length + 1) ∧ Le (s.length + 1) (diffM l) (dist kind s ms (s.length + 1)) :=
  left_truth hm diff_tri diff_diag (diff_T0 h ho hl) (fun m hx hk => by
    have := ha m hx hk
    unfold diffM at *
    omega)
/-- what measures of a kind leave is in each of them -/
theorem in_meas {kind : Int} {s : List Sp} {ms : List Me} (hm : ∀ m ∈ ms, okMe (s.length + 1) m) : ∀ m ∈ ms, m.kind = kind → dist kind s ms (s.length + 1) m.frm.toNat m.to.toNat ≤ m.value.hi ∧ dist kind s ms (s.length + 1) m.to.toNat m.frm.toNat ≤ -m.value.lo :=
  ((le_meas ms _ hm).1 dist_le).2

theorem longs_len' {t : List St} : (longs t).length = t.length := by simp [longs]
theorem falls_len' {t : List St} : (falls t).length = t.length := by simp [falls]
/-- what is left has each truth that agrees; and it is no more than what was known, nor than what was measured of a single stretch -/
structure Kept (ms : List Me) (x y : Int) (i : Nat) (z z' : St) : Prop where
  nar : Nar z' z
  long : z'.long.lo ≤ x ∧ x ≤ z'.long.hi
  fall : z'.fall.lo ≤ y ∧ y ≤ z'.fall.hi
  ml : ∀ m ∈ ms, m.kind = 1 → m.frm = i → m.to = (i : Int) + 1 → m.value.lo ≤ z'.long.lo ∧ z'.long.hi ≤ m.value.hi
  mf : ∀ m ∈ ms, m.kind = 2 → m.frm = i → m.to = (i : Int) + 1 → m.value.lo ≤ z'.fall.lo ∧ z'.fall.hi ≤ m.value.hi
theorem truth_kept {t : List St} {ms : List Me} {L F : List Int} (hv : valid t = true) (hm : msOk t.length ms = true) (h1 : InT L (longs t)) (h2 : InT F (falls t)) (a1 : ∀ m ∈ ms, AgrK 1 L m) (a2 : ∀ m ∈ ms, AgrK 2 F m) :
    errN t ms = 0 ∧ (nT t ms).length = t.length ∧ ∀ (i : Nat) z z', t[i]? = some z → (nT t ms)[i]? = some z' → Kept ms (L.getD i 0) (F.getD i 0) i z z' := by
  have ho := valid_okay hv
  have hlen := valid_len hv
  have k1 := kept_k h1 (okSps_longs ho) (by rw [longs_len']; omega) (by rw [longs_len']; exact ok_me hm) a1
  have k2 := kept_k h2 (okSps_falls ho) (by rw [falls_len']; omega) (by rw [falls_len']; exact ok_me hm) a2
  have m1 := in_meas (kind := 1) (s := longs t) (ms := ms) (by rw [longs_len']; exact ok_me hm)
  have m2 := in_meas (kind := 2) (s := falls t) (ms := ms) (by rw [falls_len']; exact ok_me hm)
  rw [longs_len'] at k1 m1
  rw [falls_len'] at k2 m2
  have hb : rnB t ms = true := (rnB_iff hv hm).2 ⟨k1.1, k2.1⟩
  refine ⟨by rw [errN_yes hv hm, hb]; rfl, by rw [nT_lefts hv hm hb]; exact lefts_len, fun i z z' hz hz' => ?_⟩
  rw [nT_lefts hv hm hb] at hz'
  have hn := lefts_nar hv (ok_me hm) k1.1 k2.1 i z z' hz hz'
  have hi := (List.getElem?_eq_some_iff.1 hz).1
  rw [lefts_get, hz] at hz'
  simp only [Option.map_some, Option.some.injEq] at hz'
  subst hz'
  have l1 := h1.len
  have l2 := h2.len
  rw [longs_len'] at l1
  rw [falls_len'] at l2
  have d1 := k1.2 (i + 1) i (by omega) (by omega)
  have d2 := k1.2 i (i + 1) (by omega) (by omega)
  have d3 := k2.2 (i + 1) i (by omega) (by omega)
  have d4 := k2.2 i (i + 1) (by omega) (by omega)
  unfold diffM at d1 d2 d3 d4
  rw [pre_succ (by omega)] at d1 d2 d3 d4
  refine ⟨hn, ?_, ?_, fun m hx hk hf ht => ?_, fun m hx hk hf ht => ?_⟩
  · simp only [newSp]; omega
  · simp only [newSp]; omega
  · have := m1 m hx hk
    rw [show m.frm.toNat = i by omega, show m.to.toNat = i + 1 by omega] at this
    simp only [newSp]; omega
  · have := m2 m hx hk
    rw [show m.frm.toNat = i by omega, show m.to.toNat = i + 1 by omega] at this
    simp only [newSp]; omega

/-! ### choices -/
def FitC (ch : List Int) : Prop := ∀ x ∈ ch, 0 ≤ x ∧ x ≤ 4294967295
def chooseI (ch : List Int) (i : Nat) : Int := ch.getD (i % ch.length) 0
theorem chooseI_bd {ch : List Int} (h : FitC ch) (i : Nat) : 0 ≤ chooseI ch i ∧ chooseI ch i ≤ 4294967295 := by
  unfold chooseI
  rw [List.getD_eq_getElem?_getD]
  cases hx : ch[i % ch.length]? with
  | none => simp
  | some x => exact h x (List.mem_of_getElem? hx)
def someI (s : Sp) (x : Int) : Int := s.lo + x % (s.hi - s.lo + 1)
theorem someI_in {s : Sp} (h : s.lo ≤ s.hi) (x : Int) : s.lo ≤ someI s x ∧ someI s x ≤ s.hi := by
  have h1 := Int.emod_nonneg x (show s.hi - s.lo + 1 ≠ 0 by omega)
  have h2 := Int.emod_lt_of_pos x (show 0 < s.hi - s.lo + 1 by omega)
  unfold someI
  omega
def truthL (t : List St) (ch : List Int) : List Int := t.mapIdx fun i s => someI s.long (chooseI ch (2 * i))
def truthF (t : List St) (ch : List Int) : List Int := t.mapIdx fun i s => someI s.fall (chooseI ch (2 * i + 1))
theorem truthL_len {t : List St} {ch : List Int} : (truthL t ch).length = t.length := by simp [truthL]
theorem truthF_len {t : List St} {ch : List Int} : (truthF t ch).length = t.length := by simp [truthF]
theorem truthL_in {t : List St} {ch : List Int} (ho : ∀ s ∈ t, Okay s) : InT (truthL t ch) (longs t) := by
  refine ⟨by simp [truthL, longs], fun i hi => ?_⟩
  rw [longs_len'] at hi
  have hz : t[i]? = some t[i] := by simp [hi]
  rw [longs_at hz]
  have e : (truthL t ch).getD i 0 = someI t[i].long (chooseI ch (2 * i)) := by simp [truthL, hi]
  rw [e]
  exact someI_in (ho _ (List.getElem_mem hi)).l1 _
theorem truthF_in {t : List St} {ch : List Int} (ho : ∀ s ∈ t, Okay s) : InT (truthF t ch) (falls t) := by
  refine ⟨by simp [truthF, falls], fun i hi => ?_⟩
  rw [falls_len'] at hi
  have hz : t[i]? = some t[i] := by simp [hi]
  rw [falls_at hz]
  have e : (truthF t ch).getD i 0 = someI t[i].fall (chooseI ch (2 * i + 1)) := by simp [truthF, hi]
  rw [e]
  exact someI_in (ho _ (List.getElem_mem hi)).f1 _

/-! ### measures that are told of a truth -/
def tellFrm (L ch : List Int) (i : Nat) : Int := chooseI ch (7 * i) % L.length
def tellTo (L ch : List Int) (i : Nat) : Int := tellFrm L ch i + 1 + chooseI ch (7 * i + 1) % (L.length - tellFrm L ch i)
def tellOdd (ch : List Int) (i : Nat) : Bool := decide (chooseI ch (7 * i + 2) % 2 = 1)
def tellSum (L F ch : List Int) (i : Nat) : Int := diffM (cond (tellOdd ch i) F L) (tellFrm L ch i).toNat (tellTo L ch i).toNat
def tellI (L F ch : List Int) (i : Nat) : Me :=
  ⟨cond (tellOdd ch i) 2 1, tellFrm L ch i, tellTo L ch i, ⟨max 0 (tellSum L F ch i - chooseI ch (7 * i + 3) % 50), min 360000 (tellSum L F ch i + chooseI ch (7 * i + 4) % 50)⟩⟩
def tells (L F ch : List Int) (many : Nat) : List Me := (List.range many).map (tellI L F ch)
theorem tells_len {L F ch : List Int} {many : Nat} : (tells L F ch many).length = many := by simp [tells]
theorem tells_succ {L F ch : List Int} {i : Nat} : tells L F ch (i + 1) = tells L F ch i ++ [tellI L F ch i] := by simp [tells, List.range_succ]
theorem tell_place {L ch : List Int} (hL : 1 ≤ L.length) (i : Nat) : 0 ≤ tellFrm L ch i ∧ tellFrm L ch i < L.length ∧ tellFrm L ch i < tellTo L ch i ∧ tellTo L ch i ≤ L.length := by
  have h1 : 0 ≤ tellFrm L ch i := Int.emod_nonneg _ (by omega)
  have h2 : tellFrm L ch i < L.length := Int.emod_lt_of_pos _ (by omega)
  have h3 := Int.emod_nonneg (chooseI ch (7 * i + 1)) (show (L.length : Int) - tellFrm L ch i ≠ 0 by omega)
  have h4 := Int.emod_lt_of_pos (chooseI ch (7 * i + 1)) (show 0 < (L.length : Int) - tellFrm L ch i by omega)
  have h5 : tellTo L ch i = tellFrm L ch i + 1 + chooseI ch (7 * i + 1) % (L.length - tellFrm L ch i) := rfl
  omega
theorem pre_mono {l : List Int} (hb : ∀ x ∈ l, 0 ≤ x ∧ x ≤ 30000) {a b : Nat} (h : a ≤ b) : pre l a ≤ pre l b := by
  have e := sum_diff (l := l) h
  have := sumI_bd (l := (l.take b).drop a) (B := 30000) (fun x hx => hb x (List.mem_of_mem_take (List.mem_of_mem_drop hx)))
  unfold diffM at e
  omega
theorem tell_sum_bd {L F ch : List Int} (hL : 1 ≤ L.length) (h12 : L.length ≤ 12) (hF : F.length = L.length) (bL : ∀ x ∈ L, 0 ≤ x ∧ x ≤ 30000) (bF : ∀ x ∈ F, 0 ≤ x ∧ x ≤ 30000) (i : Nat) : 0 ≤ tellSum L F ch i ∧ tellSum L F ch i ≤ 360000 := by
  have hp := tell_place (ch := ch) hL i
  have key : ∀ l : List Int, (∀ x ∈ l, 0 ≤ x ∧ x ≤ 30000) → l.length ≤ 12 → 0 ≤ diffM l (tellFrm L ch i).toNat (tellTo L ch i).toNat ∧ diffM l (tellFrm L ch i).toNat (tellTo L ch i).toNat ≤ 360000 := fun l hl hn => by
    have h1 := pre_mono hl (show (tellFrm L ch i).toNat ≤ (tellTo L ch i).toNat by omega)
    have h2 := pre_bd hl (tellTo L ch i).toNat
    have h3 := pre_bd hl (tellFrm L ch i).toNat
    unfold diffM
    omega
  unfold tellSum
  cases tellOdd ch i
  · exact key L bL h12
  · exact key F bF (by omega)
theorem tellI_ok {L F ch : List Int} (hL : 1 ≤ L.length) (h12 : L.length ≤ 12) (hF : F.length = L.length) (bL : ∀ x ∈ L, 0 ≤ x ∧ x ≤ 30000) (bF : ∀ x ∈ F, 0 ≤ x ∧ x ≤ 30000) (i : Nat) : meOk L.length (tellI L F ch i) = true := by
  have hp := tell_place (ch := ch) hL i
  have hs := tell_sum_bd (ch := ch) hL h12 hF bL bF i
  have h3 := Int.emod_nonneg (chooseI ch (7 * i + 3)) (show (50 : Int) ≠ 0 by omega)
  have h4 := Int.emod_nonneg (chooseI ch (7 * i + 4)) (show (50 : Int) ≠ 0 by omega)
  have hk : (1 : Int) ≤ cond (tellOdd ch i) 2 1 ∧ cond (tellOdd ch i) (2 : Int) 1 ≤ 2 := by cases tellOdd ch i <;> decide
  unfold meOk tellI
  exact decide_eq_true ⟨hk.1, hk.2, by simp only; omega, by simp only; omega, by simp only; omega, by simp only; omega, by simp only; omega, by simp only; omega, by simp only; omega, by simp only; omega⟩
theorem tells_ok {L F ch : List Int} (hL : 1 ≤ L.length) (h12 : L.length ≤ 12) (hF : F.length = L.length) (bL : ∀ x ∈ L, 0 ≤ x ∧ x ≤ 30000) (bF : ∀ x ∈ F, 0 ≤ x ∧ x ≤ 30000) {many : Nat} (hm : many ≤ 12) : msOk L.length (tells L F ch many) = true := by
  simp only [msOk, Bool.and_eq_true, decide_eq_true_eq, tells_len]
  refine ⟨hm, List.all_eq_true.2 fun m hx => ?_⟩
  obtain ⟨i, _, rfl⟩ := List.mem_map.1 hx
  exact tellI_ok hL h12 hF bL bF i
theorem tells_agr {L F ch : List Int} (hL : 1 ≤ L.length) (h12 : L.length ≤ 12) (hF : F.length = L.length) (bL : ∀ x ∈ L, 0 ≤ x ∧ x ≤ 30000) (bF : ∀ x ∈ F, 0 ≤ x ∧ x ≤ 30000) {many : Nat} : ∀ m ∈ tells L F ch many, AgrK 1 L m ∧ AgrK 2 F m := fun m hx => by
  obtain ⟨i, _, rfl⟩ := List.mem_map.1 hx
  have hs := tell_sum_bd (ch := ch) hL h12 hF bL bF i
  have h3 := Int.emod_nonneg (chooseI ch (7 * i + 3)) (show (50 : Int) ≠ 0 by omega)
  have h4 := Int.emod_nonneg (chooseI ch (7 * i + 4)) (show (50 : Int) ≠ 0 by omega)
  constructor
  · intro hk
    have ho : tellOdd ch i = false := by
      cases h : tellOdd ch i with
      | false => rfl
      | true => simp [tellI, h] at hk
    have e : diffM L (tellI L F ch i).frm.toNat (tellI L F ch i).to.toNat = tellSum L F ch i := by simp [tellSum, ho, tellI]
    rw [e]
    simp only [tellI]
    omega
  · intro hk
    have ho : tellOdd ch i = true := by
      cases h : tellOdd ch i with
      | true => rfl
      | false => simp [tellI, h] at hk
    have e : diffM F (tellI L F ch i).frm.toNat (tellI L F ch i).to.toNat = tellSum L F ch i := by simp [tellSum, ho, tellI]
    rw [e]
    simp only [tellI]
    omega
end Go.Proofs.Ytekjkaoibcfgfaa
