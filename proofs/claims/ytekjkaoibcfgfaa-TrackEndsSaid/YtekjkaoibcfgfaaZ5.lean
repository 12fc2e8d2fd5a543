/- Each end that is told comes about; what is beyond it is not left. Plain facts. -/
import Derived.Test.YtekjkaoibcfgfaaZ1
namespace Go.Proofs.Ytekjkaoibcfgfaa
set_option linter.unusedSimpArgs false
set_option linter.unusedVariables false

def oneM (k : Int) (i : Nat) (v : Sp) : Me := ⟨k, i, (i : Int) + 1, v⟩
theorem meas_append {kind : Int} {M : Mat} {ms : List Me} {x : Me} : meas kind M (ms ++ [x]) = putMe kind (meas kind M ms) x := by simp [meas]
theorem other_k {k k2 : Int} {s : List Sp} {ms : List Me} {i : Nat} {v : Sp} (h : k ≠ k2) (n : Nat) : meas k2 (T0 s) (ms ++ [oneM k i v]) = meas k2 (T0 s) ms := by
  rw [meas_append]
  unfold putMe
  rw [if_neg (by simpa [oneM] using h)]
theorem ok_one {n k : Int} {N i : Nat} {v : Sp} (hk : k = 1 ∨ k = 2) (hi : i + 1 < N) (h : 0 ≤ v.lo ∧ v.lo ≤ v.hi ∧ v.hi ≤ 360000) : okMe N (oneM k i v) := by
  unfold okMe oneM
  simp only
  omega
theorem ok_snoc {N : Nat} {ms : List Me} {x : Me} (h : ∀ m ∈ ms, okMe N m) (hx : okMe N x) : ∀ m ∈ ms ++ [x], okMe N m := fun m hm => by
  rcases List.mem_append.1 hm with hm | hm
  · exact h m hm
  · simp only [List.mem_singleton] at hm; subst hm; exact hx
section
variable {k : Int} {s : List Sp} {ms : List Me} {i : Nat}
/-- the span that is left of one stretch, with one more measure of it -/
theorem one_more {v : Sp} (hm : ∀ m ∈ ms, okMe (s.length + 1) m) (hx : okMe (s.length + 1) (oneM k i v)) (hi : i < s.length) (hf : fineK k s (ms ++ [oneM k i v]) (s.length + 1)) :
    v.lo ≤ (newSp (dist k s (ms ++ [oneM k i v]) (s.length + 1)) i).lo ∧ (newSp (dist k s (ms ++ [oneM k i v]) (s.length + 1)) i).lo ≤ (newSp (dist k s (ms ++ [oneM k i v]) (s.length + 1)) i).hi ∧ (newSp (dist k s (ms ++ [oneM k i v]) (s.length + 1)) i).hi ≤ v.hi := by
  have h1 := left_bd (ok_snoc hm hx) hf hi
  rw [leftSp_at hi] at h1
  have h2 := in_meas (kind := k) (s := s) (ok_snoc hm hx) (oneM k i v) (by simp) rfl
  simp only [oneM, Int.toNat_natCast] at h2
  rw [show ((i : Int) + 1).toNat = i + 1 by omega] at h2
  refine ⟨?_, h1.2.1, ?_⟩ <;> simp only [newSp, oneM] <;> omega
theorem ends_k (e : Int) (hm : ∀ m ∈ ms, okMe (s.length + 1) m) (hx : okMe (s.length + 1) (oneM k i ⟨e, e⟩)) (hi : i < s.length) (hf : fineK k s ms (s.length + 1)) (he : e = (newSp (dist k s ms (s.length + 1)) i).lo ∨ e = (newSp (dist k s ms (s.length + 1)) i).hi) :
    fineK k s (ms ++ [oneM k i ⟨e, e⟩]) (s.length + 1) ∧ newSp (dist k s (ms ++ [oneM k i ⟨e, e⟩]) (s.length + 1)) i = ⟨e, e⟩ := by
  obtain ⟨h1, h2⟩ := dist_tri hm hf
  have hle := (le_meas ms _ hm).1 (dist_le (kind := k) (s := s) (ms := ms) (n := s.length + 1))
  -- all are as far as they can be from one mark
  have key : ∃ c, c < s.length + 1 ∧ dist k s ms (s.length + 1) c (i + 1) - dist k s ms (s.length + 1) c i = e := by
    rcases he with he | he
    · refine ⟨i + 1, by omega, ?_⟩
      rw [h2 (i + 1) (by omega), he]
      simp only [newSp]; omega
    · refine ⟨i, by omega, ?_⟩
      rw [h2 i (by omega), he]
      simp only [newSp]; omega
  obtain ⟨c, hc, hce⟩ := key
  have hfine : fineK k s (ms ++ [oneM k i ⟨e, e⟩]) (s.length + 1) := by
    refine (left_truth (E := fun a b => dist k s ms (s.length + 1) c b - dist k s ms (s.length + 1) c a) (ok_snoc hm hx) (fun a b y _ _ _ => by dsimp only; omega) (fun a _ => by dsimp only; omega) (fun a b ha hb => ?_) (fun m hmm hk => ?_)).1
    · have := h1 c b a hc hb ha
      have := hle.1 a b ha hb
      dsimp only
      omega
    · rcases List.mem_append.1 hmm with hmm | hmm
      · have hom := hm m hmm
        unfold okMe at hom
        have a1 := h1 c m.to.toNat m.frm.toNat hc (by omega) (by omega)
        have a2 := h1 c m.frm.toNat m.to.toNat hc (by omega) (by omega)
        have a3 := hle.2 m hmm hk
        omega
      · simp only [List.mem_singleton] at hmm
        subst hmm
        simp only [oneM, Int.toNat_natCast]
        rw [show ((i : Int) + 1).toNat = i + 1 by omega]
        omega
  refine ⟨hfine, ?_⟩
  have := one_more hm hx hi hfine
  simp only at this
  generalize newSp (dist k s (ms ++ [oneM k i ⟨e, e⟩]) (s.length + 1)) i = p at *
  obtain ⟨a, b⟩ := p
  simp only at this
  simp only [Sp.mk.injEq]
  omega
theorem beyond_k {v : Sp} (hm : ∀ m ∈ ms, okMe (s.length + 1) m) (hx : okMe (s.length + 1) (oneM k i v)) (hi : i < s.length) (hf : fineK k s (ms ++ [oneM k i v]) (s.length + 1))
    (h : v.hi < (newSp (dist k s ms (s.length + 1)) i).lo ∨ (newSp (dist k s ms (s.length + 1)) i).hi < v.lo) : False := by
  have h1 := one_more hm hx hi hf
  have h2 := (left_mono hm (ok_snoc hm hx) (fun m h => List.mem_append_left _ h) hf).2
  have a1 := h2 i (i + 1) (by omega) (by omega)
  have a2 := h2 (i + 1) i (by omega) (by omega)
  simp only [newSp] at *
  omega
end
def spOf (k : Bool) (z : St) : Sp := cond k z.fall z.long
def kdOf (k : Bool) : Int := cond k 2 1
section
variable {t : List St} {ms : List Me}
theorem msOk_snoc {n : Nat} {x : Me} (hm : msOk n ms = true) (hl : ms.length < 12) (hx : meOk n x = true) : msOk n (ms ++ [x]) = true := by
  simp only [msOk, Bool.and_eq_true, decide_eq_true_eq, List.length_append, List.length_cons, List.length_nil, List.all_append, List.all_cons, List.all_nil] at hm ⊢
  exact ⟨by omega, hm.2, hx, trivial⟩
theorem meOk_one {n i : Nat} {k : Bool} {v : Sp} (hi : i < n) (h : 0 ≤ v.lo ∧ v.lo ≤ v.hi ∧ v.hi ≤ 360000) : meOk n (oneM (kdOf k) i v) = true := by
  unfold meOk oneM kdOf
  cases k <;> simp <;> omega
theorem fine_other {k k2 : Int} {s : List Sp} {i : Nat} {v : Sp} {n : Nat} (h : k ≠ k2) : fineK k2 s (ms ++ [oneM k i v]) n ↔ fineK k2 s ms n := by
  unfold fineK; rw [other_k h n]
/-- what the span of one stretch is, of those that are left -/
theorem spOf_left {k : Bool} {i : Nat} {z' : St} (hv : valid t = true) (hm : msOk t.length ms = true) (he : errN t ms = 0) (hz : (nT t ms)[i]? = some z') :
    spOf k z' = newSp (dist (kdOf k) (cond k (falls t) (longs t)) ms (t.length + 1)) i := by
  have hb := errN_fine hv hm he
  rw [nT_lefts hv hm hb, lefts_get] at hz
  cases h : t[i]? with
  | none => rw [h] at hz; simp at hz
  | some z =>
    rw [h] at hz
    simp only [Option.map_some, Option.some.injEq] at hz
    subst hz
    cases k <;> rfl
theorem sps_len {k : Bool} : (cond k (falls t) (longs t)).length = t.length := by cases k <;> simp [longs, falls]
theorem rnB_k {k : Bool} (hv : valid t = true) (hm : msOk t.length ms = true) : rnB t ms = true ↔ fineK (kdOf k) (cond k (falls t) (longs t)) ms (t.length + 1) ∧ fineK (kdOf (!k)) (cond (!k) (falls t) (longs t)) ms (t.length + 1) := by
  rw [rnB_iff hv hm]
  cases k
  · exact Iff.rfl
  · exact And.comm
theorem kd_ne {k : Bool} : kdOf k ≠ kdOf (!k) := by cases k <;> decide
theorem track_ends {k : Bool} {i : Nat} {z' : St} (hv : valid t = true) (hm : msOk t.length ms = true) (he : errN t ms = 0) (hl : ms.length < 12) (hz : (nT t ms)[i]? = some z') (e : Int) (h : e = (spOf k z').lo ∨ e = (spOf k z').hi) :
    msOk t.length (ms ++ [oneM (kdOf k) i ⟨e, e⟩]) = true ∧ errN t (ms ++ [oneM (kdOf k) i ⟨e, e⟩]) = 0 ∧ ∀ z2, (nT t (ms ++ [oneM (kdOf k) i ⟨e, e⟩]))[i]? = some z2 → spOf k z2 = ⟨e, e⟩ := by
  have hb := errN_fine hv hm he
  obtain ⟨f1, f2⟩ := (rnB_k (k := k) hv hm).1 hb
  obtain ⟨nv, nn, -⟩ := narrow_again hv hm he
  have hin : i < (nT t ms).length := (List.getElem?_eq_some_iff.1 hz).1
  have hi : i < t.length := by have := nn.1; omega
  have hok := valid_okay nv z' (List.mem_of_getElem? hz)
  have hbd : 0 ≤ e ∧ e ≤ e ∧ e ≤ 360000 := by
    have := hok.l0; have := hok.l1; have := hok.l2; have := hok.f0; have := hok.f1; have := hok.f2
    cases k <;> simp only [spOf, cond_true, cond_false] at h <;> omega
  have hx : meOk t.length (oneM (kdOf k) i ⟨e, e⟩) = true := meOk_one hi hbd
  have hm2 := msOk_snoc hm hl hx
  have hs := spOf_left (k := k) hv hm he hz
  rw [hs] at h
  have hsl := sps_len (t := t) (k := k)
  have h3 := ends_k (k := kdOf k) (s := cond k (falls t) (longs t)) (ms := ms) (i := i) e (by rw [hsl]; exact ok_me hm) (by rw [hsl]; exact meOk_okMe hx) (by omega) (by rw [hsl]; exact f1) (by rw [hsl]; exact h)
  rw [hsl] at h3
  have hb2 : rnB t (ms ++ [oneM (kdOf k) i ⟨e, e⟩]) = true := (rnB_k (k := k) hv hm2).2 ⟨h3.1, (fine_other kd_ne).2 f2⟩
  have he2 : errN t (ms ++ [oneM (kdOf k) i ⟨e, e⟩]) = 0 := by rw [errN_yes hv hm2, hb2]; rfl
  refine ⟨hm2, he2, fun z2 hz2 => ?_⟩
  rw [spOf_left hv hm2 he2 hz2, h3.2]
theorem track_beyond {k : Bool} {i : Nat} {z' : St} (hv : valid t = true) (hm : msOk t.length ms = true) (he : errN t ms = 0) (hl : ms.length < 12) (hz : (nT t ms)[i]? = some z') (v : Sp) (hv0 : 0 ≤ v.lo ∧ v.lo ≤ v.hi ∧ v.hi ≤ 360000) (h : v.hi < (spOf k z').lo ∨ (spOf k z').hi < v.lo) :
    msOk t.length (ms ++ [oneM (kdOf k) i v]) = true ∧ errN t (ms ++ [oneM (kdOf k) i v]) = 8 := by
  obtain ⟨nv, nn, -⟩ := narrow_again hv hm he
  have hin : i < (nT t ms).length := (List.getElem?_eq_some_iff.1 hz).1
  have hi : i < t.length := by have := nn.1; omega
  have hx : meOk t.length (oneM (kdOf k) i v) = true := meOk_one hi hv0
  have hm2 := msOk_snoc hm hl hx
  refine ⟨hm2, ?_⟩
  rw [errN_yes hv hm2]
  cases hb : rnB t (ms ++ [oneM (kdOf k) i v]) with
  | false => rfl
  | true =>
    exfalso
    have hs := spOf_left (k := k) hv hm he hz
    rw [hs] at h
    have hsl := sps_len (t := t) (k := k)
    have f1 := ((rnB_k (k := k) hv hm2).1 hb).1
    exact beyond_k (k := kdOf k) (s := cond k (falls t) (longs t)) (ms := ms) (i := i) (by rw [hsl]; exact ok_me hm) (by rw [hsl]; exact meOk_okMe hx) (by omega) (by rw [hsl]; exact f1) (by rw [hsl]; exact h)
end
end Go.Proofs.Ytekjkaoibcfgfaa
