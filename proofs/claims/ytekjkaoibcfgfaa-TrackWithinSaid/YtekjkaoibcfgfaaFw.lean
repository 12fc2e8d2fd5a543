/- The plain law of Narrow: matrices of most distances, pivots, and why both ways lead to the same. -/
import Derived.Test.YtekjkaoibcfgfaaBase
namespace Go.Proofs.Ytekjkaoibcfgfaa
set_option linter.unusedVariables false
set_option linter.unusedSimpArgs false

abbrev Mat := Nat → Nat → Int
/-- one pivot -/
def stepM (x : Nat) (M : Mat) : Mat := fun i k => min (M i k) (M i x + M x k)
/-- after the pivots ahead of x -/
def fwTo (M : Mat) : Nat → Mat
  | 0 => M
  | x + 1 => stepM x (fwTo M x)
def fine (n : Nat) (M : Mat) (x : Nat) : Prop := ∀ y, y ≤ x → ∀ i, i < n → 0 ≤ fwTo M y i i
def Tri (n : Nat) (E : Mat) : Prop := ∀ i k y, i < n → k < n → y < n → E i k ≤ E i y + E y k
def Le (n : Nat) (E M : Mat) : Prop := ∀ i k, i < n → k < n → E i k ≤ M i k
def Diag (n : Nat) (M : Mat) : Prop := ∀ i, i < n → M i i = 0

theorem step_le (x : Nat) (M : Mat) (i k : Nat) : stepM x M i k ≤ M i k := by unfold stepM; omega
theorem fwTo_le (M : Mat) : ∀ x i k, fwTo M x i k ≤ M i k
  | 0, _, _ => Int.le_refl _
  | x + 1, i, k => Int.le_trans (step_le x _ i k) (fwTo_le M x i k)
theorem fwTo_diag {n : Nat} {M : Mat} (h0 : Diag n M) {x : Nat} (hf : fine n M x) : Diag n (fwTo M x) := fun i hi => by
  have h1 := fwTo_le M x i i
  have h2 := hf x (Nat.le_refl _) i hi
  have h3 := h0 i hi
  omega
theorem fine.mono {n : Nat} {M : Mat} {x y : Nat} (h : fine n M x) (hy : y ≤ x) : fine n M y := fun z hz i hi => h z (by omega) i hi
/-- the pivots done: the triangle holds through each of them -/
theorem fwTo_tri {n : Nat} {M : Mat} (h0 : Diag n M) : ∀ x, x ≤ n → fine n M x → ∀ y, y < x → ∀ i k, i < n → k < n → fwTo M x i k ≤ fwTo M x i y + fwTo M x y k
  | 0, _, _, y, hy, _, _, _, _ => by omega
  | x + 1, hx, hf, y, hy, i, k, hi, hk => by
    have hf' := hf.mono (Nat.le_succ x)
    have hd := fwTo_diag h0 hf'
    have ih := fwTo_tri h0 x (by omega) hf'
    have dx := hd x (by omega)
    simp only [fwTo, stepM]
    by_cases hyx : y = x
    · subst hyx
      omega
    · have hy' : y < x := by omega
      have a1 := ih y hy' i k hi hk
      have a2 := ih y hy' x k (by omega) hk
      have a3 := ih y hy' i x hi (by omega)
      have a4 := ih y hy' x x (by omega) (by omega)
      omega
theorem fw_tri {n : Nat} {M : Mat} (h0 : Diag n M) (hf : fine n M n) : Tri n (fwTo M n) := fun i k y hi hk hy => fwTo_tri h0 n (Nat.le_refl n) hf y hy i k hi hk
/-- what fits ahead of the pivots fits behind them -/
theorem fw_above {n : Nat} {M E : Mat} (hE : Tri n E) (h : Le n E M) : ∀ x, x ≤ n → Le n E (fwTo M x)
  | 0, _ => h
  | x + 1, hx => fun i k hi hk => by
    have ih := fw_above hE h x (by omega)
    have a1 := ih i k hi hk
    have a2 := ih i x hi (by omega)
    have a3 := ih x k (by omega) hk
    have a4 := hE i k x hi hk (by omega)
    simp only [fwTo, stepM]
    omega
theorem fw_fine {n : Nat} {M1 M2 : Mat} (h1 : Diag n M1) (h : ∀ E, Tri n E → Diag n E → Le n E M1 → Le n E M2) (hf : fine n M1 n) : fine n M2 n ∧ Le n (fwTo M1 n) (fwTo M2 n) := by
  have ht := fw_tri h1 hf
  have hd := fwTo_diag h1 hf
  have hl := h _ ht hd (fun i k _ _ => fwTo_le M1 n i k)
  have ha := fw_above ht hl
  refine ⟨fun y hy i hi => ?_, ha n (Nat.le_refl n)⟩
  have := ha y hy i i hi hi
  rw [hd i hi] at this
  exact this
/-- two matrices that say the same lead to the same -/
theorem fw_same {n : Nat} {M1 M2 : Mat} (h1 : Diag n M1) (h2 : Diag n M2) (ha : ∀ E, Tri n E → Diag n E → Le n E M1 → Le n E M2) (hb : ∀ E, Tri n E → Diag n E → Le n E M2 → Le n E M1) :
    (fine n M1 n ↔ fine n M2 n) ∧ (fine n M1 n → ∀ i k, i < n → k < n → fwTo M1 n i k = fwTo M2 n i k) := by
  refine ⟨⟨fun h => (fw_fine h1 ha h).1, fun h => (fw_fine h2 hb h).1⟩, fun h i k hi hk => ?_⟩
  have x1 := (fw_fine h1 ha h).2 i k hi hk
  have x2 := (fw_fine h2 hb (fw_fine h1 ha h).1).2 i k hi hk
  omega
/-- numbers that double at most -/
theorem fw_bd {n : Nat} {M : Mat} {B : Int} (h : ∀ i k, i < n → k < n → -B ≤ M i k ∧ M i k ≤ B) (hB : 0 ≤ B) : ∀ x, x ≤ n → ∀ i k, i < n → k < n → -(2 ^ x * B) ≤ fwTo M x i k ∧ fwTo M x i k ≤ B
  | 0, _, i, k, hi, hk => by simpa [fwTo] using h i k hi hk
  | x + 1, hx, i, k, hi, hk => by
    have ih := fw_bd h hB x (by omega)
    have a1 := ih i k hi hk
    have a2 := ih i x hi (by omega)
    have a3 := ih x k (by omega) hk
    have e : (2 : Int) ^ (x + 1) * B = 2 * (2 ^ x * B) := by rw [Int.pow_succ]; rw [Int.mul_comm ((2 : Int) ^ x) 2, Int.mul_assoc]
    have hp : 0 ≤ (2 : Int) ^ x * B := Int.mul_nonneg (Int.pow_nonneg (by omega)) hB
    rw [e]
    simp only [fwTo, stepM]
    omega

/-! ### the two matrices to begin with -/
def spAt (s : List Sp) (i : Nat) : Sp := s.getD i ⟨0, 0⟩
def far : Int := 1073741824
def T0 (s : List Sp) : Mat := fun i k => if i = k then 0 else if k = i + 1 then (spAt s i).hi else if i = k + 1 then -(spAt s k).lo else far
def sumHi (s : List Sp) (i : Nat) : Nat → Int
  | 0 => 0
  | d + 1 => sumHi s i d + (spAt s (i + d)).hi
def sumLo (s : List Sp) (i : Nat) : Nat → Int
  | 0 => 0
  | d + 1 => sumLo s i d + (spAt s (i + d)).lo
def R0 (s : List Sp) : Mat := fun i k => if i ≤ k then sumHi s i (k - i) else -(sumLo s k (i - k))
def setM (M : Mat) (a b : Nat) (v : Int) : Mat := fun i k => if i = a ∧ k = b then v else M i k
/-- a measure put in -/
def putMe (kind : Int) (M : Mat) (m : Me) : Mat :=
  if m.kind = kind then
    let M' := setM M m.frm.toNat m.to.toNat (min (M m.frm.toNat m.to.toNat) m.value.hi)
    setM M' m.to.toNat m.frm.toNat (min (M' m.to.toNat m.frm.toNat) (-m.value.lo))
  else M
def meas (kind : Int) (M : Mat) (ms : List Me) : Mat := ms.foldl (putMe kind) M
/-- a measure that may stand on a track of n - 1 stretches -/
def okMe (n : Nat) (m : Me) : Prop := 1 ≤ m.kind ∧ m.kind ≤ 2 ∧ 0 ≤ m.frm ∧ m.frm < m.to ∧ m.to < n ∧ 0 ≤ m.value.lo ∧ m.value.lo ≤ m.value.hi ∧ m.value.hi ≤ 360000

theorem le_putMe {n : Nat} {kind : Int} {E M : Mat} {m : Me} (hm : okMe n m) : Le n E (putMe kind M m) ↔ Le n E M ∧ (m.kind = kind → E m.frm.toNat m.to.toNat ≤ m.value.hi ∧ E m.to.toNat m.frm.toNat ≤ -m.value.lo) := by
  obtain ⟨-, -, h1, h2, h3, -⟩ := hm
  have hf : m.frm.toNat < n := by omega
  have ht : m.to.toNat < n := by omega
  have hne : m.frm.toNat ≠ m.to.toNat := by omega
  unfold putMe
  by_cases hk : m.kind = kind
  · rw [if_pos hk]
    simp only [hk, forall_const, true_imp_iff]
    constructor
    · intro h
      have a1 := h _ _ hf ht
      have a2 := h _ _ ht hf
      simp only [setM, if_true, and_self, hne, Ne.symm hne, false_and, if_false, and_false] at a1 a2
      refine ⟨fun i k hi hk => ?_, by omega, by omega⟩
      have a3 := h i k hi hk
      simp only [setM] at a3
      split at a3
      · rename_i e; obtain ⟨rfl, rfl⟩ := e
        simp only [hne, Ne.symm hne, false_and, if_false, and_false] at a3
        omega
      · split at a3
        · rename_i e; obtain ⟨rfl, rfl⟩ := e; omega
        · exact a3
    · rintro ⟨h, b1, b2⟩ i k hi hk
      have a1 := h i k hi hk
      simp only [setM]
      split
      · rename_i e; obtain ⟨rfl, rfl⟩ := e
        simp only [hne, Ne.symm hne, false_and, if_false, and_false]
        omega
      · split
        · rename_i e; obtain ⟨rfl, rfl⟩ := e; omega
        · exact a1
  · rw [if_neg hk]
    exact ⟨fun h => ⟨h, fun e => absurd e hk⟩, fun h => h.1⟩
theorem le_meas {n : Nat} {kind : Int} {E : Mat} : ∀ (ms : List Me) (M : Mat), (∀ m ∈ ms, okMe n m) → (Le n E (meas kind M ms) ↔ Le n E M ∧ ∀ m ∈ ms, m.kind = kind → E m.frm.toNat m.to.toNat ≤ m.value.hi ∧ E m.to.toNat m.frm.toNat ≤ -m.value.lo)
  | [], M, _ => by simp [meas]
  | m :: r, M, h => by
    have ih := le_meas (E := E) (kind := kind) r (putMe kind M m) (fun x hx => h x (by simp [hx]))
    have hp := le_putMe (E := E) (kind := kind) (M := M) (h m (by simp))
    simp only [meas, List.foldl_cons] at ih ⊢
    rw [ih, hp]
    constructor
    · rintro ⟨⟨a, b⟩, c⟩
      refine ⟨a, fun x hx => ?_⟩
      rcases List.mem_cons.1 hx with rfl | hx
      · exact b
      · exact c x hx
    · rintro ⟨a, b⟩
      exact ⟨⟨a, b m (by simp)⟩, fun x hx => b x (by simp [hx])⟩
theorem diag_putMe {n : Nat} {kind : Int} {M : Mat} {m : Me} (hm : okMe n m) (h : Diag n M) : Diag n (putMe kind M m) := fun i hi => by
  obtain ⟨-, -, h1, h2, h3, -⟩ := hm
  have hne : m.frm.toNat ≠ m.to.toNat := by omega
  unfold putMe
  split
  · simp only [setM]
    rw [if_neg (by omega), if_neg (by omega)]
    exact h i hi
  · exact h i hi
theorem diag_meas {n : Nat} {kind : Int} : ∀ (ms : List Me) (M : Mat), (∀ m ∈ ms, okMe n m) → Diag n M → Diag n (meas kind M ms)
  | [], _, _, h => h
  | m :: r, M, hm, h => diag_meas r (putMe kind M m) (fun x hx => hm x (by simp [hx])) (diag_putMe (hm m (by simp)) h)
theorem T0_diag (n : Nat) (s : List Sp) : Diag n (T0 s) := fun i _ => by simp [T0]
theorem R0_diag (n : Nat) (s : List Sp) : Diag n (R0 s) := fun i _ => by simp [R0, sumHi]

/-- spans as they lie in a track -/
def okSps (s : List Sp) : Prop := ∀ i, 0 ≤ (spAt s i).lo ∧ (spAt s i).lo ≤ (spAt s i).hi ∧ (spAt s i).hi ≤ 30000
theorem sumHi_bd {s : List Sp} (h : okSps s) (i : Nat) : ∀ d : Nat, 0 ≤ sumHi s i d ∧ sumHi s i d ≤ 30000 * d
  | 0 => by simp [sumHi]
  | d + 1 => by
    have := sumHi_bd h i d; have := h (i + d)
    simp only [sumHi]; omega
theorem sumLo_bd {s : List Sp} (h : okSps s) (i : Nat) : ∀ d : Nat, 0 ≤ sumLo s i d ∧ sumLo s i d ≤ 30000 * d
  | 0 => by simp [sumLo]
  | d + 1 => by
    have := sumLo_bd h i d; have := h (i + d)
    simp only [sumLo]; omega
theorem hi_above {n : Nat} {s : List Sp} {E : Mat} (hE : Tri n E) (hd : Diag n E) (h : Le n E (T0 s)) (i : Nat) : ∀ d, i + d < n → E i (i + d) ≤ sumHi s i d
  | 0, hi => by have := hd i (by omega); simp [sumHi]; omega
  | d + 1, hi => by
    have ih := hi_above hE hd h i d (by omega)
    have a1 := hE i (i + (d + 1)) (i + d) (by omega) hi (by omega)
    have a2 := h (i + d) (i + (d + 1)) (by omega) hi
    have e : T0 s (i + d) (i + (d + 1)) = (spAt s (i + d)).hi := by
      unfold T0; rw [if_neg (by omega), if_pos (by omega)]
    rw [e] at a2
    simp only [sumHi]; omega
theorem lo_above {n : Nat} {s : List Sp} {E : Mat} (hE : Tri n E) (hd : Diag n E) (h : Le n E (T0 s)) (i : Nat) : ∀ d, i + d < n → E (i + d) i ≤ -(sumLo s i d)
  | 0, hi => by have := hd i (by omega); simp [sumLo]; omega
  | d + 1, hi => by
    have ih := lo_above hE hd h i d (by omega)
    have a1 := hE (i + (d + 1)) i (i + d) hi (by omega) (by omega)
    have a2 := h (i + (d + 1)) (i + d) hi (by omega)
    have e : T0 s (i + (d + 1)) (i + d) = -(spAt s (i + d)).lo := by
      unfold T0; rw [if_neg (by omega), if_neg (by omega), if_pos (by omega)]
    rw [e] at a2
    simp only [sumLo]; omega
theorem T0_R0 {n : Nat} {s : List Sp} {E : Mat} (hE : Tri n E) (hd : Diag n E) (h : Le n E (T0 s)) : Le n E (R0 s) := fun i k hi hk => by
  unfold R0
  split
  · have := hi_above hE hd h i (k - i) (by omega)
    rwa [show i + (k - i) = k by omega] at this
  · have := lo_above hE hd h k (i - k) (by omega)
    rwa [show k + (i - k) = i by omega] at this
theorem R0_T0 {n : Nat} {s : List Sp} (hs : okSps s) (hn : n ≤ 13) : Le n (R0 s) (T0 s) := fun i k hi hk => by
  unfold R0 T0
  by_cases e : i = k
  · subst e; simp [sumHi]
  rw [if_neg e]
  by_cases e1 : k = i + 1
  · subst e1
    rw [if_pos (by omega), if_pos rfl, show i + 1 - i = 0 + 1 by omega]
    simp [sumHi]
  rw [if_neg e1]
  by_cases e2 : i = k + 1
  · subst e2
    rw [if_neg (by omega), if_pos rfl, show k + 1 - k = 0 + 1 by omega]
    simp [sumLo]
  rw [if_neg e2]
  unfold far
  split
  · have := sumHi_bd hs i (k - i); omega
  · have := sumLo_bd hs k (i - k); omega
/-- both ways lead to the same -/
theorem narrow_same {n : Nat} {s : List Sp} (hs : okSps s) (hn : n ≤ 13) {ms ms' : List Me} (hm : ∀ m ∈ ms, okMe n m) (hp : ∀ m, m ∈ ms' ↔ m ∈ ms) (kind : Int) :
    (fine n (meas kind (T0 s) ms') n ↔ fine n (meas kind (R0 s) ms) n) ∧ (fine n (meas kind (T0 s) ms') n → ∀ i k, i < n → k < n → fwTo (meas kind (T0 s) ms') n i k = fwTo (meas kind (R0 s) ms) n i k) := by
  have hm' : ∀ m ∈ ms', okMe n m := fun m h => hm m ((hp m).1 h)
  refine fw_same (diag_meas ms' _ hm' (T0_diag n s)) (diag_meas ms _ hm (R0_diag n s)) (fun E hE hd h => ?_) (fun E hE hd h => ?_)
  · obtain ⟨h1, h2⟩ := (le_meas ms' _ hm').1 h
    exact (le_meas ms _ hm).2 ⟨T0_R0 hE hd h1, fun m hx => h2 m ((hp m).2 hx)⟩
  · obtain ⟨h1, h2⟩ := (le_meas ms _ hm).1 h
    exact (le_meas ms' _ hm').2 ⟨fun i k hi hk => Int.le_trans (h1 i k hi hk) (R0_T0 hs hn i k hi hk), fun m hx => h2 m ((hp m).1 hx)⟩
end Go.Proofs.Ytekjkaoibcfgfaa
