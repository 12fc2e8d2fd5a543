/- Plain facts for left: how its matrix comes about. -/
import Derived.Test.YtekjkaoibcfgfaaX1
import Derived.Test.YtekjkaoibcfgfaaBase
import Derived.Test.YtekjkaoibcfgfaaX7
import Derived.Test.YtekjkaoibcfgfaaV4
namespace Go.Proofs.Ytekjkaoibcfgfaa
set_option linter.unusedSimpArgs false
set_option linter.unusedVariables false

/-- far, but for the diagonal, up to i, k -/
def FarTo (n i k : Nat) (M : Mat) : Prop := ∀ a b, a < n → b < n → M a b = if (a < i ∨ (a = i ∧ b < k)) ∧ a ≠ b then far else 0
theorem farTo_start (n : Nat) : FarTo n 0 0 (fun _ _ => 0) := fun a b ha hb => by rw [if_neg (by omega)]
theorem farTo_set {n i k : Nat} {M : Mat} (h : FarTo n i k M) (hne : i ≠ k) : FarTo n i (k + 1) (setM M i k far) := fun a b ha hb => by
  unfold setM
  by_cases h1 : a = i ∧ b = k
  · obtain ⟨rfl, rfl⟩ := h1
    rw [if_pos ⟨rfl, rfl⟩, if_pos (by omega)]
  · rw [if_neg h1, h a b ha hb]
    by_cases h2 : (a < i ∨ (a = i ∧ b < k)) ∧ a ≠ b
    · rw [if_pos h2, if_pos (by omega)]
    · rw [if_neg h2, if_neg (by omega)]
theorem farTo_keep {n i : Nat} {M : Mat} (h : FarTo n i i M) : FarTo n i (i + 1) M := fun a b ha hb => by
  rw [h a b ha hb]
  by_cases h2 : (a < i ∨ (a = i ∧ b < i)) ∧ a ≠ b
  · rw [if_pos h2, if_pos (by omega)]
  · rw [if_neg h2, if_neg (by omega)]
theorem farTo_row {n i : Nat} {M : Mat} (h : FarTo n i n M) : FarTo n (i + 1) 0 M := fun a b ha hb => by
  rw [h a b ha hb]
  by_cases h2 : (a < i ∨ (a = i ∧ b < n)) ∧ a ≠ b
  · rw [if_pos h2, if_pos (by omega)]
  · rw [if_neg h2, if_neg (by omega)]

/-- the stretches ahead of i are in -/
def SpTo (n : Nat) (s : List Sp) (i : Nat) (M : Mat) : Prop := ∀ a b, a < n → b < n → M a b = if a = b then 0 else if b = a + 1 ∧ a < i then (spAt s a).hi else if a = b + 1 ∧ b < i then -(spAt s b).lo else far
theorem spTo_start {n : Nat} {s : List Sp} {M : Mat} (h : FarTo n n 0 M) : SpTo n s 0 M := fun a b ha hb => by
  rw [h a b ha hb]
  by_cases e : a = b
  · rw [if_neg (by omega), if_pos e]
  · rw [if_pos (by omega), if_neg e, if_neg (by omega), if_neg (by omega)]
theorem spTo_set {n i : Nat} {s : List Sp} {M : Mat} (h : SpTo n s i M) {x y : Int} (hx : x = (spAt s i).hi) (hy : y = -(spAt s i).lo) : SpTo n s (i + 1) (setM (setM M i (i + 1) x) (i + 1) i y) := fun a b ha hb => by
  unfold setM
  by_cases h1 : a = i + 1 ∧ b = i
  · obtain ⟨rfl, rfl⟩ := h1
    rw [if_pos ⟨rfl, rfl⟩, if_neg (by omega), if_neg (by omega), if_pos (by omega), hy]
  rw [if_neg h1]
  by_cases h2 : a = i ∧ b = i + 1
  · obtain ⟨rfl, rfl⟩ := h2
    rw [if_pos ⟨rfl, rfl⟩, if_neg (by omega), if_pos (by omega), hx]
  rw [if_neg h2, h a b ha hb]
  by_cases e : a = b
  · rw [if_pos e, if_pos e]
  rw [if_neg e, if_neg e]
  by_cases e1 : b = a + 1 ∧ a < i
  · rw [if_pos e1, if_pos (by omega)]
  rw [if_neg e1, if_neg (show ¬ (b = a + 1 ∧ a < i + 1) by omega)]
  by_cases e2 : a = b + 1 ∧ b < i
  · rw [if_pos e2, if_pos (show a = b + 1 ∧ b < i + 1 by omega)]
  rw [if_neg e2, if_neg (show ¬ (a = b + 1 ∧ b < i + 1) by omega)]
theorem spTo_end {n i : Nat} {s : List Sp} {M : Mat} (h : SpTo n s i M) (hi : i + 1 = n) : AgrM n M (T0 s) := fun a b ha hb => by
  rw [h a b ha hb]
  unfold T0
  by_cases e : a = b
  · rw [if_pos e, if_pos e]
  rw [if_neg e, if_neg e]
  by_cases e1 : b = a + 1
  · rw [if_pos e1, if_pos ⟨e1, by omega⟩]
  rw [if_neg e1, if_neg (by omega)]
  by_cases e2 : a = b + 1
  · rw [if_pos e2, if_pos ⟨e2, by omega⟩]
  rw [if_neg e2, if_neg (by omega)]

/-! ### what agrees goes on to agree -/
theorem setM_agr {n : Nat} {M N : Mat} (h : AgrM n M N) {i k : Nat} {v u : Int} (hv : v = u) : AgrM n (setM M i k v) (setM N i k u) := fun a b ha hb => by
  unfold setM; rw [hv, h a b ha hb]
theorem putMe_agr {n : Nat} {kind : Int} {M N : Mat} {m : Me} (hm : okMe n m) (h : AgrM n M N) : AgrM n (putMe kind M m) (putMe kind N m) := by
  obtain ⟨-, -, h1, h2, h3, -⟩ := hm
  have hf : m.frm.toNat < n := by omega
  have ht : m.to.toNat < n := by omega
  unfold putMe
  split
  · have e := setM_agr h (i := m.frm.toNat) (k := m.to.toNat) (v := min (M m.frm.toNat m.to.toNat) m.value.hi) (u := min (N m.frm.toNat m.to.toNat) m.value.hi) (by rw [h _ _ hf ht])
    exact setM_agr e (by rw [e _ _ ht hf])
  · exact h
theorem meas_snoc (kind : Int) (M : Mat) (ms : List Me) (m : Me) : meas kind M (ms ++ [m]) = putMe kind (meas kind M ms) m := by simp [meas]
theorem fwTo_agr {n : Nat} {M N : Mat} (h : AgrM n M N) : ∀ x, x ≤ n → AgrM n (fwTo M x) (fwTo N x)
  | 0, _ => h
  | x + 1, hx => fun a b ha hb => by
    have ih := fwTo_agr h x (by omega)
    simp only [fwTo, stepM]
    rw [ih a b ha hb, ih a x ha (by omega), ih x b (by omega) hb]
theorem fine_agr {n : Nat} {M N : Mat} (h : AgrM n M N) {x : Nat} (hx : x ≤ n) (hf : fine n M x) : fine n N x := fun y hy i hi => by
  rw [← fwTo_agr h y (by omega) i i hi hi]; exact hf y hy i hi
theorem AgrM.symm {n : Nat} {M N : Mat} (h : AgrM n M N) : AgrM n N M := fun a b ha hb => (h a b ha hb).symm
theorem AgrM.trans {n : Nat} {M N K : Mat} (h : AgrM n M N) (h2 : AgrM n N K) : AgrM n M K := fun a b ha hb => (h a b ha hb).trans (h2 a b ha hb)
def BdM (n : Nat) (M : Mat) : Prop := ∀ i k, i < n → k < n → -1073741824 ≤ M i k ∧ M i k ≤ 1073741824
theorem T0_bd {s : List Sp} (hs : okSps s) (n : Nat) : BdM n (T0 s) := fun i k _ _ => by
  unfold T0 far
  have h1 := hs i
  have h2 := hs k
  split
  · omega
  · split
    · omega
    · split <;> omega
theorem putMe_bd {n : Nat} {kind : Int} {M : Mat} {m : Me} (hm : okMe n m) (h : BdM n M) : BdM n (putMe kind M m) := fun i k hi hk => by
  obtain ⟨-, -, h1, h2, h3, h4, h5, h6⟩ := hm
  have b1 := h m.frm.toNat m.to.toNat (by omega) (by omega)
  have b2 := h m.to.toNat m.frm.toNat (by omega) (by omega)
  have b3 := h i k hi hk
  unfold putMe
  split
  · simp only [setM]
    split
    · split <;> omega
    · split <;> omega
  · exact b3
theorem meas_bd {n : Nat} {kind : Int} : ∀ (ms : List Me) (M : Mat), (∀ m ∈ ms, okMe n m) → BdM n M → BdM n (meas kind M ms)
  | [], _, _, h => h
  | m :: r, M, hm, h => meas_bd r (putMe kind M m) (fun x hx => hm x (by simp [hx])) (putMe_bd (hm m (by simp)) h)
set_option linter.unusedSimpArgs false
set_option linter.unusedVariables false

def updTo (f : Nat → St → St) (t : List St) (i : Nat) : List St := t.mapIdx fun j s => if j < i then f j s else s
theorem updTo_get {f : Nat → St → St} {t : List St} {i j : Nat} : (updTo f t i)[j]? = t[j]?.map fun s => if j < i then f j s else s := by simp [updTo]
theorem updTo_len {f : Nat → St → St} {t : List St} {i : Nat} : (updTo f t i).length = t.length := by simp [updTo]
theorem updTo_zero {f : Nat → St → St} {t : List St} : updTo f t 0 = t := by
  apply List.ext_getElem?; intro j; rw [updTo_get]; simp
theorem updTo_set {f : Nat → St → St} {t : List St} {i : Nat} {z z' : St} (h : t[i]? = some z) (hz : z' = f i z) : (updTo f t i).set i z' = updTo f t (i + 1) := by
  apply List.ext_getElem?; intro j
  rw [List.getElem?_set, updTo_get, updTo_get, updTo_len]
  have hlt := (List.getElem?_eq_some_iff.1 h).1
  by_cases e : i = j
  · subst e
    rw [if_pos rfl, if_pos hlt, h]
    simp [hz]
  · rw [if_neg e]
    congr 1
    funext s
    by_cases h1 : j < i
    · rw [if_pos h1, if_pos (by omega)]
    · rw [if_neg h1, if_neg (by omega)]
def newSp (D : Mat) (j : Nat) : Sp := ⟨-(D (j + 1) j), D j (j + 1)⟩
def setLong (D : Mat) (j : Nat) (s : St) : St := { s with long := newSp D j }
def setFall (D : Mat) (j : Nat) (s : St) : St := { s with fall := newSp D j }
theorem updTo_agr {F : Mat → Nat → St → St} {n : Nat} {t : List St} {D E : Mat} (hF : ∀ j s, j + 1 < n → F D j s = F E j s) (hn : t.length + 1 = n) (i : Nat) : updTo (F D) t i = updTo (F E) t i := by
  apply List.ext_getElem?; intro j
  rw [updTo_get, updTo_get]
  cases h : t[j]? with
  | none => rfl
  | some s =>
    have hlt := (List.getElem?_eq_some_iff.1 h).1
    simp only [Option.map_some]
    rw [hF j s (by omega)]
theorem newSp_agr {n : Nat} {D E : Mat} (h : AgrM n D E) {j : Nat} (hj : j + 1 < n) : newSp D j = newSp E j := by
  unfold newSp; rw [h _ _ hj (by omega), h _ _ (by omega) hj]
/-- the distances that measures of a kind leave -/
def dist (kind : Int) (s : List Sp) (ms : List Me) (n : Nat) : Mat := fwTo (meas kind (T0 s) ms) n
def fineK (kind : Int) (s : List Sp) (ms : List Me) (n : Nat) : Prop := fine n (meas kind (T0 s) ms) n
theorem order_same {n : Nat} {s : List Sp} {ms ms' : List Me} (hm : ∀ m ∈ ms, okMe n m) (hp : ∀ m, m ∈ ms' ↔ m ∈ ms) (kind : Int) :
    (fineK kind s ms' n ↔ fineK kind s ms n) ∧ (fineK kind s ms' n → AgrM n (dist kind s ms' n) (dist kind s ms n)) := by
  have hm' : ∀ m ∈ ms', okMe n m := fun m h => hm m ((hp m).1 h)
  refine fw_same (diag_meas ms' _ hm' (T0_diag n s)) (diag_meas ms _ hm (T0_diag n s)) (fun E hE hd h => ?_) (fun E hE hd h => ?_)
  · obtain ⟨h1, h2⟩ := (le_meas ms' _ hm').1 h
    exact (le_meas ms _ hm).2 ⟨h1, fun m hx => h2 m ((hp m).2 hx)⟩
  · obtain ⟨h1, h2⟩ := (le_meas ms _ hm).1 h
    exact (le_meas ms' _ hm').2 ⟨h1, fun m hx => h2 m ((hp m).1 hx)⟩
def stage1 (t : List St) (ms : List Me) : List St := updTo (setLong (dist 1 (longs t) ms (t.length + 1))) t t.length
def stage2 (t : List St) (ms : List Me) : List St := updTo (setFall (dist 2 (falls (stage1 t ms)) ms (t.length + 1))) (stage1 t ms) t.length
def fine1 (t : List St) (ms : List Me) : Prop := fineK 1 (longs t) ms (t.length + 1)
def fine2 (t : List St) (ms : List Me) : Prop := fineK 2 (falls (stage1 t ms)) ms (t.length + 1)
open Classical in
noncomputable def leftB (t : List St) (ms : List Me) : Bool := decide (fine1 t ms ∧ fine2 t ms)
noncomputable def leftT (t : List St) (ms : List Me) : List St := if leftB t ms then stage2 t ms else []
theorem stage1_len {t : List St} {ms : List Me} : (stage1 t ms).length = t.length := updTo_len
theorem stage2_len {t : List St} {ms : List Me} : (stage2 t ms).length = t.length := by unfold stage2; rw [updTo_len, stage1_len]
theorem leftB_yes {t : List St} {ms : List Me} (h1 : fine1 t ms) (h2 : fine2 t ms) : leftB t ms = true := by simp [leftB, h1, h2]
theorem leftB_no1 {t : List St} {ms : List Me} (h1 : ¬ fine1 t ms) : leftB t ms = false := by simp [leftB, h1]
theorem leftB_no2 {t : List St} {ms : List Me} (h1 : ¬ fine2 t ms) : leftB t ms = false := by simp [leftB, h1]
/-- some of the measures, by their numbers -/
def gotten (ms : List Me) (seen : List Nat) : List Me := seen.filterMap (ms[·]?)
theorem gotten_snoc {ms : List Me} {seen : List Nat} {i : Nat} {m : Me} (h : ms[i]? = some m) : gotten ms (seen ++ [i]) = gotten ms seen ++ [m] := by simp [gotten, h]
theorem gotten_all {ms : List Me} {seen : List Nat} (h : ∀ i, i < ms.length → i ∈ seen) (m : Me) : m ∈ gotten ms seen ↔ m ∈ ms := by
  simp only [gotten, List.mem_filterMap]
  constructor
  · rintro ⟨i, _, hi⟩; exact List.mem_of_getElem? hi
  · intro hm
    obtain ⟨i, hi, rfl⟩ := List.getElem_of_mem hm
    exact ⟨i, h i hi, by simp [hi]⟩
theorem gotten_ok {ms : List Me} {seen : List Nat} {n : Nat} (h : ∀ m ∈ ms, okMe n m) : ∀ m ∈ gotten ms seen, okMe n m := fun m hm => by
  simp only [gotten, List.mem_filterMap] at hm
  obtain ⟨i, _, hi⟩ := hm
  exact h m (List.mem_of_getElem? hi)
theorem nodup_len : ∀ (n : Nat) (l : List Nat), l.Nodup → (∀ x ∈ l, x < n) → l.length ≤ n
  | 0, l, _, h => by
    cases l with
    | nil => simp
    | cons x r => have := h x (by simp); omega
  | n + 1, l, hn, h => by
    have h1 := nodup_len n (l.erase n) (hn.erase n) (fun x hx => by
      have h2 := (hn.mem_erase_iff).1 hx
      have := h x h2.2
      have := h2.1
      omega)
    have h3 := List.length_erase (a := n) (l := l)
    split at h3 <;> omega
theorem nodup_snoc {l : List Nat} {i : Nat} (h : l.Nodup) (hi : i ∉ l) : (l ++ [i]).Nodup := by
  rw [List.nodup_append]
  exact ⟨h, by simp, fun a ha b hb => by simp at hb; subst hb; rintro rfl; exact hi ha⟩
end Go.Proofs.Ytekjkaoibcfgfaa
/- left: its text's parts. -/
namespace Go.Proofs.Ytekjkaoibcfgfaa
open Go.RowKit
set_option maxRecDepth 20000
set_option linter.unusedSimpArgs false
set_option linter.unusedVariables false

def stg (t : List St) (ms : List Me) : Nat → List St
  | 1 => t
  | 2 => stage1 t ms
  | _ => stage2 t ms
/-- the body of a text's first loop -/
def firstLoop : Code → Option Code
  | .loop c => some c
  | .seq a b => match firstLoop a with | some c => some c | none => firstLoop b
  | .block _ c => firstLoop c
  | .scope c => firstLoop c
  | _ => none
abbrev leftR (m b4 b6 b8 n K : Nat) : List (Nat × Value) := [(1, .map (some m)), (4, .pointer (some ⟨b4, 0, none⟩)), (6, .pointer (some ⟨b6, 0, none⟩)), (7, .int .i64 ((n + 1 : Nat) : Int)), (8, .pointer (some ⟨b8, 0, none⟩)), (9, .int .i64 (K : Int))]
abbrev leftH (b4 b6 b8 g n c' : Nat) (xs : List St) : List Ent := [.blk b4 [.slice none 0 0], .blk b6 [.slice (some ⟨g, 0, none⟩) n c'], .blk b8 [.nilFunc, .func (.func 101) #[] #[], .func (.func 102) #[] #[]], .arr encSt 9 g xs]

end Go.Proofs.Ytekjkaoibcfgfaa
