/- Which elements of a list are so: in plain Lean. -/
import Derived.Test.YtekjkaoibcfgfaaSpec
namespace Go.Proofs.Ytekjkaoibcfgfaa

def soAt {α : Type} (p : Nat → α → Bool) (l : List α) (i : Nat) : Bool := match l[i]? with | some x => p i x | none => false
def picksTo {α : Type} (p : Nat → α → Bool) (l : List α) (k : Nat) : List Int := ((List.range k).filter (soAt p l)).map Int.ofNat
def picks {α : Type} (p : Nat → α → Bool) (l : List α) : List Int := picksTo p l l.length
theorem picksTo_yes {α : Type} {p : Nat → α → Bool} {l : List α} {k : Nat} (h : soAt p l k = true) : picksTo p l (k + 1) = picksTo p l k ++ [(k : Int)] := by
  simp [picksTo, List.range_succ, List.filter_append, h]
theorem picksTo_no {α : Type} {p : Nat → α → Bool} {l : List α} {k : Nat} (h : soAt p l k = false) : picksTo p l (k + 1) = picksTo p l k := by
  simp [picksTo, List.range_succ, List.filter_append, h]
theorem picksTo_len {α : Type} (p : Nat → α → Bool) (l : List α) (k : Nat) : (picksTo p l k).length ≤ k := by
  unfold picksTo; rw [List.length_map]; exact Nat.le_trans (List.length_filter_le _ _) (by simp)
theorem picks_congr {α : Type} {p q : Nat → α → Bool} {l : List α} (h : ∀ i x, l[i]? = some x → p i x = q i x) : picks p l = picks q l := by
  unfold picks picksTo
  congr 1
  refine List.filter_congr (fun i hi => ?_)
  unfold soAt
  cases hx : l[i]? with
  | none => rfl
  | some x => exact h i x hx

end Go.Proofs.Ytekjkaoibcfgfaa
