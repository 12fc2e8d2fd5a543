/- Which stretches may be the steepest ones. -/
import Derived.Test.YtdigopgncfhiaaaDoorV5
namespace Go.Proofs.YtdigopgncfhiaaaDoor
set_option linter.unusedVariables false
open Go.RowKit
set_option maxRecDepth 20000
set_option linter.unusedSimpArgs false


theorem mul_bd {a b A B : Int} (h1 : 0 ≤ a) (h2 : a ≤ A) (h3 : 0 ≤ b) (h4 : b ≤ B) : 0 ≤ a * b ∧ a * b ≤ A * B :=
  ⟨Int.mul_nonneg h1 h3, Int.mul_le_mul h2 h4 h3 (Int.le_trans h1 h2)⟩

/-- is the stretch o, at k, surely steeper than s, at i? -/
def lessP (s : St) (i k : Nat) (o : St) : Bool := decide (k ≠ i) && decide (s.fall.hi * o.long.hi < o.fall.lo * s.long.lo)
def steepP (t : List St) (i : Nat) (s : St) : Bool := decide ((picks (lessP s i) t).length = 0)
def steepT (t : List St) : List Int := if valid t then picks (steepP t) t else []

theorem picksTo_le {α : Type} (p : Nat → α → Bool) (l : List α) {j k : Nat} (h : j ≤ k) : (picksTo p l j).length ≤ (picksTo p l k).length := by
  induction h with
  | refl => exact Nat.le_refl _
  | @step m _ ih =>
    refine Nat.le_trans ih ?_
    cases hs : soAt p l m
    · rw [picksTo_no hs]; exact Nat.le_refl _
    · rw [picksTo_yes hs]; simp

end Go.Proofs.YtdigopgncfhiaaaDoor
