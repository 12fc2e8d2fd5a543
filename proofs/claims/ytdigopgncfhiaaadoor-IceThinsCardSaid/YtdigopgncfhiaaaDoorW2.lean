/- At, of both. -/
import Derived.Test.YtdigopgncfhiaaaDoorW1
namespace Go.Proofs.YtdigopgncfhiaaaDoor
set_option linter.unusedVariables false
open Go.RowKit
set_option maxRecDepth 20000
set_option linter.unusedSimpArgs false

theorem spotOk_bd {t : List St} {s : Spot} (h : spotOk t s = true) (ho : ∀ s ∈ t, Okay s) : 0 ≤ s.off.lo ∧ s.off.lo ≤ s.off.hi ∧ s.off.hi ≤ 30000 := by
  obtain ⟨I, hI, hlt⟩ := spotOk_yes h
  obtain ⟨st, off⟩ := s
  simp only at hI ⊢
  subst hI
  rw [spotOk_in hlt, knownB_iff] at h
  have := (ho t[I] (List.getElem_mem hlt)).l1
  have := (ho t[I] (List.getElem_mem hlt)).l2
  omega

theorem stand_1 (t : List St) (s : Spot) : decide ((picks (spotP t) [s]).length = 0) = spotOk t s := by
  have e : picks (spotP t) [s] = picksTo (spotP t) [s] (0 + 1) := rfl
  have h0 : soAt (spotP t) [s] 0 = !spotOk t s := rfl
  rw [e]
  cases h : spotOk t s
  · rw [picksTo_yes (by rw [h0, h]; rfl)]; simp
  · rw [picksTo_no (by rw [h0, h]; rfl)]; simp [picksTo]
theorem stand_2 (t : List St) (a b : Spot) : decide ((picks (spotP t) [a, b]).length = 0) = (spotOk t a && spotOk t b) := by
  have e : picks (spotP t) [a, b] = picksTo (spotP t) [a, b] (0 + 1 + 1) := rfl
  have h0 : soAt (spotP t) [a, b] 0 = !spotOk t a := rfl
  have h1 : soAt (spotP t) [a, b] (0 + 1) = !spotOk t b := rfl
  rw [e]
  cases h : spotOk t b
  · rw [picksTo_yes (by rw [h1, h]; rfl)]; simp
  · rw [picksTo_no (by rw [h1, h]; rfl)]
    cases h2 : spotOk t a
    · rw [picksTo_yes (by rw [h0, h2]; rfl)]; simp
    · rw [picksTo_no (by rw [h0, h2]; rfl)]; simp [picksTo]

def negSp (s : Sp) : Sp := ⟨-s.hi, -s.lo⟩
def atT (t : List St) (s : Spot) : Sp := if valid t && spotOk t s then addSp (mark t s.st.toNat) s.off else ⟨0, 0⟩
def errA (t : List St) (s : Spot) : Int := if valid t then (if spotOk t s then 0 else 12) else 10

end Go.Proofs.YtdigopgncfhiaaaDoor
