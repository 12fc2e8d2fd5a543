/- Slope of the program and of the reference. -/
import Derived.Test.YtdigopgncfhiaaaDoorDropT
import Derived.Test.YtdigopgncfhiaaaDoorOpen
namespace Go.Proofs.YtdigopgncfhiaaaDoor
set_option linter.unusedVariables false
open Go.RowKit
set_option linter.unusedSimpArgs false
set_option maxRecDepth 20000

/-- how steep a stretch is, in thousandths, at least and at most -/
def slopeOf (s : St) : Sp := ⟨s.fall.lo * 1000 / s.long.hi, (s.fall.hi * 1000 + s.long.lo - 1) / s.long.lo⟩
def slopeT (t : List St) (i : Int) : Sp := if valid t && inB 0 (t.length - 1) i then (match t[i.toNat]? with | some s => slopeOf s | none => ⟨0, 0⟩) else ⟨0, 0⟩
def errS (t : List St) (i : Int) : Int := if valid t then (if inB 0 (t.length - 1) i then 0 else 2) else 10

theorem up_eq {n d : Int} (hn : 0 ≤ n) (hd : 1 ≤ d) : (n + d - 1) / d = if 0 < n % d then n / d + 1 else n / d := by
  have h1 := Int.emod_add_mul_ediv n d
  have h2 := Int.emod_nonneg n (show d ≠ 0 by omega)
  have h3 := Int.emod_lt_of_pos n (show 0 < d by omega)
  generalize n / d = q at *
  generalize n % d = r at *
  have e : n + d - 1 = (r + d - 1) + d * q := by omega
  rw [e, Int.add_mul_ediv_left _ _ (by omega)]
  split
  · have : (r + d - 1) / d = 1 := by
      rw [show r + d - 1 = (r - 1) + d * 1 by omega, Int.add_mul_ediv_left _ _ (by omega), Int.ediv_eq_zero_of_lt (by omega) (by omega)]; rfl
    omega
  · have : (r + d - 1) / d = 0 := Int.ediv_eq_zero_of_lt (by omega) (by omega)
    omega

end Go.Proofs.YtdigopgncfhiaaaDoor
/- Slope of the program. -/
namespace Go.Proofs.YtdigopgncfhiaaaDoor
set_option linter.unusedVariables false
open Go.RowKit
set_option linter.unusedSimpArgs false
set_option maxRecDepth 20000

end Go.Proofs.YtdigopgncfhiaaaDoor
