/- Apart, of both. -/
import Derived.Test.YtdigopgncfhiaaaDoorW2
namespace Go.Proofs.YtdigopgncfhiaaaDoor
set_option linter.unusedVariables false
open Go.RowKit
set_option maxRecDepth 20000
set_option linter.unusedSimpArgs false

/-- from a spot to one that isn't before it -/
def ap0 (t : List St) (a b : Spot) : Sp := ⟨(longBetween t a.st.toNat b.st.toNat).lo + b.off.lo - a.off.hi, (longBetween t a.st.toNat b.st.toNat).hi + b.off.hi - a.off.lo⟩
def apT (t : List St) (a b : Spot) : Sp := if valid t && (spotOk t a && spotOk t b) then (if b.st < a.st then negSp (ap0 t b a) else ap0 t a b) else ⟨0, 0⟩
def errB (t : List St) (a b : Spot) : Int := if valid t then (if spotOk t a && spotOk t b then 0 else 12) else 10

end Go.Proofs.YtdigopgncfhiaaaDoor
