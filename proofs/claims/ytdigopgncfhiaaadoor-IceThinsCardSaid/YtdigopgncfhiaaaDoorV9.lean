/- The law TrackMarks returns true. -/
import Derived.Test.YtdigopgncfhiaaaDoorV8
import Derived.Test.YtdigopgncfhiaaaDoorSlope
import Derived.Test.YtdigopgncfhiaaaDoorDropT
import Derived.Test.YtdigopgncfhiaaaDoorSameT
namespace Go.Proofs.YtdigopgncfhiaaaDoor
set_option linter.unusedVariables false
open Go.RowKit
set_option maxRecDepth 20000
set_option linter.unusedSimpArgs false

theorem same_ints_self (a : List Int) (A B : Option Addr) (c d : Nat) (w : World) (ha : SlAt encI 1 w A a) (hb : SlAt encI 1 w B a) (hl : a.length ≤ 1000000) : Gv Tryd.prog 61 [.slice A a.length c, .slice B a.length d] w (.bool true) :=
  ((same_ints a a A B c d w ha hb hl hl).of (by simp)).gv
theorem same_self (a : List St) (A B : Option Addr) (c d : Nat) (w : World) (ha : SlAt encSt 9 w A a) (hb : SlAt encSt 9 w B a) (hl : a.length ≤ 1000000) : Gv Tryd.prog 62 [.agg #[.slice A a.length c], .agg #[.slice B a.length d]] w (.bool true) :=
  ((same_any a a A B c d w ha hb hl hl).of (by simp)).gv
theorem great_n (A : Option Addr) (n c : Nat) (w : World) : Gv Tryd.prog 35 [.agg #[.slice A n c]] w (.bool (decide (20 < n))) := (great_any A n c w).gv

theorem marksT_le {t : List St} : (marksT t).length ≤ t.length + 1 := by
  unfold marksT; split <;> simp [marks_len]
theorem placeT_le {t : List St} {a : Int} : (placeT t a).length ≤ t.length + 1 := by
  unfold placeT; split
  · exact Nat.le_trans (picksTo_len _ _ _) (by simp [marks_len])
  · simp
theorem steepT_le {t : List St} : (steepT t).length ≤ t.length := by
  unfold steepT; split
  · exact picksTo_len _ _ _
  · simp

end Go.Proofs.YtdigopgncfhiaaaDoor
