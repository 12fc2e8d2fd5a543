/-
  NARROWER THAN 'FOR EVERY INPUT', by the rows' own cells (each row's printed sentence says how): IcePlans: laid · IceThicks: laid · IceThins: laid.
  DERIVED. THE GIVEN ROWS OF THIS SEAT. 3 by the template 'for every input the law returns true; each argument reads behind the call as it read before'; 0 by the template 'total and deterministic' (their statements: YtdigopgncfhiaaaDoorTotals.lean).
  GIVEN WITH THE SEED: the statements are not yours to turn. If you find one false, say at which input.
  Laid BY PROGRAM, IN A SANDBOX (cutbox-rows.mjs): the forced cells as the released guide's own fill.sh prints them over the translation e00bf7d805556ee5… (all of the seat's roots in one cut). By AI agents, Wed Nov 11 2026. No macro, syntax, notation, axiom, sorry.
-/
import Derived.Test.YtdigopgncfhiaaaDoorChecked
import GoSem.Claim
import GoSem.ClaimJoined
import GoSem.ClaimMapViews
import Derived.JoinedTies
import Derived.KernelRfl
namespace Go.Proofs.YtdigopgncfhiaaaDoor
/- THE CELL 'sum', in the pinned program and in every row, IS THE sha256 OF THE DUMP (.gsa) THAT YtdigopgncfhiaaaDoorProg.lean LOADS. Nothing in Lean hashes anything: it is a label: what it is worth is what the hold of that sum in a sandbox is worth. -/
noncomputable def Tryd.pinned : Pinned := { name := "ytdigopgncfhiaaadoor", sum := "e00bf7d805556ee51ef2003e70e8b7a64fe14c09c96059a45491943e59ffe7bf", checked := Tryd.checked }
namespace Rows
def none {H : Type} : Left H := { results := [], args := [] }

/- WHAT THE LISTED PACKAGE-LEVEL VARIABLES READ AS WHEN THE CALL BEGINS. Each datum BY PROGRAM (the guide's laid-datum.mjs) off the statement by which the dump's own 'gosem.cut.vars' lays the variable. In a bare row this is a premise. The card (YtdigopgncfhiaaaDoorCards.lean) ties it to the program's text. -/
def laid_kreisel_ice_limits {H : Type} : DataW H := .iface "func table" (.agg [.agg [.iface "func" (.lit (.string [107, 114, 101, 105, 115, 101, 108, 47, 105, 99, 101, 46, 108, 105, 109, 105, 116, 115, 36, 49])), .iface "func" (.lit (.string [107, 114, 101, 105, 115, 101, 108, 47, 105, 99, 101, 46, 108, 105, 109, 105, 116, 115, 36, 50]))], .agg [.iface "func" (.lit (.string [107, 114, 101, 105, 115, 101, 108, 47, 105, 99, 101, 46, 108, 105, 109, 105, 116, 115, 36, 51])), .iface "func" (.lit (.string [107, 114, 101, 105, 115, 101, 108, 47, 105, 99, 101, 46, 108, 105, 109, 105, 116, 115, 36, 52]))]])

/-- 'kreisellaw02.IcePlans': WHATEVER THE INPUT: true; the input reads as it did. -/
def icePlansSpec : ChangeSpec := { name := "icePlans", fn := fun _ => fun
  | [d1, d2, d3] => { results := [.lit (.bool true)], args := [d1, d2, d3] }
  | _ => none }
def icePlansRow : OpenClaim := { program := "ytdigopgncfhiaaadoor", sum := "e00bf7d805556ee51ef2003e70e8b7a64fe14c09c96059a45491943e59ffe7bf", func := "kreisel/kreisellaw02.IcePlans", spec := "icePlans", unfollowed := true, recurses := true, named := ["kreisel/ice.limits"], plainKeys := false, apart := false, laid := [("kreisel/ice.limits", laid_kreisel_ice_limits)] }
def IcePlansSaid : Prop := icePlansRow.holds Tryd.pinned (OpenSpec.ofChange icePlansSpec)

/-- ITS FALSE NEIGHBOUR: 'it returns false'. Refute it at one input. -/
def icePlansWrong : ChangeSpec := { name := "icePlans", fn := fun _ => fun
  | [d1, d2, d3] => { results := [.lit (.bool false)], args := [d1, d2, d3] }
  | _ => none }
def IcePlansWrongFalsely : Prop := icePlansRow.holds Tryd.pinned (OpenSpec.ofChange icePlansWrong)

/-- 'kreisellaw02.IceThicks': WHATEVER THE INPUT: true; the input reads as it did. -/
def iceThicksSpec : ChangeSpec := { name := "iceThicks", fn := fun _ => fun
  | [d1, d2, d3, d4] => { results := [.lit (.bool true)], args := [d1, d2, d3, d4] }
  | _ => none }
def iceThicksRow : OpenClaim := { program := "ytdigopgncfhiaaadoor", sum := "e00bf7d805556ee51ef2003e70e8b7a64fe14c09c96059a45491943e59ffe7bf", func := "kreisel/kreisellaw02.IceThicks", spec := "iceThicks", unfollowed := true, recurses := true, named := ["kreisel/ice.limits"], plainKeys := false, apart := false, laid := [("kreisel/ice.limits", laid_kreisel_ice_limits)] }
def IceThicksSaid : Prop := iceThicksRow.holds Tryd.pinned (OpenSpec.ofChange iceThicksSpec)

/-- ITS FALSE NEIGHBOUR: 'it returns false'. Refute it at one input. -/
def iceThicksWrong : ChangeSpec := { name := "iceThicks", fn := fun _ => fun
  | [d1, d2, d3, d4] => { results := [.lit (.bool false)], args := [d1, d2, d3, d4] }
  | _ => none }
def IceThicksWrongFalsely : Prop := iceThicksRow.holds Tryd.pinned (OpenSpec.ofChange iceThicksWrong)

/-- 'kreisellaw02.IceThins': WHATEVER THE INPUT: true; the input reads as it did. -/
def iceThinsSpec : ChangeSpec := { name := "iceThins", fn := fun _ => fun
  | [d1, d2] => { results := [.lit (.bool true)], args := [d1, d2] }
  | _ => none }
def iceThinsRow : OpenClaim := { program := "ytdigopgncfhiaaadoor", sum := "e00bf7d805556ee51ef2003e70e8b7a64fe14c09c96059a45491943e59ffe7bf", func := "kreisel/kreisellaw02.IceThins", spec := "iceThins", unfollowed := true, recurses := true, named := ["kreisel/ice.limits"], plainKeys := false, apart := false, laid := [("kreisel/ice.limits", laid_kreisel_ice_limits)] }
def IceThinsSaid : Prop := iceThinsRow.holds Tryd.pinned (OpenSpec.ofChange iceThinsSpec)

/-- ITS FALSE NEIGHBOUR: 'it returns false'. Refute it at one input. -/
def iceThinsWrong : ChangeSpec := { name := "iceThins", fn := fun _ => fun
  | [d1, d2] => { results := [.lit (.bool false)], args := [d1, d2] }
  | _ => none }
def IceThinsWrongFalsely : Prop := iceThinsRow.holds Tryd.pinned (OpenSpec.ofChange iceThinsWrong)

/- THE SECOND FORM. 'bulk': how many values and letters a reading holds, each counted each time it is reached (what is shared counts as often as it is met; a slice's spare places count too). A statement '..UptoSaid' is the law's where the arguments, and the package variables that the reading takes, are together of bulk at most 1048576: NARROWER than '..Said'. Prove '..Said' where nothing that the law and all that it calls make is longer than what came in: it says more and counts as full. Else prove '..UptoSaid'. A law counts once. -/
mutual
def uptoBulk {H : Type} : DataW H → Nat
  | .lit (.string bytes) => bytes.length + 1
  | .lit _ => 1
  | .nil => 1
  | .ptr d => uptoBulk d + 1
  | .slice elems spare => uptoBulkAll elems + uptoBulkAll spare + 1
  | .agg parts => uptoBulkAll parts + 1
  | .iface _ d => uptoBulk d + 1
  | .map entries => uptoBulkEntries entries + 1
  | .held _ => 1
def uptoBulkAll {H : Type} : List (DataW H) → Nat
  | [] => 0
  | d :: r => uptoBulk d + uptoBulkAll r
def uptoBulkEntries {H : Type} : List (Lit × DataW H) → Nat
  | [] => 0
  | x :: r => uptoBulkEntry x + uptoBulkEntries r
def uptoBulkEntry {H : Type} : Lit × DataW H → Nat
  | (.string bytes, d) => bytes.length + uptoBulk d + 1
  | (_, d) => uptoBulk d + 1
 end
def uptoSmall : (H : Type) → List (DataW H) → Bool := fun _ ds => decide (uptoBulkAll ds ≤ 1048576)
def OpenSpec.upto (s : _root_.Go.ChangeSpec) : _root_.Go.OpenSpec := { _root_.Go.OpenSpec.ofChange s with cond := some uptoSmall }

/-- 'kreisellaw02.IcePlans', WHERE WHAT IT READS IS OF BULK AT MOST 1048576: true; the input reads as it did. -/
def icePlansUptoRow : OpenClaim := { program := "ytdigopgncfhiaaadoor", sum := "e00bf7d805556ee51ef2003e70e8b7a64fe14c09c96059a45491943e59ffe7bf", func := "kreisel/kreisellaw02.IcePlans", spec := "icePlans", unfollowed := true, recurses := true, named := ["kreisel/ice.limits"], plainKeys := false, apart := false, laid := [("kreisel/ice.limits", laid_kreisel_ice_limits)], narrowed := true }
def IcePlansUptoSaid : Prop := icePlansUptoRow.holds Tryd.pinned (OpenSpec.upto icePlansSpec)

/-- 'kreisellaw02.IceThicks', WHERE WHAT IT READS IS OF BULK AT MOST 1048576: true; the input reads as it did. -/
def iceThicksUptoRow : OpenClaim := { program := "ytdigopgncfhiaaadoor", sum := "e00bf7d805556ee51ef2003e70e8b7a64fe14c09c96059a45491943e59ffe7bf", func := "kreisel/kreisellaw02.IceThicks", spec := "iceThicks", unfollowed := true, recurses := true, named := ["kreisel/ice.limits"], plainKeys := false, apart := false, laid := [("kreisel/ice.limits", laid_kreisel_ice_limits)], narrowed := true }
def IceThicksUptoSaid : Prop := iceThicksUptoRow.holds Tryd.pinned (OpenSpec.upto iceThicksSpec)

/-- 'kreisellaw02.IceThins', WHERE WHAT IT READS IS OF BULK AT MOST 1048576: true; the input reads as it did. -/
def iceThinsUptoRow : OpenClaim := { program := "ytdigopgncfhiaaadoor", sum := "e00bf7d805556ee51ef2003e70e8b7a64fe14c09c96059a45491943e59ffe7bf", func := "kreisel/kreisellaw02.IceThins", spec := "iceThins", unfollowed := true, recurses := true, named := ["kreisel/ice.limits"], plainKeys := false, apart := false, laid := [("kreisel/ice.limits", laid_kreisel_ice_limits)], narrowed := true }
def IceThinsUptoSaid : Prop := iceThinsUptoRow.holds Tryd.pinned (OpenSpec.upto iceThinsSpec)

end Rows
end Go.Proofs.YtdigopgncfhiaaaDoor
