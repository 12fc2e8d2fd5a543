/-
  NARROWER THAN 'FOR EVERY INPUT', by the rows' own cells (each row's printed sentence says how): IceTrue: laid · IceLeast: laid · IceNeeded: laid · IceShort: laid · IceMore: laid · IceGoesOn: laid · IceMost: laid · IceDrilled: laid · IceExamples: laid · IceEnds: laid · IceBeside: laid · IceWater: laid.
  DERIVED. THE GIVEN ROWS OF THIS SEAT. 12 by the template 'for every input the law returns true; each argument reads behind the call as it read before'; 0 by the template 'total and deterministic' (their statements: YtdigopgncfhiaaaGreatDoorTotals.lean).
  GIVEN WITH THE SEED: the statements are not yours to turn. If you find one false, say at which input.
  Laid BY PROGRAM, IN A SANDBOX (cutbox-rows.mjs): the forced cells as the released guide's own fill.sh prints them over the translation 72fb687755023ff4… (all of the seat's roots in one cut). By AI agents, Wed Nov 11 2026. No macro, syntax, notation, axiom, sorry.
-/
import Derived.Test.YtdigopgncfhiaaaGreatDoorChecked
import GoSem.Claim
import GoSem.ClaimJoined
import GoSem.ClaimMapViews
import Derived.JoinedTies
import Derived.KernelRfl
namespace Go.Proofs.YtdigopgncfhiaaaGreatDoor
/- THE CELL 'sum', in the pinned program and in every row, IS THE sha256 OF THE DUMP (.gsa) THAT YtdigopgncfhiaaaGreatDoorProg.lean LOADS. Nothing in Lean hashes anything: it is a label: what it is worth is what the hold of that sum in a sandbox is worth. -/
noncomputable def Tryz.pinned : Pinned := { name := "ytdigopgncfhiaaagreatdoor", sum := "72fb687755023ff49dbae5e44dc2bace4acfba4fd125aad2708fdfe9a0c13953", checked := Tryz.checked }
namespace Rows
def none {H : Type} : Left H := { results := [], args := [] }

/- WHAT THE LISTED PACKAGE-LEVEL VARIABLES READ AS WHEN THE CALL BEGINS. Each datum BY PROGRAM (the guide's laid-datum.mjs) off the statement by which the dump's own 'gosem.cut.vars' lays the variable. In a bare row this is a premise. The card (YtdigopgncfhiaaaGreatDoorCards.lean) ties it to the program's text. -/
def laid_kreisel_ice_limits {H : Type} : DataW H := .iface "func table" (.agg [.agg [.iface "func" (.lit (.string [107, 114, 101, 105, 115, 101, 108, 47, 105, 99, 101, 46, 108, 105, 109, 105, 116, 115, 36, 49])), .iface "func" (.lit (.string [107, 114, 101, 105, 115, 101, 108, 47, 105, 99, 101, 46, 108, 105, 109, 105, 116, 115, 36, 50]))], .agg [.iface "func" (.lit (.string [107, 114, 101, 105, 115, 101, 108, 47, 105, 99, 101, 46, 108, 105, 109, 105, 116, 115, 36, 51])), .iface "func" (.lit (.string [107, 114, 101, 105, 115, 101, 108, 47, 105, 99, 101, 46, 108, 105, 109, 105, 116, 115, 36, 52]))]])

/-- 'kreisellaw02.IceTrue': WHATEVER THE INPUT: true; the input reads as it did. -/
def iceTrueSpec : ChangeSpec := { name := "iceTrue", fn := fun _ => fun
  | [d1, d2] => { results := [.lit (.bool true)], args := [d1, d2] }
  | _ => none }
def iceTrueRow : OpenClaim := { program := "ytdigopgncfhiaaagreatdoor", sum := "72fb687755023ff49dbae5e44dc2bace4acfba4fd125aad2708fdfe9a0c13953", func := "kreisel/kreisellaw02.IceTrue", spec := "iceTrue", unfollowed := true, recurses := true, named := ["kreisel/ice.limits"], plainKeys := false, apart := false, laid := [("kreisel/ice.limits", laid_kreisel_ice_limits)] }
def IceTrueSaid : Prop := iceTrueRow.holds Tryz.pinned (OpenSpec.ofChange iceTrueSpec)

/-- ITS FALSE NEIGHBOUR: 'it returns false'. Refute it at one input. -/
def iceTrueWrong : ChangeSpec := { name := "iceTrue", fn := fun _ => fun
  | [d1, d2] => { results := [.lit (.bool false)], args := [d1, d2] }
  | _ => none }
def IceTrueWrongFalsely : Prop := iceTrueRow.holds Tryz.pinned (OpenSpec.ofChange iceTrueWrong)

/-- 'kreisellaw02.IceLeast': WHATEVER THE INPUT: true; the input reads as it did. -/
def iceLeastSpec : ChangeSpec := { name := "iceLeast", fn := fun _ => fun
  | [d1, d2] => { results := [.lit (.bool true)], args := [d1, d2] }
  | _ => none }
def iceLeastRow : OpenClaim := { program := "ytdigopgncfhiaaagreatdoor", sum := "72fb687755023ff49dbae5e44dc2bace4acfba4fd125aad2708fdfe9a0c13953", func := "kreisel/kreisellaw02.IceLeast", spec := "iceLeast", unfollowed := true, recurses := true, named := ["kreisel/ice.limits"], plainKeys := false, apart := false, laid := [("kreisel/ice.limits", laid_kreisel_ice_limits)] }
def IceLeastSaid : Prop := iceLeastRow.holds Tryz.pinned (OpenSpec.ofChange iceLeastSpec)

/-- ITS FALSE NEIGHBOUR: 'it returns false'. Refute it at one input. -/
def iceLeastWrong : ChangeSpec := { name := "iceLeast", fn := fun _ => fun
  | [d1, d2] => { results := [.lit (.bool false)], args := [d1, d2] }
  | _ => none }
def IceLeastWrongFalsely : Prop := iceLeastRow.holds Tryz.pinned (OpenSpec.ofChange iceLeastWrong)

/-- 'kreisellaw02.IceNeeded': WHATEVER THE INPUT: true; the input reads as it did. -/
def iceNeededSpec : ChangeSpec := { name := "iceNeeded", fn := fun _ => fun
  | [d1, d2] => { results := [.lit (.bool true)], args := [d1, d2] }
  | _ => none }
def iceNeededRow : OpenClaim := { program := "ytdigopgncfhiaaagreatdoor", sum := "72fb687755023ff49dbae5e44dc2bace4acfba4fd125aad2708fdfe9a0c13953", func := "kreisel/kreisellaw02.IceNeeded", spec := "iceNeeded", unfollowed := true, recurses := true, named := ["kreisel/ice.limits"], plainKeys := false, apart := false, laid := [("kreisel/ice.limits", laid_kreisel_ice_limits)] }
def IceNeededSaid : Prop := iceNeededRow.holds Tryz.pinned (OpenSpec.ofChange iceNeededSpec)

/-- ITS FALSE NEIGHBOUR: 'it returns false'. Refute it at one input. -/
def iceNeededWrong : ChangeSpec := { name := "iceNeeded", fn := fun _ => fun
  | [d1, d2] => { results := [.lit (.bool false)], args := [d1, d2] }
  | _ => none }
def IceNeededWrongFalsely : Prop := iceNeededRow.holds Tryz.pinned (OpenSpec.ofChange iceNeededWrong)

/-- 'kreisellaw02.IceShort': WHATEVER THE INPUT: true; the input reads as it did. -/
def iceShortSpec : ChangeSpec := { name := "iceShort", fn := fun _ => fun
  | [d] => { results := [.lit (.bool true)], args := [d] }
  | _ => none }
def iceShortRow : OpenClaim := { program := "ytdigopgncfhiaaagreatdoor", sum := "72fb687755023ff49dbae5e44dc2bace4acfba4fd125aad2708fdfe9a0c13953", func := "kreisel/kreisellaw02.IceShort", spec := "iceShort", unfollowed := true, recurses := true, named := ["kreisel/ice.limits"], plainKeys := false, apart := false, laid := [("kreisel/ice.limits", laid_kreisel_ice_limits)] }
def IceShortSaid : Prop := iceShortRow.holds Tryz.pinned (OpenSpec.ofChange iceShortSpec)

/-- ITS FALSE NEIGHBOUR: 'it returns false'. Refute it at one input. -/
def iceShortWrong : ChangeSpec := { name := "iceShort", fn := fun _ => fun
  | [d] => { results := [.lit (.bool false)], args := [d] }
  | _ => none }
def IceShortWrongFalsely : Prop := iceShortRow.holds Tryz.pinned (OpenSpec.ofChange iceShortWrong)

/-- 'kreisellaw02.IceMore': WHATEVER THE INPUT: true; the input reads as it did. -/
def iceMoreSpec : ChangeSpec := { name := "iceMore", fn := fun _ => fun
  | [d1, d2] => { results := [.lit (.bool true)], args := [d1, d2] }
  | _ => none }
def iceMoreRow : OpenClaim := { program := "ytdigopgncfhiaaagreatdoor", sum := "72fb687755023ff49dbae5e44dc2bace4acfba4fd125aad2708fdfe9a0c13953", func := "kreisel/kreisellaw02.IceMore", spec := "iceMore", unfollowed := true, recurses := true, named := ["kreisel/ice.limits"], plainKeys := false, apart := false, laid := [("kreisel/ice.limits", laid_kreisel_ice_limits)] }
def IceMoreSaid : Prop := iceMoreRow.holds Tryz.pinned (OpenSpec.ofChange iceMoreSpec)

/-- ITS FALSE NEIGHBOUR: 'it returns false'. Refute it at one input. -/
def iceMoreWrong : ChangeSpec := { name := "iceMore", fn := fun _ => fun
  | [d1, d2] => { results := [.lit (.bool false)], args := [d1, d2] }
  | _ => none }
def IceMoreWrongFalsely : Prop := iceMoreRow.holds Tryz.pinned (OpenSpec.ofChange iceMoreWrong)

/-- 'kreisellaw02.IceGoesOn': WHATEVER THE INPUT: true; the input reads as it did. -/
def iceGoesOnSpec : ChangeSpec := { name := "iceGoesOn", fn := fun _ => fun
  | [d1, d2, d3] => { results := [.lit (.bool true)], args := [d1, d2, d3] }
  | _ => none }
def iceGoesOnRow : OpenClaim := { program := "ytdigopgncfhiaaagreatdoor", sum := "72fb687755023ff49dbae5e44dc2bace4acfba4fd125aad2708fdfe9a0c13953", func := "kreisel/kreisellaw02.IceGoesOn", spec := "iceGoesOn", unfollowed := true, recurses := true, named := ["kreisel/ice.limits"], plainKeys := false, apart := false, laid := [("kreisel/ice.limits", laid_kreisel_ice_limits)] }
def IceGoesOnSaid : Prop := iceGoesOnRow.holds Tryz.pinned (OpenSpec.ofChange iceGoesOnSpec)

/-- ITS FALSE NEIGHBOUR: 'it returns false'. Refute it at one input. -/
def iceGoesOnWrong : ChangeSpec := { name := "iceGoesOn", fn := fun _ => fun
  | [d1, d2, d3] => { results := [.lit (.bool false)], args := [d1, d2, d3] }
  | _ => none }
def IceGoesOnWrongFalsely : Prop := iceGoesOnRow.holds Tryz.pinned (OpenSpec.ofChange iceGoesOnWrong)

/-- 'kreisellaw02.IceMost': WHATEVER THE INPUT: true; the input reads as it did. -/
def iceMostSpec : ChangeSpec := { name := "iceMost", fn := fun _ => fun
  | [d1, d2, d3] => { results := [.lit (.bool true)], args := [d1, d2, d3] }
  | _ => none }
def iceMostRow : OpenClaim := { program := "ytdigopgncfhiaaagreatdoor", sum := "72fb687755023ff49dbae5e44dc2bace4acfba4fd125aad2708fdfe9a0c13953", func := "kreisel/kreisellaw02.IceMost", spec := "iceMost", unfollowed := true, recurses := true, named := ["kreisel/ice.limits"], plainKeys := false, apart := false, laid := [("kreisel/ice.limits", laid_kreisel_ice_limits)] }
def IceMostSaid : Prop := iceMostRow.holds Tryz.pinned (OpenSpec.ofChange iceMostSpec)

/-- ITS FALSE NEIGHBOUR: 'it returns false'. Refute it at one input. -/
def iceMostWrong : ChangeSpec := { name := "iceMost", fn := fun _ => fun
  | [d1, d2, d3] => { results := [.lit (.bool false)], args := [d1, d2, d3] }
  | _ => none }
def IceMostWrongFalsely : Prop := iceMostRow.holds Tryz.pinned (OpenSpec.ofChange iceMostWrong)

/-- 'kreisellaw02.IceDrilled': WHATEVER THE INPUT: true; the input reads as it did. -/
def iceDrilledSpec : ChangeSpec := { name := "iceDrilled", fn := fun _ => fun
  | [d1, d2, d3, d4] => { results := [.lit (.bool true)], args := [d1, d2, d3, d4] }
  | _ => none }
def iceDrilledRow : OpenClaim := { program := "ytdigopgncfhiaaagreatdoor", sum := "72fb687755023ff49dbae5e44dc2bace4acfba4fd125aad2708fdfe9a0c13953", func := "kreisel/kreisellaw02.IceDrilled", spec := "iceDrilled", unfollowed := true, recurses := true, named := ["kreisel/ice.limits"], plainKeys := false, apart := false, laid := [("kreisel/ice.limits", laid_kreisel_ice_limits)] }
def IceDrilledSaid : Prop := iceDrilledRow.holds Tryz.pinned (OpenSpec.ofChange iceDrilledSpec)

/-- ITS FALSE NEIGHBOUR: 'it returns false'. Refute it at one input. -/
def iceDrilledWrong : ChangeSpec := { name := "iceDrilled", fn := fun _ => fun
  | [d1, d2, d3, d4] => { results := [.lit (.bool false)], args := [d1, d2, d3, d4] }
  | _ => none }
def IceDrilledWrongFalsely : Prop := iceDrilledRow.holds Tryz.pinned (OpenSpec.ofChange iceDrilledWrong)

/-- 'kreisellaw02.IceExamples': WHATEVER THE INPUT: true; the input reads as it did. -/
def iceExamplesSpec : ChangeSpec := { name := "iceExamples", fn := fun _ => fun
  | [] => { results := [.lit (.bool true)], args := [] }
  | _ => none }
def iceExamplesRow : OpenClaim := { program := "ytdigopgncfhiaaagreatdoor", sum := "72fb687755023ff49dbae5e44dc2bace4acfba4fd125aad2708fdfe9a0c13953", func := "kreisel/kreisellaw02.IceExamples", spec := "iceExamples", unfollowed := true, recurses := true, named := ["kreisel/ice.limits"], plainKeys := false, apart := false, laid := [("kreisel/ice.limits", laid_kreisel_ice_limits)] }
def IceExamplesSaid : Prop := iceExamplesRow.holds Tryz.pinned (OpenSpec.ofChange iceExamplesSpec)

/-- ITS FALSE NEIGHBOUR: 'it returns false'. Refute it at one input. -/
def iceExamplesWrong : ChangeSpec := { name := "iceExamples", fn := fun _ => fun
  | [] => { results := [.lit (.bool false)], args := [] }
  | _ => none }
def IceExamplesWrongFalsely : Prop := iceExamplesRow.holds Tryz.pinned (OpenSpec.ofChange iceExamplesWrong)

/-- 'kreisellaw02.IceEnds': WHATEVER THE INPUT: true; the input reads as it did. -/
def iceEndsSpec : ChangeSpec := { name := "iceEnds", fn := fun _ => fun
  | [d1, d2] => { results := [.lit (.bool true)], args := [d1, d2] }
  | _ => none }
def iceEndsRow : OpenClaim := { program := "ytdigopgncfhiaaagreatdoor", sum := "72fb687755023ff49dbae5e44dc2bace4acfba4fd125aad2708fdfe9a0c13953", func := "kreisel/kreisellaw02.IceEnds", spec := "iceEnds", unfollowed := true, recurses := true, named := ["kreisel/ice.limits"], plainKeys := false, apart := false, laid := [("kreisel/ice.limits", laid_kreisel_ice_limits)] }
def IceEndsSaid : Prop := iceEndsRow.holds Tryz.pinned (OpenSpec.ofChange iceEndsSpec)

/-- ITS FALSE NEIGHBOUR: 'it returns false'. Refute it at one input. -/
def iceEndsWrong : ChangeSpec := { name := "iceEnds", fn := fun _ => fun
  | [d1, d2] => { results := [.lit (.bool false)], args := [d1, d2] }
  | _ => none }
def IceEndsWrongFalsely : Prop := iceEndsRow.holds Tryz.pinned (OpenSpec.ofChange iceEndsWrong)

/-- 'kreisellaw02.IceBeside': WHATEVER THE INPUT: true; the input reads as it did. -/
def iceBesideSpec : ChangeSpec := { name := "iceBeside", fn := fun _ => fun
  | [d1, d2, d3, d4] => { results := [.lit (.bool true)], args := [d1, d2, d3, d4] }
  | _ => none }
def iceBesideRow : OpenClaim := { program := "ytdigopgncfhiaaagreatdoor", sum := "72fb687755023ff49dbae5e44dc2bace4acfba4fd125aad2708fdfe9a0c13953", func := "kreisel/kreisellaw02.IceBeside", spec := "iceBeside", unfollowed := true, recurses := true, named := ["kreisel/ice.limits"], plainKeys := false, apart := false, laid := [("kreisel/ice.limits", laid_kreisel_ice_limits)] }
def IceBesideSaid : Prop := iceBesideRow.holds Tryz.pinned (OpenSpec.ofChange iceBesideSpec)

/-- ITS FALSE NEIGHBOUR: 'it returns false'. Refute it at one input. -/
def iceBesideWrong : ChangeSpec := { name := "iceBeside", fn := fun _ => fun
  | [d1, d2, d3, d4] => { results := [.lit (.bool false)], args := [d1, d2, d3, d4] }
  | _ => none }
def IceBesideWrongFalsely : Prop := iceBesideRow.holds Tryz.pinned (OpenSpec.ofChange iceBesideWrong)

/-- 'kreisellaw02.IceWater': WHATEVER THE INPUT: true; the input reads as it did. -/
def iceWaterSpec : ChangeSpec := { name := "iceWater", fn := fun _ => fun
  | [d1, d2, d3] => { results := [.lit (.bool true)], args := [d1, d2, d3] }
  | _ => none }
def iceWaterRow : OpenClaim := { program := "ytdigopgncfhiaaagreatdoor", sum := "72fb687755023ff49dbae5e44dc2bace4acfba4fd125aad2708fdfe9a0c13953", func := "kreisel/kreisellaw02.IceWater", spec := "iceWater", unfollowed := true, recurses := true, named := ["kreisel/ice.limits"], plainKeys := false, apart := false, laid := [("kreisel/ice.limits", laid_kreisel_ice_limits)] }
def IceWaterSaid : Prop := iceWaterRow.holds Tryz.pinned (OpenSpec.ofChange iceWaterSpec)

/-- ITS FALSE NEIGHBOUR: 'it returns false'. Refute it at one input. -/
def iceWaterWrong : ChangeSpec := { name := "iceWater", fn := fun _ => fun
  | [d1, d2, d3] => { results := [.lit (.bool false)], args := [d1, d2, d3] }
  | _ => none }
def IceWaterWrongFalsely : Prop := iceWaterRow.holds Tryz.pinned (OpenSpec.ofChange iceWaterWrong)

/- THE SECOND FORM. 'bulk': how many values and letters a reading holds, each counted each time it is reached (what is shared counts as often as it is met; a slice's spare places count too). A statement '..UptoSaid' is the law's where the arguments, and the package variables that the reading takes, are together of bulk at most 1048576: NARROWER than '..Said'. Prove '..Said' where nothing that the law and all that it calls make is longer than what came in: it says more and counts as full. Else prove '..UptoSaid'. A law counts once. -/
mutual
def uptoBulk {H : Type} : DataW H → Nat
  | .lit (.string bytes) => bytes.length + 1
  | .lit _ => 1
  | .nil => 1
  | .ptr d => uptoBulk d + 1
  | .slice elems spare => uptoBulkAll elems + uptoBulkAll spare + 1
  | .agg parts => uptoBulkAll parts + 1
  | .iface _ d => uptoBulk d + 1
  | .map entries => uptoBulkEntries entries + 1
  | .held _ => 1
def uptoBulkAll {H : Type} : List (DataW H) → Nat
  | [] => 0
  | d :: r => uptoBulk d + uptoBulkAll r
def uptoBulkEntries {H : Type} : List (Lit × DataW H) → Nat
  | [] => 0
  | x :: r => uptoBulkEntry x + uptoBulkEntries r
def uptoBulkEntry {H : Type} : Lit × DataW H → Nat
  | (.string bytes, d) => bytes.length + uptoBulk d + 1
  | (_, d) => uptoBulk d + 1
 end
def uptoSmall : (H : Type) → List (DataW H) → Bool := fun _ ds => decide (uptoBulkAll ds ≤ 1048576)
def OpenSpec.upto (s : _root_.Go.ChangeSpec) : _root_.Go.OpenSpec := { _root_.Go.OpenSpec.ofChange s with cond := some uptoSmall }

/-- 'kreisellaw02.IceTrue', WHERE WHAT IT READS IS OF BULK AT MOST 1048576: true; the input reads as it did. -/
def iceTrueUptoRow : OpenClaim := { program := "ytdigopgncfhiaaagreatdoor", sum := "72fb687755023ff49dbae5e44dc2bace4acfba4fd125aad2708fdfe9a0c13953", func := "kreisel/kreisellaw02.IceTrue", spec := "iceTrue", unfollowed := true, recurses := true, named := ["kreisel/ice.limits"], plainKeys := false, apart := false, laid := [("kreisel/ice.limits", laid_kreisel_ice_limits)], narrowed := true }
def IceTrueUptoSaid : Prop := iceTrueUptoRow.holds Tryz.pinned (OpenSpec.upto iceTrueSpec)

/-- 'kreisellaw02.IceLeast', WHERE WHAT IT READS IS OF BULK AT MOST 1048576: true; the input reads as it did. -/
def iceLeastUptoRow : OpenClaim := { program := "ytdigopgncfhiaaagreatdoor", sum := "72fb687755023ff49dbae5e44dc2bace4acfba4fd125aad2708fdfe9a0c13953", func := "kreisel/kreisellaw02.IceLeast", spec := "iceLeast", unfollowed := true, recurses := true, named := ["kreisel/ice.limits"], plainKeys := false, apart := false, laid := [("kreisel/ice.limits", laid_kreisel_ice_limits)], narrowed := true }
def IceLeastUptoSaid : Prop := iceLeastUptoRow.holds Tryz.pinned (OpenSpec.upto iceLeastSpec)

/-- 'kreisellaw02.IceNeeded', WHERE WHAT IT READS IS OF BULK AT MOST 1048576: true; the input reads as it did. -/
def iceNeededUptoRow : OpenClaim := { program := "ytdigopgncfhiaaagreatdoor", sum := "72fb687755023ff49dbae5e44dc2bace4acfba4fd125aad2708fdfe9a0c13953", func := "kreisel/kreisellaw02.IceNeeded", spec := "iceNeeded", unfollowed := true, recurses := true, named := ["kreisel/ice.limits"], plainKeys := false, apart := false, laid := [("kreisel/ice.limits", laid_kreisel_ice_limits)], narrowed := true }
def IceNeededUptoSaid : Prop := iceNeededUptoRow.holds Tryz.pinned (OpenSpec.upto iceNeededSpec)

/-- 'kreisellaw02.IceShort', WHERE WHAT IT READS IS OF BULK AT MOST 1048576: true; the input reads as it did. -/
def iceShortUptoRow : OpenClaim := { program := "ytdigopgncfhiaaagreatdoor", sum := "72fb687755023ff49dbae5e44dc2bace4acfba4fd125aad2708fdfe9a0c13953", func := "kreisel/kreisellaw02.IceShort", spec := "iceShort", unfollowed := true, recurses := true, named := ["kreisel/ice.limits"], plainKeys := false, apart := false, laid := [("kreisel/ice.limits", laid_kreisel_ice_limits)], narrowed := true }
def IceShortUptoSaid : Prop := iceShortUptoRow.holds Tryz.pinned (OpenSpec.upto iceShortSpec)

/-- 'kreisellaw02.IceMore', WHERE WHAT IT READS IS OF BULK AT MOST 1048576: true; the input reads as it did. -/
def iceMoreUptoRow : OpenClaim := { program := "ytdigopgncfhiaaagreatdoor", sum := "72fb687755023ff49dbae5e44dc2bace4acfba4fd125aad2708fdfe9a0c13953", func := "kreisel/kreisellaw02.IceMore", spec := "iceMore", unfollowed := true, recurses := true, named := ["kreisel/ice.limits"], plainKeys := false, apart := false, laid := [("kreisel/ice.limits", laid_kreisel_ice_limits)], narrowed := true }
def IceMoreUptoSaid : Prop := iceMoreUptoRow.holds Tryz.pinned (OpenSpec.upto iceMoreSpec)

/-- 'kreisellaw02.IceGoesOn', WHERE WHAT IT READS IS OF BULK AT MOST 1048576: true; the input reads as it did. -/
def iceGoesOnUptoRow : OpenClaim := { program := "ytdigopgncfhiaaagreatdoor", sum := "72fb687755023ff49dbae5e44dc2bace4acfba4fd125aad2708fdfe9a0c13953", func := "kreisel/kreisellaw02.IceGoesOn", spec := "iceGoesOn", unfollowed := true, recurses := true, named := ["kreisel/ice.limits"], plainKeys := false, apart := false, laid := [("kreisel/ice.limits", laid_kreisel_ice_limits)], narrowed := true }
def IceGoesOnUptoSaid : Prop := iceGoesOnUptoRow.holds Tryz.pinned (OpenSpec.upto iceGoesOnSpec)

/-- 'kreisellaw02.IceMost', WHERE WHAT IT READS IS OF BULK AT MOST 1048576: true; the input reads as it did. -/
def iceMostUptoRow : OpenClaim := { program := "ytdigopgncfhiaaagreatdoor", sum := "72fb687755023ff49dbae5e44dc2bace4acfba4fd125aad2708fdfe9a0c13953", func := "kreisel/kreisellaw02.IceMost", spec := "iceMost", unfollowed := true, recurses := true, named := ["kreisel/ice.limits"], plainKeys := false, apart := false, laid := [("kreisel/ice.limits", laid_kreisel_ice_limits)], narrowed := true }
def IceMostUptoSaid : Prop := iceMostUptoRow.holds Tryz.pinned (OpenSpec.upto iceMostSpec)

/-- 'kreisellaw02.IceDrilled', WHERE WHAT IT READS IS OF BULK AT MOST 1048576: true; the input reads as it did. -/
def iceDrilledUptoRow : OpenClaim := { program := "ytdigopgncfhiaaagreatdoor", sum := "72fb687755023ff49dbae5e44dc2bace4acfba4fd125aad2708fdfe9a0c13953", func := "kreisel/kreisellaw02.IceDrilled", spec := "iceDrilled", unfollowed := true, recurses := true, named := ["kreisel/ice.limits"], plainKeys := false, apart := false, laid := [("kreisel/ice.limits", laid_kreisel_ice_limits)], narrowed := true }
def IceDrilledUptoSaid : Prop := iceDrilledUptoRow.holds Tryz.pinned (OpenSpec.upto iceDrilledSpec)

/-- 'kreisellaw02.IceExamples', WHERE WHAT IT READS IS OF BULK AT MOST 1048576: true; the input reads as it did. -/
def iceExamplesUptoRow : OpenClaim := { program := "ytdigopgncfhiaaagreatdoor", sum := "72fb687755023ff49dbae5e44dc2bace4acfba4fd125aad2708fdfe9a0c13953", func := "kreisel/kreisellaw02.IceExamples", spec := "iceExamples", unfollowed := true, recurses := true, named := ["kreisel/ice.limits"], plainKeys := false, apart := false, laid := [("kreisel/ice.limits", laid_kreisel_ice_limits)], narrowed := true }
def IceExamplesUptoSaid : Prop := iceExamplesUptoRow.holds Tryz.pinned (OpenSpec.upto iceExamplesSpec)

/-- 'kreisellaw02.IceEnds', WHERE WHAT IT READS IS OF BULK AT MOST 1048576: true; the input reads as it did. -/
def iceEndsUptoRow : OpenClaim := { program := "ytdigopgncfhiaaagreatdoor", sum := "72fb687755023ff49dbae5e44dc2bace4acfba4fd125aad2708fdfe9a0c13953", func := "kreisel/kreisellaw02.IceEnds", spec := "iceEnds", unfollowed := true, recurses := true, named := ["kreisel/ice.limits"], plainKeys := false, apart := false, laid := [("kreisel/ice.limits", laid_kreisel_ice_limits)], narrowed := true }
def IceEndsUptoSaid : Prop := iceEndsUptoRow.holds Tryz.pinned (OpenSpec.upto iceEndsSpec)

/-- 'kreisellaw02.IceBeside', WHERE WHAT IT READS IS OF BULK AT MOST 1048576: true; the input reads as it did. -/
def iceBesideUptoRow : OpenClaim := { program := "ytdigopgncfhiaaagreatdoor", sum := "72fb687755023ff49dbae5e44dc2bace4acfba4fd125aad2708fdfe9a0c13953", func := "kreisel/kreisellaw02.IceBeside", spec := "iceBeside", unfollowed := true, recurses := true, named := ["kreisel/ice.limits"], plainKeys := false, apart := false, laid := [("kreisel/ice.limits", laid_kreisel_ice_limits)], narrowed := true }
def IceBesideUptoSaid : Prop := iceBesideUptoRow.holds Tryz.pinned (OpenSpec.upto iceBesideSpec)

/-- 'kreisellaw02.IceWater', WHERE WHAT IT READS IS OF BULK AT MOST 1048576: true; the input reads as it did. -/
def iceWaterUptoRow : OpenClaim := { program := "ytdigopgncfhiaaagreatdoor", sum := "72fb687755023ff49dbae5e44dc2bace4acfba4fd125aad2708fdfe9a0c13953", func := "kreisel/kreisellaw02.IceWater", spec := "iceWater", unfollowed := true, recurses := true, named := ["kreisel/ice.limits"], plainKeys := false, apart := false, laid := [("kreisel/ice.limits", laid_kreisel_ice_limits)], narrowed := true }
def IceWaterUptoSaid : Prop := iceWaterUptoRow.holds Tryz.pinned (OpenSpec.upto iceWaterSpec)

end Rows
end Go.Proofs.YtdigopgncfhiaaaGreatDoor
