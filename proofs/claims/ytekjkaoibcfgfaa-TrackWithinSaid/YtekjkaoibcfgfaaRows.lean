/-
  No cell of these rows narrows 'for every input' (looked for: loops, veiled, ifaces, maps, wideKeys, modest, calm, conditions, laid).
  DERIVED. THE GIVEN ROWS OF THIS SEAT. 13 by the template 'for every input the law returns true; each argument reads behind the call as it read before'; 0 by the template 'total and deterministic' (their statements: YtekjkaoibcfgfaaTotals.lean).
  GIVEN WITH THE SEED: the statements are not yours to turn. If you find one false, say at which input.
  Laid BY PROGRAM, IN A SANDBOX (cutbox-rows.mjs): the forced cells as the released guide's own fill.sh prints them over the translation c5fecda682228fe4… (all of the seat's roots in one cut). By AI agents, Wed Nov 11 2026. No macro, syntax, notation, axiom, sorry.
-/
import Derived.Test.YtekjkaoibcfgfaaChecked
import GoSem.Claim
import GoSem.ClaimJoined
import GoSem.ClaimMapViews
import Derived.JoinedTies
import Derived.KernelRfl
namespace Go.Proofs.Ytekjkaoibcfgfaa
/- THE CELL 'sum', in the pinned program and in every row, IS THE sha256 OF THE DUMP (.gsa) THAT YtekjkaoibcfgfaaProg.lean LOADS. Nothing in Lean hashes anything: it is a label: what it is worth is what the hold of that sum in a sandbox is worth. -/
noncomputable def Try.pinned : Pinned := { name := "ytekjkaoibcfgfaa", sum := "c5fecda682228fe45383a7baec6f3d1ea8d5c46aede85e794ac19d946c7d9ef3", checked := Try.checked }
namespace Rows
def none {H : Type} : Left H := { results := [], args := [] }

/-- 'kreisellaw01.TrackMarks': WHATEVER THE INPUT: true; the input reads as it did. -/
def trackMarksSpec : ChangeSpec := { name := "trackMarks", fn := fun _ => fun
  | [d1, d2, d3, d4, d5] => { results := [.lit (.bool true)], args := [d1, d2, d3, d4, d5] }
  | _ => none }
def trackMarksRow : OpenClaim := { program := "ytekjkaoibcfgfaa", sum := "c5fecda682228fe45383a7baec6f3d1ea8d5c46aede85e794ac19d946c7d9ef3", func := "kreisel/kreisellaw01.TrackMarks", spec := "trackMarks", unfollowed := true, recurses := true, apart := false }
def TrackMarksSaid : Prop := trackMarksRow.holds Try.pinned (OpenSpec.ofChange trackMarksSpec)

/-- ITS FALSE NEIGHBOUR: 'it returns false'. Refute it at one input. -/
def trackMarksWrong : ChangeSpec := { name := "trackMarks", fn := fun _ => fun
  | [d1, d2, d3, d4, d5] => { results := [.lit (.bool false)], args := [d1, d2, d3, d4, d5] }
  | _ => none }
def TrackMarksWrongFalsely : Prop := trackMarksRow.holds Try.pinned (OpenSpec.ofChange trackMarksWrong)

/-- 'kreisellaw01.TrackSpots': WHATEVER THE INPUT: true; the input reads as it did. -/
def trackSpotsSpec : ChangeSpec := { name := "trackSpots", fn := fun _ => fun
  | [d1, d2, d3, d4] => { results := [.lit (.bool true)], args := [d1, d2, d3, d4] }
  | _ => none }
def trackSpotsRow : OpenClaim := { program := "ytekjkaoibcfgfaa", sum := "c5fecda682228fe45383a7baec6f3d1ea8d5c46aede85e794ac19d946c7d9ef3", func := "kreisel/kreisellaw01.TrackSpots", spec := "trackSpots", unfollowed := true, recurses := true, apart := false }
def TrackSpotsSaid : Prop := trackSpotsRow.holds Try.pinned (OpenSpec.ofChange trackSpotsSpec)

/-- ITS FALSE NEIGHBOUR: 'it returns false'. Refute it at one input. -/
def trackSpotsWrong : ChangeSpec := { name := "trackSpots", fn := fun _ => fun
  | [d1, d2, d3, d4] => { results := [.lit (.bool false)], args := [d1, d2, d3, d4] }
  | _ => none }
def TrackSpotsWrongFalsely : Prop := trackSpotsRow.holds Try.pinned (OpenSpec.ofChange trackSpotsWrong)

/-- 'kreisellaw01.TrackNarrows': WHATEVER THE INPUT: true; the input reads as it did. -/
def trackNarrowsSpec : ChangeSpec := { name := "trackNarrows", fn := fun _ => fun
  | [d1, d2] => { results := [.lit (.bool true)], args := [d1, d2] }
  | _ => none }
def trackNarrowsRow : OpenClaim := { program := "ytekjkaoibcfgfaa", sum := "c5fecda682228fe45383a7baec6f3d1ea8d5c46aede85e794ac19d946c7d9ef3", func := "kreisel/kreisellaw01.TrackNarrows", spec := "trackNarrows", unfollowed := true, recurses := true, apart := false }
def TrackNarrowsSaid : Prop := trackNarrowsRow.holds Try.pinned (OpenSpec.ofChange trackNarrowsSpec)

/-- ITS FALSE NEIGHBOUR: 'it returns false'. Refute it at one input. -/
def trackNarrowsWrong : ChangeSpec := { name := "trackNarrows", fn := fun _ => fun
  | [d1, d2] => { results := [.lit (.bool false)], args := [d1, d2] }
  | _ => none }
def TrackNarrowsWrongFalsely : Prop := trackNarrowsRow.holds Try.pinned (OpenSpec.ofChange trackNarrowsWrong)

/-- 'kreisellaw01.TrackKept': WHATEVER THE INPUT: true; the input reads as it did. -/
def trackKeptSpec : ChangeSpec := { name := "trackKept", fn := fun _ => fun
  | [d1, d2] => { results := [.lit (.bool true)], args := [d1, d2] }
  | _ => none }
def trackKeptRow : OpenClaim := { program := "ytekjkaoibcfgfaa", sum := "c5fecda682228fe45383a7baec6f3d1ea8d5c46aede85e794ac19d946c7d9ef3", func := "kreisel/kreisellaw01.TrackKept", spec := "trackKept", unfollowed := true, recurses := true, apart := false }
def TrackKeptSaid : Prop := trackKeptRow.holds Try.pinned (OpenSpec.ofChange trackKeptSpec)

/-- ITS FALSE NEIGHBOUR: 'it returns false'. Refute it at one input. -/
def trackKeptWrong : ChangeSpec := { name := "trackKept", fn := fun _ => fun
  | [d1, d2] => { results := [.lit (.bool false)], args := [d1, d2] }
  | _ => none }
def TrackKeptWrongFalsely : Prop := trackKeptRow.holds Try.pinned (OpenSpec.ofChange trackKeptWrong)

/-- 'kreisellaw01.TrackEnds': WHATEVER THE INPUT: true; the input reads as it did. -/
def trackEndsSpec : ChangeSpec := { name := "trackEnds", fn := fun _ => fun
  | [d1, d2, d3, d4] => { results := [.lit (.bool true)], args := [d1, d2, d3, d4] }
  | _ => none }
def trackEndsRow : OpenClaim := { program := "ytekjkaoibcfgfaa", sum := "c5fecda682228fe45383a7baec6f3d1ea8d5c46aede85e794ac19d946c7d9ef3", func := "kreisel/kreisellaw01.TrackEnds", spec := "trackEnds", unfollowed := true, recurses := true, apart := false }
def TrackEndsSaid : Prop := trackEndsRow.holds Try.pinned (OpenSpec.ofChange trackEndsSpec)

/-- ITS FALSE NEIGHBOUR: 'it returns false'. Refute it at one input. -/
def trackEndsWrong : ChangeSpec := { name := "trackEnds", fn := fun _ => fun
  | [d1, d2, d3, d4] => { results := [.lit (.bool false)], args := [d1, d2, d3, d4] }
  | _ => none }
def TrackEndsWrongFalsely : Prop := trackEndsRow.holds Try.pinned (OpenSpec.ofChange trackEndsWrong)

/-- 'kreisellaw01.TrackMore': WHATEVER THE INPUT: true; the input reads as it did. -/
def trackMoreSpec : ChangeSpec := { name := "trackMore", fn := fun _ => fun
  | [d1, d2, d3] => { results := [.lit (.bool true)], args := [d1, d2, d3] }
  | _ => none }
def trackMoreRow : OpenClaim := { program := "ytekjkaoibcfgfaa", sum := "c5fecda682228fe45383a7baec6f3d1ea8d5c46aede85e794ac19d946c7d9ef3", func := "kreisel/kreisellaw01.TrackMore", spec := "trackMore", unfollowed := true, recurses := true, apart := false }
def TrackMoreSaid : Prop := trackMoreRow.holds Try.pinned (OpenSpec.ofChange trackMoreSpec)

/-- ITS FALSE NEIGHBOUR: 'it returns false'. Refute it at one input. -/
def trackMoreWrong : ChangeSpec := { name := "trackMore", fn := fun _ => fun
  | [d1, d2, d3] => { results := [.lit (.bool false)], args := [d1, d2, d3] }
  | _ => none }
def TrackMoreWrongFalsely : Prop := trackMoreRow.holds Try.pinned (OpenSpec.ofChange trackMoreWrong)

/-- 'kreisellaw01.TrackPlaced': WHATEVER THE INPUT: true; the input reads as it did. -/
def trackPlacedSpec : ChangeSpec := { name := "trackPlaced", fn := fun _ => fun
  | [d1, d2, d3] => { results := [.lit (.bool true)], args := [d1, d2, d3] }
  | _ => none }
def trackPlacedRow : OpenClaim := { program := "ytekjkaoibcfgfaa", sum := "c5fecda682228fe45383a7baec6f3d1ea8d5c46aede85e794ac19d946c7d9ef3", func := "kreisel/kreisellaw01.TrackPlaced", spec := "trackPlaced", unfollowed := true, recurses := true, apart := false }
def TrackPlacedSaid : Prop := trackPlacedRow.holds Try.pinned (OpenSpec.ofChange trackPlacedSpec)

/-- ITS FALSE NEIGHBOUR: 'it returns false'. Refute it at one input. -/
def trackPlacedWrong : ChangeSpec := { name := "trackPlaced", fn := fun _ => fun
  | [d1, d2, d3] => { results := [.lit (.bool false)], args := [d1, d2, d3] }
  | _ => none }
def TrackPlacedWrongFalsely : Prop := trackPlacedRow.holds Try.pinned (OpenSpec.ofChange trackPlacedWrong)

/-- 'kreisellaw01.TrackSteep': WHATEVER THE INPUT: true; the input reads as it did. -/
def trackSteepSpec : ChangeSpec := { name := "trackSteep", fn := fun _ => fun
  | [d1, d2] => { results := [.lit (.bool true)], args := [d1, d2] }
  | _ => none }
def trackSteepRow : OpenClaim := { program := "ytekjkaoibcfgfaa", sum := "c5fecda682228fe45383a7baec6f3d1ea8d5c46aede85e794ac19d946c7d9ef3", func := "kreisel/kreisellaw01.TrackSteep", spec := "trackSteep", unfollowed := true, recurses := true, apart := false }
def TrackSteepSaid : Prop := trackSteepRow.holds Try.pinned (OpenSpec.ofChange trackSteepSpec)

/-- ITS FALSE NEIGHBOUR: 'it returns false'. Refute it at one input. -/
def trackSteepWrong : ChangeSpec := { name := "trackSteep", fn := fun _ => fun
  | [d1, d2] => { results := [.lit (.bool false)], args := [d1, d2] }
  | _ => none }
def TrackSteepWrongFalsely : Prop := trackSteepRow.holds Try.pinned (OpenSpec.ofChange trackSteepWrong)

/-- 'kreisellaw01.TrackWithin': WHATEVER THE INPUT: true; the input reads as it did. -/
def trackWithinSpec : ChangeSpec := { name := "trackWithin", fn := fun _ => fun
  | [d1, d2, d3, d4] => { results := [.lit (.bool true)], args := [d1, d2, d3, d4] }
  | _ => none }
def trackWithinRow : OpenClaim := { program := "ytekjkaoibcfgfaa", sum := "c5fecda682228fe45383a7baec6f3d1ea8d5c46aede85e794ac19d946c7d9ef3", func := "kreisel/kreisellaw01.TrackWithin", spec := "trackWithin", unfollowed := true, recurses := true, apart := false }
def TrackWithinSaid : Prop := trackWithinRow.holds Try.pinned (OpenSpec.ofChange trackWithinSpec)

/-- ITS FALSE NEIGHBOUR: 'it returns false'. Refute it at one input. -/
def trackWithinWrong : ChangeSpec := { name := "trackWithin", fn := fun _ => fun
  | [d1, d2, d3, d4] => { results := [.lit (.bool false)], args := [d1, d2, d3, d4] }
  | _ => none }
def TrackWithinWrongFalsely : Prop := trackWithinRow.holds Try.pinned (OpenSpec.ofChange trackWithinWrong)

/-- 'kreisellaw01.TrackApart': WHATEVER THE INPUT: true; the input reads as it did. -/
def trackApartSpec : ChangeSpec := { name := "trackApart", fn := fun _ => fun
  | [d1, d2] => { results := [.lit (.bool true)], args := [d1, d2] }
  | _ => none }
def trackApartRow : OpenClaim := { program := "ytekjkaoibcfgfaa", sum := "c5fecda682228fe45383a7baec6f3d1ea8d5c46aede85e794ac19d946c7d9ef3", func := "kreisel/kreisellaw01.TrackApart", spec := "trackApart", unfollowed := true, recurses := true, apart := false }
def TrackApartSaid : Prop := trackApartRow.holds Try.pinned (OpenSpec.ofChange trackApartSpec)

/-- ITS FALSE NEIGHBOUR: 'it returns false'. Refute it at one input. -/
def trackApartWrong : ChangeSpec := { name := "trackApart", fn := fun _ => fun
  | [d1, d2] => { results := [.lit (.bool false)], args := [d1, d2] }
  | _ => none }
def TrackApartWrongFalsely : Prop := trackApartRow.holds Try.pinned (OpenSpec.ofChange trackApartWrong)

/-- 'kreisellaw01.TrackLonger': WHATEVER THE INPUT: true; the input reads as it did. -/
def trackLongerSpec : ChangeSpec := { name := "trackLonger", fn := fun _ => fun
  | [d1, d2, d3, d4] => { results := [.lit (.bool true)], args := [d1, d2, d3, d4] }
  | _ => none }
def trackLongerRow : OpenClaim := { program := "ytekjkaoibcfgfaa", sum := "c5fecda682228fe45383a7baec6f3d1ea8d5c46aede85e794ac19d946c7d9ef3", func := "kreisel/kreisellaw01.TrackLonger", spec := "trackLonger", unfollowed := true, recurses := true, apart := false }
def TrackLongerSaid : Prop := trackLongerRow.holds Try.pinned (OpenSpec.ofChange trackLongerSpec)

/-- ITS FALSE NEIGHBOUR: 'it returns false'. Refute it at one input. -/
def trackLongerWrong : ChangeSpec := { name := "trackLonger", fn := fun _ => fun
  | [d1, d2, d3, d4] => { results := [.lit (.bool false)], args := [d1, d2, d3, d4] }
  | _ => none }
def TrackLongerWrongFalsely : Prop := trackLongerRow.holds Try.pinned (OpenSpec.ofChange trackLongerWrong)

/-- 'kreisellaw01.TrackUseless': WHATEVER THE INPUT: true; the input reads as it did. -/
def trackUselessSpec : ChangeSpec := { name := "trackUseless", fn := fun _ => fun
  | [d1, d2, d3] => { results := [.lit (.bool true)], args := [d1, d2, d3] }
  | _ => none }
def trackUselessRow : OpenClaim := { program := "ytekjkaoibcfgfaa", sum := "c5fecda682228fe45383a7baec6f3d1ea8d5c46aede85e794ac19d946c7d9ef3", func := "kreisel/kreisellaw01.TrackUseless", spec := "trackUseless", unfollowed := true, recurses := true, apart := false }
def TrackUselessSaid : Prop := trackUselessRow.holds Try.pinned (OpenSpec.ofChange trackUselessSpec)

/-- ITS FALSE NEIGHBOUR: 'it returns false'. Refute it at one input. -/
def trackUselessWrong : ChangeSpec := { name := "trackUseless", fn := fun _ => fun
  | [d1, d2, d3] => { results := [.lit (.bool false)], args := [d1, d2, d3] }
  | _ => none }
def TrackUselessWrongFalsely : Prop := trackUselessRow.holds Try.pinned (OpenSpec.ofChange trackUselessWrong)

/-- 'kreisellaw01.TrackJoined': WHATEVER THE INPUT: true; the input reads as it did. -/
def trackJoinedSpec : ChangeSpec := { name := "trackJoined", fn := fun _ => fun
  | [d1, d2, d3] => { results := [.lit (.bool true)], args := [d1, d2, d3] }
  | _ => none }
def trackJoinedRow : OpenClaim := { program := "ytekjkaoibcfgfaa", sum := "c5fecda682228fe45383a7baec6f3d1ea8d5c46aede85e794ac19d946c7d9ef3", func := "kreisel/kreisellaw01.TrackJoined", spec := "trackJoined", unfollowed := true, recurses := true, apart := false }
def TrackJoinedSaid : Prop := trackJoinedRow.holds Try.pinned (OpenSpec.ofChange trackJoinedSpec)

/-- ITS FALSE NEIGHBOUR: 'it returns false'. Refute it at one input. -/
def trackJoinedWrong : ChangeSpec := { name := "trackJoined", fn := fun _ => fun
  | [d1, d2, d3] => { results := [.lit (.bool false)], args := [d1, d2, d3] }
  | _ => none }
def TrackJoinedWrongFalsely : Prop := trackJoinedRow.holds Try.pinned (OpenSpec.ofChange trackJoinedWrong)

/- THE SECOND FORM. 'bulk': how many values and letters a reading holds, each counted each time it is reached (what is shared counts as often as it is met; a slice's spare places count too). A statement '..UptoSaid' is the law's where the arguments, and the package variables that the reading takes, are together of bulk at most 1048576: NARROWER than '..Said'. Prove '..Said' where nothing that the law and all that it calls make is longer than what came in: it says more and counts as full. Else prove '..UptoSaid'. A law counts once. -/
mutual
def uptoBulk {H : Type} : DataW H → Nat
  | .lit (.string bytes) => bytes.length + 1
  | .lit _ => 1
  | .nil => 1
  | .ptr d => uptoBulk d + 1
  | .slice elems spare => uptoBulkAll elems + uptoBulkAll spare + 1
  | .agg parts => uptoBulkAll parts + 1
  | .iface _ d => uptoBulk d + 1
  | .map entries => uptoBulkEntries entries + 1
  | .held _ => 1
def uptoBulkAll {H : Type} : List (DataW H) → Nat
  | [] => 0
  | d :: r => uptoBulk d + uptoBulkAll r
def uptoBulkEntries {H : Type} : List (Lit × DataW H) → Nat
  | [] => 0
  | x :: r => uptoBulkEntry x + uptoBulkEntries r
def uptoBulkEntry {H : Type} : Lit × DataW H → Nat
  | (.string bytes, d) => bytes.length + uptoBulk d + 1
  | (_, d) => uptoBulk d + 1
 end
def uptoSmall : (H : Type) → List (DataW H) → Bool := fun _ ds => decide (uptoBulkAll ds ≤ 1048576)
def OpenSpec.upto (s : _root_.Go.ChangeSpec) : _root_.Go.OpenSpec := { _root_.Go.OpenSpec.ofChange s with cond := some uptoSmall }

/-- 'kreisellaw01.TrackMarks', WHERE WHAT IT READS IS OF BULK AT MOST 1048576: true; the input reads as it did. -/
def trackMarksUptoRow : OpenClaim := { program := "ytekjkaoibcfgfaa", sum := "c5fecda682228fe45383a7baec6f3d1ea8d5c46aede85e794ac19d946c7d9ef3", func := "kreisel/kreisellaw01.TrackMarks", spec := "trackMarks", unfollowed := true, recurses := true, apart := false, narrowed := true }
def TrackMarksUptoSaid : Prop := trackMarksUptoRow.holds Try.pinned (OpenSpec.upto trackMarksSpec)

/-- 'kreisellaw01.TrackSpots', WHERE WHAT IT READS IS OF BULK AT MOST 1048576: true; the input reads as it did. -/
def trackSpotsUptoRow : OpenClaim := { program := "ytekjkaoibcfgfaa", sum := "c5fecda682228fe45383a7baec6f3d1ea8d5c46aede85e794ac19d946c7d9ef3", func := "kreisel/kreisellaw01.TrackSpots", spec := "trackSpots", unfollowed := true, recurses := true, apart := false, narrowed := true }
def TrackSpotsUptoSaid : Prop := trackSpotsUptoRow.holds Try.pinned (OpenSpec.upto trackSpotsSpec)

/-- 'kreisellaw01.TrackNarrows', WHERE WHAT IT READS IS OF BULK AT MOST 1048576: true; the input reads as it did. -/
def trackNarrowsUptoRow : OpenClaim := { program := "ytekjkaoibcfgfaa", sum := "c5fecda682228fe45383a7baec6f3d1ea8d5c46aede85e794ac19d946c7d9ef3", func := "kreisel/kreisellaw01.TrackNarrows", spec := "trackNarrows", unfollowed := true, recurses := true, apart := false, narrowed := true }
def TrackNarrowsUptoSaid : Prop := trackNarrowsUptoRow.holds Try.pinned (OpenSpec.upto trackNarrowsSpec)

/-- 'kreisellaw01.TrackKept', WHERE WHAT IT READS IS OF BULK AT MOST 1048576: true; the input reads as it did. -/
def trackKeptUptoRow : OpenClaim := { program := "ytekjkaoibcfgfaa", sum := "c5fecda682228fe45383a7baec6f3d1ea8d5c46aede85e794ac19d946c7d9ef3", func := "kreisel/kreisellaw01.TrackKept", spec := "trackKept", unfollowed := true, recurses := true, apart := false, narrowed := true }
def TrackKeptUptoSaid : Prop := trackKeptUptoRow.holds Try.pinned (OpenSpec.upto trackKeptSpec)

/-- 'kreisellaw01.TrackEnds', WHERE WHAT IT READS IS OF BULK AT MOST 1048576: true; the input reads as it did. -/
def trackEndsUptoRow : OpenClaim := { program := "ytekjkaoibcfgfaa", sum := "c5fecda682228fe45383a7baec6f3d1ea8d5c46aede85e794ac19d946c7d9ef3", func := "kreisel/kreisellaw01.TrackEnds", spec := "trackEnds", unfollowed := true, recurses := true, apart := false, narrowed := true }
def TrackEndsUptoSaid : Prop := trackEndsUptoRow.holds Try.pinned (OpenSpec.upto trackEndsSpec)

/-- 'kreisellaw01.TrackMore', WHERE WHAT IT READS IS OF BULK AT MOST 1048576: true; the input reads as it did. -/
def trackMoreUptoRow : OpenClaim := { program := "ytekjkaoibcfgfaa", sum := "c5fecda682228fe45383a7baec6f3d1ea8d5c46aede85e794ac19d946c7d9ef3", func := "kreisel/kreisellaw01.TrackMore", spec := "trackMore", unfollowed := true, recurses := true, apart := false, narrowed := true }
def TrackMoreUptoSaid : Prop := trackMoreUptoRow.holds Try.pinned (OpenSpec.upto trackMoreSpec)

/-- 'kreisellaw01.TrackPlaced', WHERE WHAT IT READS IS OF BULK AT MOST 1048576: true; the input reads as it did. -/
def trackPlacedUptoRow : OpenClaim := { program := "ytekjkaoibcfgfaa", sum := "c5fecda682228fe45383a7baec6f3d1ea8d5c46aede85e794ac19d946c7d9ef3", func := "kreisel/kreisellaw01.TrackPlaced", spec := "trackPlaced", unfollowed := true, recurses := true, apart := false, narrowed := true }
def TrackPlacedUptoSaid : Prop := trackPlacedUptoRow.holds Try.pinned (OpenSpec.upto trackPlacedSpec)

/-- 'kreisellaw01.TrackSteep', WHERE WHAT IT READS IS OF BULK AT MOST 1048576: true; the input reads as it did. -/
def trackSteepUptoRow : OpenClaim := { program := "ytekjkaoibcfgfaa", sum := "c5fecda682228fe45383a7baec6f3d1ea8d5c46aede85e794ac19d946c7d9ef3", func := "kreisel/kreisellaw01.TrackSteep", spec := "trackSteep", unfollowed := true, recurses := true, apart := false, narrowed := true }
def TrackSteepUptoSaid : Prop := trackSteepUptoRow.holds Try.pinned (OpenSpec.upto trackSteepSpec)

/-- 'kreisellaw01.TrackWithin', WHERE WHAT IT READS IS OF BULK AT MOST 1048576: true; the input reads as it did. -/
def trackWithinUptoRow : OpenClaim := { program := "ytekjkaoibcfgfaa", sum := "c5fecda682228fe45383a7baec6f3d1ea8d5c46aede85e794ac19d946c7d9ef3", func := "kreisel/kreisellaw01.TrackWithin", spec := "trackWithin", unfollowed := true, recurses := true, apart := false, narrowed := true }
def TrackWithinUptoSaid : Prop := trackWithinUptoRow.holds Try.pinned (OpenSpec.upto trackWithinSpec)

/-- 'kreisellaw01.TrackApart', WHERE WHAT IT READS IS OF BULK AT MOST 1048576: true; the input reads as it did. -/
def trackApartUptoRow : OpenClaim := { program := "ytekjkaoibcfgfaa", sum := "c5fecda682228fe45383a7baec6f3d1ea8d5c46aede85e794ac19d946c7d9ef3", func := "kreisel/kreisellaw01.TrackApart", spec := "trackApart", unfollowed := true, recurses := true, apart := false, narrowed := true }
def TrackApartUptoSaid : Prop := trackApartUptoRow.holds Try.pinned (OpenSpec.upto trackApartSpec)

/-- 'kreisellaw01.TrackLonger', WHERE WHAT IT READS IS OF BULK AT MOST 1048576: true; the input reads as it did. -/
def trackLongerUptoRow : OpenClaim := { program := "ytekjkaoibcfgfaa", sum := "c5fecda682228fe45383a7baec6f3d1ea8d5c46aede85e794ac19d946c7d9ef3", func := "kreisel/kreisellaw01.TrackLonger", spec := "trackLonger", unfollowed := true, recurses := true, apart := false, narrowed := true }
def TrackLongerUptoSaid : Prop := trackLongerUptoRow.holds Try.pinned (OpenSpec.upto trackLongerSpec)

/-- 'kreisellaw01.TrackUseless', WHERE WHAT IT READS IS OF BULK AT MOST 1048576: true; the input reads as it did. -/
def trackUselessUptoRow : OpenClaim := { program := "ytekjkaoibcfgfaa", sum := "c5fecda682228fe45383a7baec6f3d1ea8d5c46aede85e794ac19d946c7d9ef3", func := "kreisel/kreisellaw01.TrackUseless", spec := "trackUseless", unfollowed := true, recurses := true, apart := false, narrowed := true }
def TrackUselessUptoSaid : Prop := trackUselessUptoRow.holds Try.pinned (OpenSpec.upto trackUselessSpec)

/-- 'kreisellaw01.TrackJoined', WHERE WHAT IT READS IS OF BULK AT MOST 1048576: true; the input reads as it did. -/
def trackJoinedUptoRow : OpenClaim := { program := "ytekjkaoibcfgfaa", sum := "c5fecda682228fe45383a7baec6f3d1ea8d5c46aede85e794ac19d946c7d9ef3", func := "kreisel/kreisellaw01.TrackJoined", spec := "trackJoined", unfollowed := true, recurses := true, apart := false, narrowed := true }
def TrackJoinedUptoSaid : Prop := trackJoinedUptoRow.holds Try.pinned (OpenSpec.upto trackJoinedSpec)

end Rows
end Go.Proofs.Ytekjkaoibcfgfaa
