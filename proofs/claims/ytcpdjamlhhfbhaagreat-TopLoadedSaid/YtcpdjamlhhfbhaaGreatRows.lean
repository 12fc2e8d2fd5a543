/-
  No cell of these rows narrows 'for every input' (looked for: loops, veiled, ifaces, maps, wideKeys, modest, calm, conditions, laid).
  DERIVED. THE GIVEN ROWS OF THIS SEAT. 2 by the template 'for every input the law returns true; each argument reads behind the call as it read before'; 0 by the template 'total and deterministic' (their statements: YtcpdjamlhhfbhaaGreatTotals.lean).
  GIVEN WITH THE SEED: the statements are not yours to turn. If you find one false, say at which input.
  Laid BY PROGRAM, IN A SANDBOX (cutbox-rows.mjs): the forced cells as the released guide's own fill.sh prints them over the translation 8b67f276a69ce8c6… (all of the seat's roots in one cut). By AI agents, Wed Nov 11 2026. No macro, syntax, notation, axiom, sorry.
-/
import Derived.Test.YtcpdjamlhhfbhaaGreatChecked
import GoSem.Claim
import GoSem.ClaimJoined
import GoSem.ClaimMapViews
import Derived.JoinedTies
import Derived.KernelRfl
namespace Go.Proofs.YtcpdjamlhhfbhaaGreat
/- THE CELL 'sum', in the pinned program and in every row, IS THE sha256 OF THE DUMP (.gsa) THAT YtcpdjamlhhfbhaaGreatProg.lean LOADS. Nothing in Lean hashes anything: it is a label: what it is worth is what the hold of that sum in a sandbox is worth. -/
noncomputable def Tryz.pinned : Pinned := { name := "ytcpdjamlhhfbhaagreat", sum := "8b67f276a69ce8c6b908c5b160310c20dab146f0b3139ea2b907efb1aac64491", checked := Tryz.checked }
namespace Rows
def none {H : Type} : Left H := { results := [], args := [] }

/-- 'kreiseltop.TopSwift': WHATEVER THE INPUT: true; the input reads as it did. -/
def topSwiftSpec : ChangeSpec := { name := "topSwift", fn := fun _ => fun
  | [d1, d2] => { results := [.lit (.bool true)], args := [d1, d2] }
  | _ => none }
def topSwiftRow : OpenClaim := { program := "ytcpdjamlhhfbhaagreat", sum := "8b67f276a69ce8c6b908c5b160310c20dab146f0b3139ea2b907efb1aac64491", func := "kreisel/kreiseltop.TopSwift", spec := "topSwift", unfollowed := true, recurses := true, apart := false }
def TopSwiftSaid : Prop := topSwiftRow.holds Tryz.pinned (OpenSpec.ofChange topSwiftSpec)

/-- ITS FALSE NEIGHBOUR: 'it returns false'. Refute it at one input. -/
def topSwiftWrong : ChangeSpec := { name := "topSwift", fn := fun _ => fun
  | [d1, d2] => { results := [.lit (.bool false)], args := [d1, d2] }
  | _ => none }
def TopSwiftWrongFalsely : Prop := topSwiftRow.holds Tryz.pinned (OpenSpec.ofChange topSwiftWrong)

/-- 'kreiseltop.TopLoaded': WHATEVER THE INPUT: true; the input reads as it did. -/
def topLoadedSpec : ChangeSpec := { name := "topLoaded", fn := fun _ => fun
  | [d1, d2, d3, d4, d5] => { results := [.lit (.bool true)], args := [d1, d2, d3, d4, d5] }
  | _ => none }
def topLoadedRow : OpenClaim := { program := "ytcpdjamlhhfbhaagreat", sum := "8b67f276a69ce8c6b908c5b160310c20dab146f0b3139ea2b907efb1aac64491", func := "kreisel/kreiseltop.TopLoaded", spec := "topLoaded", unfollowed := true, recurses := true, apart := false }
def TopLoadedSaid : Prop := topLoadedRow.holds Tryz.pinned (OpenSpec.ofChange topLoadedSpec)

/-- ITS FALSE NEIGHBOUR: 'it returns false'. Refute it at one input. -/
def topLoadedWrong : ChangeSpec := { name := "topLoaded", fn := fun _ => fun
  | [d1, d2, d3, d4, d5] => { results := [.lit (.bool false)], args := [d1, d2, d3, d4, d5] }
  | _ => none }
def TopLoadedWrongFalsely : Prop := topLoadedRow.holds Tryz.pinned (OpenSpec.ofChange topLoadedWrong)

/- THE SECOND FORM. 'bulk': how many values and letters a reading holds, each counted each time it is reached (what is shared counts as often as it is met; a slice's spare places count too). A statement '..UptoSaid' is the law's where the arguments, and the package variables that the reading takes, are together of bulk at most 1048576: NARROWER than '..Said'. Prove '..Said' where nothing that the law and all that it calls make is longer than what came in: it says more and counts as full. Else prove '..UptoSaid'. A law counts once. -/
mutual
def uptoBulk {H : Type} : DataW H → Nat
  | .lit (.string bytes) => bytes.length + 1
  | .lit _ => 1
  | .nil => 1
  | .ptr d => uptoBulk d + 1
  | .slice elems spare => uptoBulkAll elems + uptoBulkAll spare + 1
  | .agg parts => uptoBulkAll parts + 1
  | .iface _ d => uptoBulk d + 1
  | .map entries => uptoBulkEntries entries + 1
  | .held _ => 1
def uptoBulkAll {H : Type} : List (DataW H) → Nat
  | [] => 0
  | d :: r => uptoBulk d + uptoBulkAll r
def uptoBulkEntries {H : Type} : List (Lit × DataW H) → Nat
  | [] => 0
  | x :: r => uptoBulkEntry x + uptoBulkEntries r
def uptoBulkEntry {H : Type} : Lit × DataW H → Nat
  | (.string bytes, d) => bytes.length + uptoBulk d + 1
  | (_, d) => uptoBulk d + 1
 end
def uptoSmall : (H : Type) → List (DataW H) → Bool := fun _ ds => decide (uptoBulkAll ds ≤ 1048576)
def OpenSpec.upto (s : _root_.Go.ChangeSpec) : _root_.Go.OpenSpec := { _root_.Go.OpenSpec.ofChange s with cond := some uptoSmall }

/-- 'kreiseltop.TopSwift', WHERE WHAT IT READS IS OF BULK AT MOST 1048576: true; the input reads as it did. -/
def topSwiftUptoRow : OpenClaim := { program := "ytcpdjamlhhfbhaagreat", sum := "8b67f276a69ce8c6b908c5b160310c20dab146f0b3139ea2b907efb1aac64491", func := "kreisel/kreiseltop.TopSwift", spec := "topSwift", unfollowed := true, recurses := true, apart := false, narrowed := true }
def TopSwiftUptoSaid : Prop := topSwiftUptoRow.holds Tryz.pinned (OpenSpec.upto topSwiftSpec)

/-- 'kreiseltop.TopLoaded', WHERE WHAT IT READS IS OF BULK AT MOST 1048576: true; the input reads as it did. -/
def topLoadedUptoRow : OpenClaim := { program := "ytcpdjamlhhfbhaagreat", sum := "8b67f276a69ce8c6b908c5b160310c20dab146f0b3139ea2b907efb1aac64491", func := "kreisel/kreiseltop.TopLoaded", spec := "topLoaded", unfollowed := true, recurses := true, apart := false, narrowed := true }
def TopLoadedUptoSaid : Prop := topLoadedUptoRow.holds Tryz.pinned (OpenSpec.upto topLoadedSpec)

end Rows
end Go.Proofs.YtcpdjamlhhfbhaaGreat
