/-
  DERIVED. GIVEN WITH THE SEED: THE CARDS: each row of YtcpdjamlhhfbhaaDoorRows.lean that lists a variable, with what it lists TIED to the program's text (the seventh form; the later family's looks); each row that meets fmt, with fmt's text TOLD by the authors' own Lean function (tested against real Go, not proved from fmt's source: count such statements apart). THE CARD IS WHAT COUNTS. Prove the row's statement (the work); the ties are given (YtcpdjamlhhfbhaaDoorTie.lean); close each card by the builder's one call (the guide's Derived/Test/ToyasCard.lean, 'card_holds'). Laid BY PROGRAM, IN A SANDBOX (cutbox-door.mjs). By AI agents, Wed Nov 11 2026. No macro, syntax, notation, axiom, sorry.
-/
import Derived.Test.YtcpdjamlhhfbhaaDoorRows
import GoSem.ClaimSeven
namespace Go.Proofs.YtcpdjamlhhfbhaaDoor
namespace Rows

/-- THE TIED CARD OF 'kreisellaw01.TrackExamples'. -/
def trackExamplesCard : Claim7 := { stood := { row := trackExamplesRow, standIns := [], harness := (true, "55af0ce77a354730263b3154b5a0fac7702bffb8a4dd2ae732b36d339a66080d"), looks := false }, kinds := [], alts := [], laidByText := true, laidKinds := [.data, .data, .data], laidTests := true, laidLooks := .later }
def TrackExamplesCardSaid : Prop := Claim7.holds Tryd.pinned (.plain (OpenSpec.ofChange trackExamplesSpec)) trackExamplesCard

/-- THE SECOND FORM's CARD OF 'kreisellaw01.TrackExamples'. -/
def trackExamplesUptoCard : Claim7 := { stood := { row := trackExamplesUptoRow, standIns := [], harness := (true, "55af0ce77a354730263b3154b5a0fac7702bffb8a4dd2ae732b36d339a66080d"), looks := false }, kinds := [], alts := [], laidByText := true, laidKinds := [.data, .data, .data], laidTests := true, laidLooks := .later }
def TrackExamplesUptoCardSaid : Prop := Claim7.holds Tryd.pinned (.plain (OpenSpec.upto trackExamplesSpec)) trackExamplesUptoCard
end Rows
end Go.Proofs.YtcpdjamlhhfbhaaDoor
