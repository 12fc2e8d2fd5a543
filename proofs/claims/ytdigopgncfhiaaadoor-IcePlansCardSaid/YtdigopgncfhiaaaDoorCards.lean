/-
  DERIVED. GIVEN WITH THE SEED: THE CARDS: each row of YtdigopgncfhiaaaDoorRows.lean that lists a variable, with what it lists TIED to the program's text (the seventh form; the later family's looks); each row that meets fmt, with fmt's text TOLD by the authors' own Lean function (tested against real Go, not proved from fmt's source: count such statements apart). THE CARD IS WHAT COUNTS. Prove the row's statement (the work); the ties are given (YtdigopgncfhiaaaDoorTie.lean); close each card by the builder's one call (the guide's Derived/Test/ToyasCard.lean, 'card_holds'). Laid BY PROGRAM, IN A SANDBOX (cutbox-door.mjs). By AI agents, Wed Nov 11 2026. No macro, syntax, notation, axiom, sorry.
-/
import Derived.Test.YtdigopgncfhiaaaDoorRows
import GoSem.ClaimSeven
namespace Go.Proofs.YtdigopgncfhiaaaDoor
namespace Rows

/-- THE TIED CARD OF 'kreisellaw02.IcePlans'. -/
def icePlansCard : Claim7 := { stood := { row := icePlansRow, standIns := [], harness := (true, "29e0e8b82604ac82083cfa95335a05c07aec8d128c7f4ec59d982fc206ea07a6"), looks := false }, kinds := [], alts := [], laidByText := true, laidKinds := [.funcs], laidTests := true, laidLooks := .later }
def IcePlansCardSaid : Prop := Claim7.holds Tryd.pinned (.plain (OpenSpec.ofChange icePlansSpec)) icePlansCard

/-- THE TIED CARD OF 'kreisellaw02.IceThicks'. -/
def iceThicksCard : Claim7 := { stood := { row := iceThicksRow, standIns := [], harness := (true, "29e0e8b82604ac82083cfa95335a05c07aec8d128c7f4ec59d982fc206ea07a6"), looks := false }, kinds := [], alts := [], laidByText := true, laidKinds := [.funcs], laidTests := true, laidLooks := .later }
def IceThicksCardSaid : Prop := Claim7.holds Tryd.pinned (.plain (OpenSpec.ofChange iceThicksSpec)) iceThicksCard

/-- THE TIED CARD OF 'kreisellaw02.IceThins'. -/
def iceThinsCard : Claim7 := { stood := { row := iceThinsRow, standIns := [], harness := (true, "29e0e8b82604ac82083cfa95335a05c07aec8d128c7f4ec59d982fc206ea07a6"), looks := false }, kinds := [], alts := [], laidByText := true, laidKinds := [.funcs], laidTests := true, laidLooks := .later }
def IceThinsCardSaid : Prop := Claim7.holds Tryd.pinned (.plain (OpenSpec.ofChange iceThinsSpec)) iceThinsCard

/-- THE SECOND FORM's CARD OF 'kreisellaw02.IcePlans'. -/
def icePlansUptoCard : Claim7 := { stood := { row := icePlansUptoRow, standIns := [], harness := (true, "29e0e8b82604ac82083cfa95335a05c07aec8d128c7f4ec59d982fc206ea07a6"), looks := false }, kinds := [], alts := [], laidByText := true, laidKinds := [.funcs], laidTests := true, laidLooks := .later }
def IcePlansUptoCardSaid : Prop := Claim7.holds Tryd.pinned (.plain (OpenSpec.upto icePlansSpec)) icePlansUptoCard

/-- THE SECOND FORM's CARD OF 'kreisellaw02.IceThicks'. -/
def iceThicksUptoCard : Claim7 := { stood := { row := iceThicksUptoRow, standIns := [], harness := (true, "29e0e8b82604ac82083cfa95335a05c07aec8d128c7f4ec59d982fc206ea07a6"), looks := false }, kinds := [], alts := [], laidByText := true, laidKinds := [.funcs], laidTests := true, laidLooks := .later }
def IceThicksUptoCardSaid : Prop := Claim7.holds Tryd.pinned (.plain (OpenSpec.upto iceThicksSpec)) iceThicksUptoCard

/-- THE SECOND FORM's CARD OF 'kreisellaw02.IceThins'. -/
def iceThinsUptoCard : Claim7 := { stood := { row := iceThinsUptoRow, standIns := [], harness := (true, "29e0e8b82604ac82083cfa95335a05c07aec8d128c7f4ec59d982fc206ea07a6"), looks := false }, kinds := [], alts := [], laidByText := true, laidKinds := [.funcs], laidTests := true, laidLooks := .later }
def IceThinsUptoCardSaid : Prop := Claim7.holds Tryd.pinned (.plain (OpenSpec.upto iceThinsSpec)) iceThinsUptoCard
end Rows
end Go.Proofs.YtdigopgncfhiaaaDoor
