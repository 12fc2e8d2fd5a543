/-
  DERIVED. GIVEN WITH THE SEED: THE CARDS: each row of YtdigopgncfhiaaaGreatDoorRows.lean that lists a variable, with what it lists TIED to the program's text (the seventh form; the later family's looks); each row that meets fmt, with fmt's text TOLD by the authors' own Lean function (tested against real Go, not proved from fmt's source: count such statements apart). THE CARD IS WHAT COUNTS. Prove the row's statement (the work); the ties are given (YtdigopgncfhiaaaGreatDoorTie.lean); close each card by the builder's one call (the guide's Derived/Test/ToyasCard.lean, 'card_holds'). Laid BY PROGRAM, IN A SANDBOX (cutbox-door.mjs). By AI agents, Wed Nov 11 2026. No macro, syntax, notation, axiom, sorry.
-/
import Derived.Test.YtdigopgncfhiaaaGreatDoorRows
import GoSem.ClaimSeven
namespace Go.Proofs.YtdigopgncfhiaaaGreatDoor
namespace Rows

/-- THE TIED CARD OF 'kreisellaw02.IceTrue'. -/
def iceTrueCard : Claim7 := { stood := { row := iceTrueRow, standIns := [], harness := (true, "5748e6b0e31f35df207c948790800299d9c60fd00cb15ffb8782fd000c3ae0f4"), looks := false }, kinds := [], alts := [], laidByText := true, laidKinds := [.funcs], laidTests := true, laidLooks := .later }
def IceTrueCardSaid : Prop := Claim7.holds Tryz.pinned (.plain (OpenSpec.ofChange iceTrueSpec)) iceTrueCard

/-- THE TIED CARD OF 'kreisellaw02.IceLeast'. -/
def iceLeastCard : Claim7 := { stood := { row := iceLeastRow, standIns := [], harness := (true, "5748e6b0e31f35df207c948790800299d9c60fd00cb15ffb8782fd000c3ae0f4"), looks := false }, kinds := [], alts := [], laidByText := true, laidKinds := [.funcs], laidTests := true, laidLooks := .later }
def IceLeastCardSaid : Prop := Claim7.holds Tryz.pinned (.plain (OpenSpec.ofChange iceLeastSpec)) iceLeastCard

/-- THE TIED CARD OF 'kreisellaw02.IceNeeded'. -/
def iceNeededCard : Claim7 := { stood := { row := iceNeededRow, standIns := [], harness := (true, "5748e6b0e31f35df207c948790800299d9c60fd00cb15ffb8782fd000c3ae0f4"), looks := false }, kinds := [], alts := [], laidByText := true, laidKinds := [.funcs], laidTests := true, laidLooks := .later }
def IceNeededCardSaid : Prop := Claim7.holds Tryz.pinned (.plain (OpenSpec.ofChange iceNeededSpec)) iceNeededCard

/-- THE TIED CARD OF 'kreisellaw02.IceShort'. -/
def iceShortCard : Claim7 := { stood := { row := iceShortRow, standIns := [], harness := (true, "5748e6b0e31f35df207c948790800299d9c60fd00cb15ffb8782fd000c3ae0f4"), looks := false }, kinds := [], alts := [], laidByText := true, laidKinds := [.funcs], laidTests := true, laidLooks := .later }
def IceShortCardSaid : Prop := Claim7.holds Tryz.pinned (.plain (OpenSpec.ofChange iceShortSpec)) iceShortCard

/-- THE TIED CARD OF 'kreisellaw02.IceMore'. -/
def iceMoreCard : Claim7 := { stood := { row := iceMoreRow, standIns := [], harness := (true, "5748e6b0e31f35df207c948790800299d9c60fd00cb15ffb8782fd000c3ae0f4"), looks := false }, kinds := [], alts := [], laidByText := true, laidKinds := [.funcs], laidTests := true, laidLooks := .later }
def IceMoreCardSaid : Prop := Claim7.holds Tryz.pinned (.plain (OpenSpec.ofChange iceMoreSpec)) iceMoreCard

/-- THE TIED CARD OF 'kreisellaw02.IceGoesOn'. -/
def iceGoesOnCard : Claim7 := { stood := { row := iceGoesOnRow, standIns := [], harness := (true, "5748e6b0e31f35df207c948790800299d9c60fd00cb15ffb8782fd000c3ae0f4"), looks := false }, kinds := [], alts := [], laidByText := true, laidKinds := [.funcs], laidTests := true, laidLooks := .later }
def IceGoesOnCardSaid : Prop := Claim7.holds Tryz.pinned (.plain (OpenSpec.ofChange iceGoesOnSpec)) iceGoesOnCard

/-- THE TIED CARD OF 'kreisellaw02.IceMost'. -/
def iceMostCard : Claim7 := { stood := { row := iceMostRow, standIns := [], harness := (true, "5748e6b0e31f35df207c948790800299d9c60fd00cb15ffb8782fd000c3ae0f4"), looks := false }, kinds := [], alts := [], laidByText := true, laidKinds := [.funcs], laidTests := true, laidLooks := .later }
def IceMostCardSaid : Prop := Claim7.holds Tryz.pinned (.plain (OpenSpec.ofChange iceMostSpec)) iceMostCard

/-- THE TIED CARD OF 'kreisellaw02.IceDrilled'. -/
def iceDrilledCard : Claim7 := { stood := { row := iceDrilledRow, standIns := [], harness := (true, "5748e6b0e31f35df207c948790800299d9c60fd00cb15ffb8782fd000c3ae0f4"), looks := false }, kinds := [], alts := [], laidByText := true, laidKinds := [.funcs], laidTests := true, laidLooks := .later }
def IceDrilledCardSaid : Prop := Claim7.holds Tryz.pinned (.plain (OpenSpec.ofChange iceDrilledSpec)) iceDrilledCard

/-- THE TIED CARD OF 'kreisellaw02.IceExamples'. -/
def iceExamplesCard : Claim7 := { stood := { row := iceExamplesRow, standIns := [], harness := (true, "5748e6b0e31f35df207c948790800299d9c60fd00cb15ffb8782fd000c3ae0f4"), looks := false }, kinds := [], alts := [], laidByText := true, laidKinds := [.funcs], laidTests := true, laidLooks := .later }
def IceExamplesCardSaid : Prop := Claim7.holds Tryz.pinned (.plain (OpenSpec.ofChange iceExamplesSpec)) iceExamplesCard

/-- THE TIED CARD OF 'kreisellaw02.IceEnds'. -/
def iceEndsCard : Claim7 := { stood := { row := iceEndsRow, standIns := [], harness := (true, "5748e6b0e31f35df207c948790800299d9c60fd00cb15ffb8782fd000c3ae0f4"), looks := false }, kinds := [], alts := [], laidByText := true, laidKinds := [.funcs], laidTests := true, laidLooks := .later }
def IceEndsCardSaid : Prop := Claim7.holds Tryz.pinned (.plain (OpenSpec.ofChange iceEndsSpec)) iceEndsCard

/-- THE TIED CARD OF 'kreisellaw02.IceBeside'. -/
def iceBesideCard : Claim7 := { stood := { row := iceBesideRow, standIns := [], harness := (true, "5748e6b0e31f35df207c948790800299d9c60fd00cb15ffb8782fd000c3ae0f4"), looks := false }, kinds := [], alts := [], laidByText := true, laidKinds := [.funcs], laidTests := true, laidLooks := .later }
def IceBesideCardSaid : Prop := Claim7.holds Tryz.pinned (.plain (OpenSpec.ofChange iceBesideSpec)) iceBesideCard

/-- THE TIED CARD OF 'kreisellaw02.IceWater'. -/
def iceWaterCard : Claim7 := { stood := { row := iceWaterRow, standIns := [], harness := (true, "5748e6b0e31f35df207c948790800299d9c60fd00cb15ffb8782fd000c3ae0f4"), looks := false }, kinds := [], alts := [], laidByText := true, laidKinds := [.funcs], laidTests := true, laidLooks := .later }
def IceWaterCardSaid : Prop := Claim7.holds Tryz.pinned (.plain (OpenSpec.ofChange iceWaterSpec)) iceWaterCard

/-- THE SECOND FORM's CARD OF 'kreisellaw02.IceTrue'. -/
def iceTrueUptoCard : Claim7 := { stood := { row := iceTrueUptoRow, standIns := [], harness := (true, "5748e6b0e31f35df207c948790800299d9c60fd00cb15ffb8782fd000c3ae0f4"), looks := false }, kinds := [], alts := [], laidByText := true, laidKinds := [.funcs], laidTests := true, laidLooks := .later }
def IceTrueUptoCardSaid : Prop := Claim7.holds Tryz.pinned (.plain (OpenSpec.upto iceTrueSpec)) iceTrueUptoCard

/-- THE SECOND FORM's CARD OF 'kreisellaw02.IceLeast'. -/
def iceLeastUptoCard : Claim7 := { stood := { row := iceLeastUptoRow, standIns := [], harness := (true, "5748e6b0e31f35df207c948790800299d9c60fd00cb15ffb8782fd000c3ae0f4"), looks := false }, kinds := [], alts := [], laidByText := true, laidKinds := [.funcs], laidTests := true, laidLooks := .later }
def IceLeastUptoCardSaid : Prop := Claim7.holds Tryz.pinned (.plain (OpenSpec.upto iceLeastSpec)) iceLeastUptoCard

/-- THE SECOND FORM's CARD OF 'kreisellaw02.IceNeeded'. -/
def iceNeededUptoCard : Claim7 := { stood := { row := iceNeededUptoRow, standIns := [], harness := (true, "5748e6b0e31f35df207c948790800299d9c60fd00cb15ffb8782fd000c3ae0f4"), looks := false }, kinds := [], alts := [], laidByText := true, laidKinds := [.funcs], laidTests := true, laidLooks := .later }
def IceNeededUptoCardSaid : Prop := Claim7.holds Tryz.pinned (.plain (OpenSpec.upto iceNeededSpec)) iceNeededUptoCard

/-- THE SECOND FORM's CARD OF 'kreisellaw02.IceShort'. -/
def iceShortUptoCard : Claim7 := { stood := { row := iceShortUptoRow, standIns := [], harness := (true, "5748e6b0e31f35df207c948790800299d9c60fd00cb15ffb8782fd000c3ae0f4"), looks := false }, kinds := [], alts := [], laidByText := true, laidKinds := [.funcs], laidTests := true, laidLooks := .later }
def IceShortUptoCardSaid : Prop := Claim7.holds Tryz.pinned (.plain (OpenSpec.upto iceShortSpec)) iceShortUptoCard

/-- THE SECOND FORM's CARD OF 'kreisellaw02.IceMore'. -/
def iceMoreUptoCard : Claim7 := { stood := { row := iceMoreUptoRow, standIns := [], harness := (true, "5748e6b0e31f35df207c948790800299d9c60fd00cb15ffb8782fd000c3ae0f4"), looks := false }, kinds := [], alts := [], laidByText := true, laidKinds := [.funcs], laidTests := true, laidLooks := .later }
def IceMoreUptoCardSaid : Prop := Claim7.holds Tryz.pinned (.plain (OpenSpec.upto iceMoreSpec)) iceMoreUptoCard

/-- THE SECOND FORM's CARD OF 'kreisellaw02.IceGoesOn'. -/
def iceGoesOnUptoCard : Claim7 := { stood := { row := iceGoesOnUptoRow, standIns := [], harness := (true, "5748e6b0e31f35df207c948790800299d9c60fd00cb15ffb8782fd000c3ae0f4"), looks := false }, kinds := [], alts := [], laidByText := true, laidKinds := [.funcs], laidTests := true, laidLooks := .later }
def IceGoesOnUptoCardSaid : Prop := Claim7.holds Tryz.pinned (.plain (OpenSpec.upto iceGoesOnSpec)) iceGoesOnUptoCard

/-- THE SECOND FORM's CARD OF 'kreisellaw02.IceMost'. -/
def iceMostUptoCard : Claim7 := { stood := { row := iceMostUptoRow, standIns := [], harness := (true, "5748e6b0e31f35df207c948790800299d9c60fd00cb15ffb8782fd000c3ae0f4"), looks := false }, kinds := [], alts := [], laidByText := true, laidKinds := [.funcs], laidTests := true, laidLooks := .later }
def IceMostUptoCardSaid : Prop := Claim7.holds Tryz.pinned (.plain (OpenSpec.upto iceMostSpec)) iceMostUptoCard

/-- THE SECOND FORM's CARD OF 'kreisellaw02.IceDrilled'. -/
def iceDrilledUptoCard : Claim7 := { stood := { row := iceDrilledUptoRow, standIns := [], harness := (true, "5748e6b0e31f35df207c948790800299d9c60fd00cb15ffb8782fd000c3ae0f4"), looks := false }, kinds := [], alts := [], laidByText := true, laidKinds := [.funcs], laidTests := true, laidLooks := .later }
def IceDrilledUptoCardSaid : Prop := Claim7.holds Tryz.pinned (.plain (OpenSpec.upto iceDrilledSpec)) iceDrilledUptoCard

/-- THE SECOND FORM's CARD OF 'kreisellaw02.IceExamples'. -/
def iceExamplesUptoCard : Claim7 := { stood := { row := iceExamplesUptoRow, standIns := [], harness := (true, "5748e6b0e31f35df207c948790800299d9c60fd00cb15ffb8782fd000c3ae0f4"), looks := false }, kinds := [], alts := [], laidByText := true, laidKinds := [.funcs], laidTests := true, laidLooks := .later }
def IceExamplesUptoCardSaid : Prop := Claim7.holds Tryz.pinned (.plain (OpenSpec.upto iceExamplesSpec)) iceExamplesUptoCard

/-- THE SECOND FORM's CARD OF 'kreisellaw02.IceEnds'. -/
def iceEndsUptoCard : Claim7 := { stood := { row := iceEndsUptoRow, standIns := [], harness := (true, "5748e6b0e31f35df207c948790800299d9c60fd00cb15ffb8782fd000c3ae0f4"), looks := false }, kinds := [], alts := [], laidByText := true, laidKinds := [.funcs], laidTests := true, laidLooks := .later }
def IceEndsUptoCardSaid : Prop := Claim7.holds Tryz.pinned (.plain (OpenSpec.upto iceEndsSpec)) iceEndsUptoCard

/-- THE SECOND FORM's CARD OF 'kreisellaw02.IceBeside'. -/
def iceBesideUptoCard : Claim7 := { stood := { row := iceBesideUptoRow, standIns := [], harness := (true, "5748e6b0e31f35df207c948790800299d9c60fd00cb15ffb8782fd000c3ae0f4"), looks := false }, kinds := [], alts := [], laidByText := true, laidKinds := [.funcs], laidTests := true, laidLooks := .later }
def IceBesideUptoCardSaid : Prop := Claim7.holds Tryz.pinned (.plain (OpenSpec.upto iceBesideSpec)) iceBesideUptoCard

/-- THE SECOND FORM's CARD OF 'kreisellaw02.IceWater'. -/
def iceWaterUptoCard : Claim7 := { stood := { row := iceWaterUptoRow, standIns := [], harness := (true, "5748e6b0e31f35df207c948790800299d9c60fd00cb15ffb8782fd000c3ae0f4"), looks := false }, kinds := [], alts := [], laidByText := true, laidKinds := [.funcs], laidTests := true, laidLooks := .later }
def IceWaterUptoCardSaid : Prop := Claim7.holds Tryz.pinned (.plain (OpenSpec.upto iceWaterSpec)) iceWaterUptoCard
end Rows
end Go.Proofs.YtdigopgncfhiaaaGreatDoor
