/- IceExamples: for every input the law returns true, and what it is given reads as before. Condition: none beyond the given card's own (the table of limits is laid as the program's text lays it, and the card ties it). -/
import Derived.Test.YtdigopgncfhiaaaGreatDoorC27
import Derived.Test.YtdigopgncfhiaaaGreatDoorC39
import Derived.Test.YtdigopgncfhiaaaGreatDoorCards
import Derived.Test.YtdigopgncfhiaaaGreatDoorTie
import Derived.SevenTiedAt
import Derived.Stop.Joined
namespace Go.Proofs.YtdigopgncfhiaaaGreatDoor
open Go.ChangeShapes Go.WideShapes Go.ChangeAt Go.RowKit
set_option linter.unusedSimpArgs false
set_option linter.unusedVariables false
set_option maxRecDepth 100000 in
theorem zHh (os : Os) (started : os.Started) (H : Type) (enc : TypeId × Value → H) :
  ReturnsInHanded {} Tryz.checked os 11 .any (fun w args => (Rows.iceExamplesSpec.pre enc Tryz.prog Tryz.f11 [] false w args ∧ laidMetH Tryz.prog [("kreisel/ice.limits", Rows.laid_kreisel_ice_limits)] w) ∧ sizedMet enc Tryz.prog Tryz.f11 (OpenSpec.ofChange Rows.iceExamplesSpec) false w args)
   (Rows.iceExamplesSpec.post enc Tryz.prog Tryz.f11 false true false false) := by
 refine returnsInHanded_of_change_and (C := Tryz.checked) (X := fun w _ => laidMetH Tryz.prog [("kreisel/ice.limits", Rows.laid_kreisel_ice_limits)] w) (fun _ _ _ hh h => h.of_heap hh) zEj started (by kernel_rfl) Tryz.func11
  (ChangeSpec.witness_shaped (enc := enc) (C := Tryz.checked) (os := os) (X := fun w _ => laidMetH Tryz.prog [("kreisel/ice.limits", Rows.laid_kreisel_ice_limits)] w) false (World.doorLaid Tryz.prog 600 os) #[] 8 rfl (World.shaped_of_RefB (by kernel_rfl) (by kernel_rfl)) (by kernel_rfl) (by kernel_rfl) (by kernel_rfl) (zDz os _)) ?_
 intro W base args ds gs before hval0 hW _ _ hL _
 have hval : ∀ (j : Nat) t v, Tryz.f11.params[j]? = some t → args[j]? = some v → Value.okWide Tryz.prog W .any base t v := hval0
 have hW' := hW
 obtain ⟨p, q, hA0, hV, rfl, hfz, hnd⟩ := hW
 have hA : DataW.TrodAll enc Tryz.prog W 0 (fun _ => true) true Tryz.f11.params.toList args.toList ds p := hA0
 rw [Tryz.params11] at hA hval
 obtain ⟨hargs, rfl, rfl⟩ := trodAll_nil hA
 obtain rfl : args = #[] := by cases args; simp_all
 obtain ⟨rfl, rfl⟩ := trodVars_none hV
 have hG := zDt hL
 refine (Two.zJc W hG).gives.mono fun e W' ⟨he, hB⟩ => ?_
 subst he
 exact ⟨_, rfl, zEl zEm hW' rfl rfl rfl Tryz.underlying4 (by
  intro u hu
  rw [Tryz.params11] at hu
  cases hu) hB⟩
theorem iceExamples_holds : Rows.IceExamplesSaid :=
 OpenClaim.holds_of_wide 11 Tryz.f11 rfl rfl rfl rfl rfl rfl rfl ⟨rfl, rfl, rfl, rfl, rfl⟩ rfl rfl rfl rfl rfl (by kernel_rfl) Tryz.func11 (by kernel_rfl)
  (of_decide_eq_true (by kernel_rfl)) (by unfold Func.isWrapper; first | (rw [if_pos (by decide +kernel)]; kernel_rfl) | (rw [if_neg (by decide +kernel)]; exact ⟨rfl, rfl⟩))
  (fun os started H enc _ => zHh os started H enc)
theorem iceExamplesCard_holds : Rows.IceExamplesCardSaid :=
 Claim7.holds_tied_plain_at .later [] [.funcs] true (true, "5748e6b0e31f35df207c948790800299d9c60fd00cb15ffb8782fd000c3ae0f4") false
  iceExamples_holds (fun _ h => by cases h) (by kernel_rfl) (fun _ h => by cases h) iceExamples_row_tie rfl ⟨rfl, rfl⟩ (by kernel_rfl) rfl
  (fun f fn hf hfn => by
   obtain rfl : f = 11 := Option.some.inj ((show Tryz.prog.funcNamed "kreisel/kreisellaw02.IceExamples" = some 11 by kernel_rfl).symm.trans hf) |>.symm
   obtain rfl : fn = Tryz.f11 := (Option.some.inj (Tryz.func11.symm.trans hfn)).symm
   exact ⟨by kernel_rfl, fun j t ht => by
    rw [Tryz.params11] at ht
    simp at ht⟩)
  (by kernel_rfl)
#print axioms iceExamplesCard_holds
end Go.Proofs.YtdigopgncfhiaaaGreatDoor
