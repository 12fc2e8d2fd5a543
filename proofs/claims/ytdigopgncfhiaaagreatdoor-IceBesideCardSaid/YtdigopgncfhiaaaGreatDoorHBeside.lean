/- IceBeside: for every input the law returns true, and what it is given reads as before. Condition: none beyond the given card's own (the table of limits is laid as the program's text lays it, and the card ties it). -/
import Derived.Test.YtdigopgncfhiaaaGreatDoorF24
import Derived.Test.YtdigopgncfhiaaaGreatDoorF28
import Derived.Test.YtdigopgncfhiaaaGreatDoorCards
import Derived.Test.YtdigopgncfhiaaaGreatDoorTie
import Derived.SevenTiedAt
import Derived.Stop.Joined
namespace Go.Proofs.YtdigopgncfhiaaaGreatDoor
open Go.ChangeShapes Go.WideShapes Go.ChangeAt Go.RowKit
set_option linter.unusedSimpArgs false
set_option linter.unusedVariables false
set_option maxRecDepth 100000 in
theorem zGs (os : Os) (started : os.Started) (H : Type) (enc : TypeId × Value → H) :
  ReturnsInHanded {} Tryz.checked os 13 .any (fun w args => (Rows.iceBesideSpec.pre enc Tryz.prog Tryz.f13 [] false w args ∧ laidMetH Tryz.prog [("kreisel/ice.limits", Rows.laid_kreisel_ice_limits)] w) ∧ sizedMet enc Tryz.prog Tryz.f13 (OpenSpec.ofChange Rows.iceBesideSpec) false w args)
   (Rows.iceBesideSpec.post enc Tryz.prog Tryz.f13 false true false false) := by
 refine returnsInHanded_of_change_and (C := Tryz.checked) (X := fun w _ => laidMetH Tryz.prog [("kreisel/ice.limits", Rows.laid_kreisel_ice_limits)] w) (fun _ _ _ hh h => h.of_heap hh) ownKnobs started (by kernel_rfl) Tryz.func13
  (ChangeSpec.witness_shaped (enc := enc) (C := Tryz.checked) (os := os) (X := fun w _ => laidMetH Tryz.prog [("kreisel/ice.limits", Rows.laid_kreisel_ice_limits)] w) false (World.doorLaid Tryz.prog 600 os) #[.agg #[.slice none 0 0, .slice none 0 0, .slice none 0 0, .int .i64 0, .int .i64 0, .int .i64 0, .int .i64 0, .int .i64 0, .int .i64 0, .int .i64 0], .agg #[.slice none 0 0], .agg #[.int .i64 0, .int .i64 0, .int .i64 0], .slice none 0 0] 8 rfl (World.shaped_of_RefB (by kernel_rfl) (by kernel_rfl)) (by kernel_rfl) (by kernel_rfl) (by kernel_rfl) (zOA os _)) ?_
 intro W base args ds gs before hval0 hW _ _ hL _
 have hval : ∀ (j : Nat) t v, Tryz.f13.params[j]? = some t → args[j]? = some v → Value.okWide Tryz.prog W .any base t v := hval0
 have hW' := hW
 obtain ⟨p, q, hA0, hV, rfl, hfz, hnd⟩ := hW
 have hA : DataW.TrodAll enc Tryz.prog W 0 (fun _ => true) true Tryz.f13.params.toList args.toList ds p := hA0
 rw [Tryz.params13] at hA hval
 obtain ⟨v0, vs0, d0, ds0, p0, q0, hargs, rfl, rfl, h0, r0⟩ := trodAll_cons hA
 obtain ⟨v1, vs1, d1, ds1, p1, q1, rfl, rfl, rfl, h1, r1⟩ := trodAll_cons r0
 obtain ⟨v2, vs2, d2, ds2, p2, q2, rfl, rfl, rfl, h2, r2⟩ := trodAll_cons r1
 obtain ⟨v3, vs3, d3, ds3, p3, q3, rfl, rfl, rfl, h3, r3⟩ := trodAll_cons r2
 obtain ⟨rfl, rfl, rfl⟩ := trodAll_nil r3
 obtain rfl : args = #[v0, v1, v2, v3] := by cases args; simp_all
 obtain ⟨rfl, rfl⟩ := trodVars_none hV
 obtain ⟨c, A, ca, B, cb, C, cc, rfl, hc, hfit⟩ := open_cov (hval 0 30 v0 rfl rfl) h0
 obtain ⟨TA, t2, tc, rfl, ht2, hft, -, -⟩ := zLz (hval 1 24 v1 rfl rfl) h1
 obtain ⟨z, rfl⟩ := zNf (hval 2 73 v2 rfl rfl) h2
 obtain ⟨D, ch, cd, rfl, hD, hfu, -, -⟩ := zIl (hval 3 31 v3 rfl rfl) h3
 have hG := zNg hL
 refine (Two.zIo c A ca B cb C cc t2 TA tc z ch D cd W hc hfit ht2 (fun s hs => (hft s hs).2.2.2.2.1) hD hfu hG).gives.mono fun e W' ⟨he, hB⟩ => ?_
 subst he
 exact ⟨_, rfl, law_post laidOuts hW' rfl rfl rfl Tryz.underlying4 (by
  intro u hu
  rw [Tryz.params13] at hu
  simp only [List.mem_cons, List.not_mem_nil, or_false] at hu
  rcases hu with rfl | rfl | rfl | rfl <;> exact ⟨by kernel_rfl, of_decide_eq_true (by kernel_rfl)⟩) hB⟩
theorem iceBeside_holds : Rows.IceBesideSaid :=
 OpenClaim.holds_of_wide 13 Tryz.f13 rfl rfl rfl rfl rfl rfl rfl ⟨rfl, rfl, rfl, rfl, rfl⟩ rfl rfl rfl rfl rfl (by kernel_rfl) Tryz.func13 (by kernel_rfl)
  (of_decide_eq_true (by kernel_rfl)) (by unfold Func.isWrapper; first | (rw [if_pos (by decide +kernel)]; kernel_rfl) | (rw [if_neg (by decide +kernel)]; exact ⟨rfl, rfl⟩))
  (fun os started H enc _ => zGs os started H enc)
theorem iceBesideCard_holds : Rows.IceBesideCardSaid :=
 Claim7.holds_tied_plain_at .later [] [.funcs] true (true, "5748e6b0e31f35df207c948790800299d9c60fd00cb15ffb8782fd000c3ae0f4") false
  iceBeside_holds (fun _ h => by cases h) (by kernel_rfl) (fun _ h => by cases h) iceBeside_row_tie rfl ⟨rfl, rfl⟩ (by kernel_rfl) rfl
  (fun f fn hf hfn => by
   obtain rfl : f = 13 := Option.some.inj ((show Tryz.prog.funcNamed "kreisel/kreisellaw02.IceBeside" = some 13 by kernel_rfl).symm.trans hf) |>.symm
   obtain rfl : fn = Tryz.f13 := (Option.some.inj (Tryz.func13.symm.trans hfn)).symm
   exact ⟨by kernel_rfl, fun j t ht => by
    rw [Tryz.params13] at ht
    have hm : t ∈ [30, 24, 73, 31] := by simpa using Array.mem_of_getElem? ht
    have hall : ([30, 24, 73, 31].all fun u => !Tryz.prog.wantsStandIn u) = true := by kernel_rfl
    exact (show Tryz.prog.wantsStandIn t = false by simpa using List.all_eq_true.1 hall t hm)⟩)
  (by kernel_rfl)
#print axioms iceBesideCard_holds
end Go.Proofs.YtdigopgncfhiaaaGreatDoor
