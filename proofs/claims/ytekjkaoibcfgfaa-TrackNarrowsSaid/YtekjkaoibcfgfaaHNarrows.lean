/- TrackNarrows: for every input the law returns true. No condition. -/
import Derived.Test.YtekjkaoibcfgfaaTop
import Derived.Test.YtekjkaoibcfgfaaX24
namespace Go.Proofs.Ytekjkaoibcfgfaa
open Go.ChangeShapes Go.WideShapes Go.ChangeAt Go.RowKit
set_option linter.unusedSimpArgs false
set_option linter.unusedVariables false

section
variable {H : Type} {enc : TypeId × Value → H} {w : World} {sp : Nat → Bool} {held : Bool} {n : Nat} {cs : List Value} {x : DataW H × List MemPlace}
theorem rd_me (h : DataW.trod enc Try.prog w 0 sp held n 73 cs = some x) : ∃ s : Me, cs = encMe s ∧ FitMe s := by
  have hl := rd_len Try.underlying73 h (k := 5) (by kernel_rfl)
  obtain ⟨n0, y0, h0⟩ := rd_field Try.underlying73 h (j := 0) rfl rfl (k := 1) (by kernel_rfl)
  obtain ⟨n1, y1, h1⟩ := rd_field Try.underlying73 h (j := 1) rfl rfl (k := 1) (by kernel_rfl)
  obtain ⟨n2, y2, h2⟩ := rd_field Try.underlying73 h (j := 2) rfl rfl (k := 1) (by kernel_rfl)
  obtain ⟨n3, y3, h3⟩ := rd_field Try.underlying73 h (j := 3) rfl rfl (k := 2) (by kernel_rfl)
  obtain ⟨a, e0, f0⟩ := rd_u8 Try.underlying5 h0
  obtain ⟨b, e1, f1⟩ := rd_int Try.underlying3 h1
  obtain ⟨c, e2, f2⟩ := rd_int Try.underlying3 h2
  obtain ⟨d, e3, f3⟩ := rd_sp h3
  match cs, hl with
  | [c0, c1, c2, c3, c4], _ =>
    simp [encSp] at e0 e1 e2 e3
    exact ⟨⟨a, b, c, d⟩, by simp [encMe, e0, e1, e2, e3], f0, f1, f2, f3⟩
set_option maxRecDepth 20000 in
/-- an argument that is a list of measures -/
theorem open_meas {base : Nat} {r : Reach} {v : Value} {dd : DataW H} {p : List MemPlace} (hv : Value.okWide Try.prog w r base 67 v) (h : DataW.Trod enc Try.prog w 0 (fun _ => true) held 67 v dd p) :
    ∃ (A : Option Addr) (l : List Me) (c : Nat), v = .slice A l.length c ∧ SlAt encMe 5 w A l ∧ (∀ m ∈ l, FitMe m) ∧ l.length ≤ c ∧ c ≤ maxLen := by
  obtain ⟨a, len, cap, rfl⟩ := okWide_slice Try.underlying67 hv
  obtain ⟨fuel, hf⟩ := h
  obtain ⟨A, l, c, e0, hs, hfit, h1, h2⟩ := rd_slice (en := encMe) (k := 5) (ok := FitMe) Try.underlying67 (by kernel_rfl) (by omega) (fun _ => rfl) (fun _ _ _ h => rd_me h) hf
  simp [Value.cells] at e0
  obtain ⟨e1, e2, e3⟩ := e0
  exact ⟨A, l, c, by rw [e1, e2, e3], hs, hfit, h1, h2⟩
end

set_option maxRecDepth 100000 in
theorem trackNarrows_lifted (os : Os) (started : os.Started) (H : Type) (enc : TypeId × Value → H) :
    ReturnsInHanded {} Try.checked os 5 .any (Rows.trackNarrowsSpec.pre6 enc Try.prog Try.f5 Rows.trackNarrowsRow.domain false) (Rows.trackNarrowsSpec.post enc Try.prog Try.f5 false true false false) := by
  refine returnsInHanded_of_change (C := Try.checked) ownKnobs started (by kernel_rfl) Try.func5
    (ChangeSpec.witness6 (enc := enc) (C := Try.checked) false ⟨#[], #[.agg #[.slice none 0 0], .slice none 0 0], []⟩ 8 (by kernel_rfl) (by kernel_rfl) (by kernel_rfl) (by kernel_rfl)) ?_
  intro W base args ds gs before hval0 hW hcnd _
  have hval : ∀ (j : Nat) t v, Try.f5.params[j]? = some t → args[j]? = some v → Value.okWide Try.prog W .any base t v := hval0
  have hW' := hW
  obtain ⟨p, q, hA0, hV, rfl, hfz, hnd⟩ := hW
  have hA : DataW.TrodAll enc Try.prog W 0 (fun _ => true) true Try.f5.params.toList args.toList ds p := hA0
  rw [Try.params5] at hA hval
  obtain ⟨v0, vs0, d0, ds0, p0, q0, hargs, rfl, rfl, h0, r0⟩ := trodAll_cons hA
  obtain ⟨v1, vs1, d1, ds1, p1, q1, rfl, rfl, rfl, h1, r1⟩ := trodAll_cons r0
  obtain ⟨rfl, rfl, rfl⟩ := trodAll_nil r1
  obtain rfl : args = #[v0, v1] := by cases args; simp_all
  obtain ⟨rfl, rfl⟩ := trodVars_none hV
  obtain ⟨A, a, ca, rfl, hsa, fita, hlca, hca⟩ := open_track (hval 0 24 v0 rfl rfl) h0
  obtain ⟨B, l, cb, rfl, hsb, fitb, hlcb, hcb⟩ := open_meas (hval 1 67 v1 rfl rfl) h1
  refine (trackNarrows_any a A ca l B cb W hsa hsb hlcb (fun s hs => (fita s hs).2.2.2.2.1) (fun m hm => (fitb m hm).1)).gives.mono fun e W' ⟨he, hB⟩ => ?_
  subst he
  exact ⟨_, rfl, law_post laidOuts hW' rfl rfl rfl Try.underlying4 (by
    intro u hu
    rw [Try.params5] at hu
    simp only [List.mem_cons, List.not_mem_nil, or_false] at hu
    rcases hu with rfl | rfl <;> exact ⟨by kernel_rfl, of_decide_eq_true (by kernel_rfl)⟩) hB⟩

theorem trackNarrows_holds : Rows.TrackNarrowsSaid :=
  OpenClaim.holds_of_wide 5 Try.f5 rfl rfl rfl rfl rfl rfl rfl ⟨rfl, rfl, rfl, rfl, rfl⟩ rfl rfl rfl rfl rfl (by kernel_rfl) Try.func5 (by kernel_rfl)
    (of_decide_eq_true (by kernel_rfl)) (by unfold Func.isWrapper; first | (rw [if_pos (by decide +kernel)]; kernel_rfl) | (rw [if_neg (by decide +kernel)]; exact ⟨rfl, rfl⟩))
    (fun os started H enc _ => trackNarrows_lifted os started H enc)
#print axioms trackNarrows_holds
end Go.Proofs.Ytekjkaoibcfgfaa
