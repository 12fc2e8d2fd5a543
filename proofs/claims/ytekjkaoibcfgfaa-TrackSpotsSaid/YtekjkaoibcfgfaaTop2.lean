/- More arguments as they are read: a spot. -/
import Derived.Test.YtekjkaoibcfgfaaTop
import Derived.Test.YtekjkaoibcfgfaaW1
namespace Go.Proofs.Ytekjkaoibcfgfaa
open Go.ChangeShapes Go.WideShapes Go.ChangeAt Go.RowKit
set_option linter.unusedSimpArgs false
set_option linter.unusedVariables false
section
variable {H : Type} {enc : TypeId × Value → H} {w : World} {sp : Nat → Bool} {held : Bool} {n : Nat} {cs : List Value} {x : DataW H × List MemPlace}
theorem fitT_of {t : List St} (h : ∀ s ∈ t, FitSt s) : FitT t := fun s hs => (h s hs).2.2.2.2.1
theorem rd_spot (h : DataW.trod enc Try.prog w 0 sp held n 57 cs = some x) : ∃ s : Spot, cs = encSpot s ∧ FitSpot s := by
  have hl := rd_len Try.underlying57 h (k := 3) (by kernel_rfl)
  obtain ⟨n0, y0, h0⟩ := rd_field Try.underlying57 h (j := 0) rfl rfl (k := 1) (by kernel_rfl)
  obtain ⟨n1, y1, h1⟩ := rd_field Try.underlying57 h (j := 1) rfl rfl (k := 2) (by kernel_rfl)
  obtain ⟨a, e0, f0⟩ := rd_int Try.underlying3 h0
  obtain ⟨b, e1, f1⟩ := rd_sp h1
  match cs, hl with
  | [c0, c1, c2], _ =>
    simp [encSp] at e0 e1
    exact ⟨⟨a, b⟩, by simp [encSpot, e0, e1], f0, f1⟩
set_option maxRecDepth 20000 in
theorem open_spot {base : Nat} {r : Reach} {v : Value} {dd : DataW H} {p : List MemPlace} (hv : Value.okWide Try.prog w r base 57 v) (h : DataW.Trod enc Try.prog w 0 (fun _ => true) held 57 v dd p) : ∃ s : Spot, v = vSpot s ∧ FitSpot s := by
  obtain ⟨cs, rfl, _⟩ := okWide_struct Try.underlying57 hv
  obtain ⟨fuel, hf⟩ := h
  obtain ⟨s, e, f⟩ := rd_spot hf
  refine ⟨s, ?_, f⟩
  obtain ⟨l⟩ := cs
  simp [Value.cells] at e
  rw [e]; rfl
end
end Go.Proofs.Ytekjkaoibcfgfaa
