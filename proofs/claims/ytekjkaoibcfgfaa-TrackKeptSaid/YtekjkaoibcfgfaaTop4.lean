/- Arguments as they are read: choices, small numbers. -/
import Derived.Test.YtekjkaoibcfgfaaTop3
import Derived.Test.YtekjkaoibcfgfaaY9
namespace Go.Proofs.Ytekjkaoibcfgfaa
open Go.ChangeShapes Go.WideShapes Go.ChangeAt Go.RowKit
set_option linter.unusedSimpArgs false
set_option linter.unusedVariables false

section
variable {H : Type} {enc : TypeId × Value → H} {w : World} {held : Bool}
set_option maxRecDepth 20000 in
/-- an argument that is a list of choices -/
theorem open_choices {base : Nat} {r : Reach} {v : Value} {dd : DataW H} {p : List MemPlace} (hv : Value.okWide Try.prog w r base 75 v) (h : DataW.Trod enc Try.prog w 0 (fun _ => true) held 75 v dd p) :
    ∃ (A : Option Addr) (l : List Int) (c : Nat), v = .slice A l.length c ∧ SlAt encU 1 w A l ∧ FitC l ∧ l.length ≤ c ∧ c ≤ maxLen := by
  obtain ⟨a, len, cap, rfl⟩ := okWide_slice Try.underlying75 hv
  obtain ⟨fuel, hf⟩ := h
  obtain ⟨A, l, c, e0, hs, hfit, h1, h2⟩ := rd_slice (en := encU) (k := 1) (ok := fun x => 0 ≤ x ∧ x ≤ 4294967295) Try.underlying75 (by kernel_rfl) (by omega) (fun _ => rfl) (fun _ _ _ h => rd_u32 Try.underlying88 h) hf
  simp [Value.cells] at e0
  obtain ⟨e1, e2, e3⟩ := e0
  exact ⟨A, l, c, by rw [e1, e2, e3], hs, hfit, h1, h2⟩
end
end Go.Proofs.Ytekjkaoibcfgfaa
