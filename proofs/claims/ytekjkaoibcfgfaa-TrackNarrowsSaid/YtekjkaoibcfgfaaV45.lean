/- Small facts: the error of a track; a slice of nothing. -/
import Derived.Test.YtekjkaoibcfgfaaV4
namespace Go.Proofs.Ytekjkaoibcfgfaa
open Go.RowKit
set_option maxRecDepth 20000
set_option linter.unusedSimpArgs false

theorem errT_yes {t : List St} (h : valid t = true) : errT t = 0 := by simp [errT, h]
theorem errT_no {t : List St} (h : valid t = false) : errT t = 10 := by simp [errT, h]

theorem sl_nil {α : Type} {enc : α → List Value} {k : Nat} {base : Nat} {w : World} {H : List Ent} (_ : Own base w H) : Own base w [.sl enc k none ([] : List α)] := by
  refine ⟨fun e he => ?_, fun e he b hb => ?_, by simp⟩
  · simp only [List.mem_singleton] at he
    subst he
    exact SlAt.nil
  · simp only [List.mem_singleton] at he
    subst he
    obtain ⟨o, ho⟩ := hb
    cases ho

end Go.Proofs.Ytekjkaoibcfgfaa
