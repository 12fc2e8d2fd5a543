/- left: its text's parts. -/
import Derived.Test.YtekjkaoibcfgfaaX9
import Derived.Test.YtekjkaoibcfgfaaX7
import Derived.Test.YtekjkaoibcfgfaaV45
namespace Go.Proofs.Ytekjkaoibcfgfaa
open Go.RowKit
set_option maxRecDepth 20000
set_option linter.unusedSimpArgs false
set_option linter.unusedVariables false

def stg (t : List St) (ms : List Me) : Nat → List St
  | 1 => t
  | 2 => stage1 t ms
  | _ => stage2 t ms
/-- the body of a text's first loop -/
def firstLoop : Code → Option Code
  | .loop c => some c
  | .seq a b => match firstLoop a with | some c => some c | none => firstLoop b
  | .block _ c => firstLoop c
  | .scope c => firstLoop c
  | _ => none
abbrev leftR (m b4 b6 b8 n K : Nat) : List (Nat × Value) := [(1, .map (some m)), (4, .pointer (some ⟨b4, 0, none⟩)), (6, .pointer (some ⟨b6, 0, none⟩)), (7, .int .i64 ((n + 1 : Nat) : Int)), (8, .pointer (some ⟨b8, 0, none⟩)), (9, .int .i64 (K : Int))]
abbrev leftH (b4 b6 b8 g n c' : Nat) (xs : List St) : List Ent := [.blk b4 [.slice none 0 0], .blk b6 [.slice (some ⟨g, 0, none⟩) n c'], .blk b8 [.nilFunc, .func (.func 101) #[] #[], .func (.func 102) #[] #[]], .arr encSt 9 g xs]

end Go.Proofs.Ytekjkaoibcfgfaa
