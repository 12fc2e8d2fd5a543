/- The data of layer 1 in plain Lean, and how each lies in cells. No program here. -/
import Derived.WalkKit
namespace Go.Proofs.Ytekjkaoibcfgfaa

/-- api.Span -/
structure Sp where
  lo : Int
  hi : Int
/-- api.Stretch -/
structure St where
  id : Int
  long : Sp
  fall : Sp
  radius : Sp
  side : Int
  wall : Int
/-- api.Measure -/
structure Me where
  kind : Int
  frm : Int
  to : Int
  value : Sp
/-- api.Spot -/
structure Spot where
  st : Int
  off : Sp

instance : DecidableEq Sp := fun a b => decidable_of_iff (a.lo = b.lo ∧ a.hi = b.hi) (by cases a; cases b; simp)
instance : DecidableEq St := fun a b => decidable_of_iff (a.id = b.id ∧ a.long = b.long ∧ a.fall = b.fall ∧ a.radius = b.radius ∧ a.side = b.side ∧ a.wall = b.wall) (by cases a; cases b; simp)
instance : DecidableEq Me := fun a b => decidable_of_iff (a.kind = b.kind ∧ a.frm = b.frm ∧ a.to = b.to ∧ a.value = b.value) (by cases a; cases b; simp)
instance : Inhabited Sp := ⟨⟨0, 0⟩⟩
instance : Inhabited St := ⟨⟨0, ⟨0, 0⟩, ⟨0, 0⟩, ⟨0, 0⟩, 0, 0⟩⟩
instance : Inhabited Me := ⟨⟨0, 0, 0, ⟨0, 0⟩⟩⟩

def encI (x : Int) : List Value := [.int .i64 x]
def encU (x : Int) : List Value := [.int .u32 x]
def encSp (s : Sp) : List Value := [.int .i64 s.lo, .int .i64 s.hi]
def encSt (s : St) : List Value := [.int .i64 s.id, .int .i64 s.long.lo, .int .i64 s.long.hi, .int .i64 s.fall.lo, .int .i64 s.fall.hi, .int .i64 s.radius.lo, .int .i64 s.radius.hi, .int .u8 s.side, .int .i64 s.wall]
def encMe (m : Me) : List Value := [.int .u8 m.kind, .int .i64 m.frm, .int .i64 m.to, .int .i64 m.value.lo, .int .i64 m.value.hi]

/-- The values as they go from call to call. -/
def vSp (s : Sp) : Value := .agg #[.int .i64 s.lo, .int .i64 s.hi]
def vSt (s : St) : Value := .agg #[.int .i64 s.id, .int .i64 s.long.lo, .int .i64 s.long.hi, .int .i64 s.fall.lo, .int .i64 s.fall.hi, .int .i64 s.radius.lo, .int .i64 s.radius.hi, .int .u8 s.side, .int .i64 s.wall]
def vMe (m : Me) : Value := .agg #[.int .u8 m.kind, .int .i64 m.frm, .int .i64 m.to, .int .i64 m.value.lo, .int .i64 m.value.hi]

/-- Are they equal? By their numbers, as the walk meets them. -/
def eqSp (a b : Sp) : Bool := decide (a = b)
def eqSt (a b : St) : Bool := decide (a = b)
def eqMe (a b : Me) : Bool := decide (a = b)

end Go.Proofs.Ytekjkaoibcfgfaa
