/- The data of layer 1 in plain Lean, and how each lies in cells. No program here. -/
import Derived.WalkKit
import Derived.Test.YtdigopgncfhiaaaDoorProg
import Derived.WalkLawsBesides
import Derived.WalkSpells
import Derived.Deep.QuietTactic
import Derived.BigQuiet
import Derived.Lib.Hide
import Derived.Deep.AppendLies
import Derived.Deep.Draws
import Derived.Deep.Light
import Derived.Maps.AppendAt
namespace Go.Proofs.YtdigopgncfhiaaaDoor
set_option linter.unusedVariables false
set_option linter.unusedSimpArgs false

/-- api.Span -/
structure Sp where
  lo : Int
  hi : Int
/-- api.Stretch -/
structure St where
  id : Int
  long : Sp
  fall : Sp
  radius : Sp
  side : Int
  wall : Int
/-- api.Measure -/
structure Me where
  kind : Int
  frm : Int
  to : Int
  value : Sp
/-- api.Spot -/
structure Spot where
  st : Int
  off : Sp

instance : DecidableEq Sp := fun a b => decidable_of_iff (a.lo = b.lo ∧ a.hi = b.hi) (by cases a; cases b; simp)
instance : DecidableEq St := fun a b => decidable_of_iff (a.id = b.id ∧ a.long = b.long ∧ a.fall = b.fall ∧ a.radius = b.radius ∧ a.side = b.side ∧ a.wall = b.wall) (by cases a; cases b; simp)
instance : DecidableEq Me := fun a b => decidable_of_iff (a.kind = b.kind ∧ a.frm = b.frm ∧ a.to = b.to ∧ a.value = b.value) (by cases a; cases b; simp)
instance : Inhabited Sp := ⟨⟨0, 0⟩⟩
instance : Inhabited St := ⟨⟨0, ⟨0, 0⟩, ⟨0, 0⟩, ⟨0, 0⟩, 0, 0⟩⟩
instance : Inhabited Me := ⟨⟨0, 0, 0, ⟨0, 0⟩⟩⟩

def encI (x : Int) : List Value := [.int .i64 x]
def encU (x : Int) : List Value := [.int .u32 x]
def encSp (s : Sp) : List Value := [.int .i64 s.lo, .int .i64 s.hi]
def encSt (s : St) : List Value := [.int .i64 s.id, .int .i64 s.long.lo, .int .i64 s.long.hi, .int .i64 s.fall.lo, .int .i64 s.fall.hi, .int .i64 s.radius.lo, .int .i64 s.radius.hi, .int .u8 s.side, .int .i64 s.wall]
def encMe (m : Me) : List Value := [.int .u8 m.kind, .int .i64 m.frm, .int .i64 m.to, .int .i64 m.value.lo, .int .i64 m.value.hi]

/-- The values as they go from call to call. -/
def vSp (s : Sp) : Value := .agg #[.int .i64 s.lo, .int .i64 s.hi]
def vSt (s : St) : Value := .agg #[.int .i64 s.id, .int .i64 s.long.lo, .int .i64 s.long.hi, .int .i64 s.fall.lo, .int .i64 s.fall.hi, .int .i64 s.radius.lo, .int .i64 s.radius.hi, .int .u8 s.side, .int .i64 s.wall]
def vMe (m : Me) : Value := .agg #[.int .u8 m.kind, .int .i64 m.frm, .int .i64 m.to, .int .i64 m.value.lo, .int .i64 m.value.hi]

/-- Are they equal? By their numbers, as the walk meets them. -/
def eqSp (a b : Sp) : Bool := decide (a = b)
def eqSt (a b : St) : Bool := decide (a = b)
def eqMe (a b : Me) : Bool := decide (a = b)

end Go.Proofs.YtdigopgncfhiaaaDoor
/- What the functions of layer 1 compute, in plain Lean: no program in sight. -/
namespace Go.Proofs.YtdigopgncfhiaaaDoor
set_option linter.unusedVariables false
set_option linter.unusedSimpArgs false

def inB (lo hi n : Int) : Bool := decide (lo ≤ n ∧ n ≤ hi)
def knownB (s : Sp) (lo hi : Int) : Bool := inB lo hi s.lo && inB lo hi s.hi && decide (s.lo ≤ s.hi)
/-- a stretch behind one with an Id -/
def stOk (last : Int) (s : St) : Bool :=
  inB (last + 1) 9999 s.id && knownB s.long 1 30000 && knownB s.fall 0 5000 && inB 0 5000 s.wall &&
    (decide (s.side = 0) && eqSp s.radius ⟨0, 0⟩ || inB 1 2 s.side && knownB s.radius 500 20000)
def okFrom (last : Int) : List St → Bool
  | [] => true
  | s :: r => stOk last s && okFrom s.id r
def valid (t : List St) : Bool := inB 1 12 t.length && okFrom (-1) t

theorem inB_iff {lo hi n : Int} : inB lo hi n = true ↔ lo ≤ n ∧ n ≤ hi := by simp [inB]
theorem inB_no {lo hi n : Int} : inB lo hi n = false ↔ ¬ (lo ≤ n ∧ n ≤ hi) := by simp [inB]
theorem knownB_iff {s : Sp} {lo hi : Int} : knownB s lo hi = true ↔ lo ≤ s.lo ∧ s.lo ≤ s.hi ∧ s.hi ≤ hi := by
  simp [knownB, inB]; omega

/-- the bytes of a track are bytes -/
def FitT (t : List St) : Prop := ∀ s ∈ t, 0 ≤ s.side ∧ s.side ≤ 255

theorem knownB_no {s : Sp} {lo hi : Int} : knownB s lo hi = false ↔ ¬ (lo ≤ s.lo ∧ s.lo ≤ s.hi ∧ s.hi ≤ hi) := by
  rw [← knownB_iff]; simp
theorem eqSp_iff {a b : Sp} : eqSp a b = true ↔ a.lo = b.lo ∧ a.hi = b.hi := by
  cases a; cases b; simp [eqSp]
theorem eqSp_no {a b : Sp} : eqSp a b = false ↔ ¬ (a.lo = b.lo ∧ a.hi = b.hi) := by
  rw [← eqSp_iff]; simp

/-- what validity gives of each stretch -/
structure Okay (s : St) : Prop where
  id0 : 0 ≤ s.id
  id1 : s.id ≤ 9999
  l0 : 1 ≤ s.long.lo
  l1 : s.long.lo ≤ s.long.hi
  l2 : s.long.hi ≤ 30000
  f0 : 0 ≤ s.fall.lo
  f1 : s.fall.lo ≤ s.fall.hi
  f2 : s.fall.hi ≤ 5000

theorem stOk_okay {last : Int} {s : St} (h : stOk last s = true) (hl : -1 ≤ last) : Okay s ∧ last < s.id := by
  simp only [stOk, Bool.and_eq_true, inB_iff, knownB_iff] at h
  obtain ⟨⟨⟨⟨h1, h2⟩, h3⟩, _⟩, _⟩ := h
  exact ⟨⟨by omega, by omega, by omega, by omega, by omega, by omega, by omega, by omega⟩, by omega⟩
theorem okFrom_okay {t : List St} : ∀ {last : Int}, okFrom last t = true → -1 ≤ last → ∀ s ∈ t, Okay s ∧ last < s.id := by
  induction t with
  | nil => intro _ _ _ s hs; cases hs
  | cons x r ih =>
    intro last h hl s hs
    simp only [okFrom, Bool.and_eq_true] at h
    have hx := stOk_okay h.1 hl
    rcases List.mem_cons.1 hs with rfl | hm
    · exact hx
    · have := ih h.2 (by have := hx.1.id0; omega) s hm
      exact ⟨this.1, by have := hx.2; omega⟩
theorem valid_okay {t : List St} (h : valid t = true) : ∀ s ∈ t, Okay s := by
  simp only [valid, Bool.and_eq_true] at h
  exact fun s hs => (okFrom_okay h.2 (by omega) s hs).1
theorem valid_len {t : List St} (h : valid t = true) : 1 ≤ t.length ∧ t.length ≤ 12 := by
  simp only [valid, Bool.and_eq_true, inB_iff] at h
  omega

def addSp (a b : Sp) : Sp := ⟨a.lo + b.lo, a.hi + b.hi⟩
/-- numbers that stay far from where they would wrap -/
def near (B : Int) (s : Sp) : Prop := -B ≤ s.lo ∧ s.lo ≤ B ∧ -B ≤ s.hi ∧ s.hi ≤ B
def sumSp (l : List Sp) : Sp := l.foldl addSp ⟨0, 0⟩
def longs (t : List St) : List Sp := t.map (·.long)
def falls (t : List St) : List Sp := t.map (·.fall)
/-- how long, and by how much it falls, from mark to mark -/
def longBetween (t : List St) (i j : Nat) : Sp := sumSp ((longs t).extract i j)
def fallBetween (t : List St) (i j : Nat) : Sp := sumSp ((falls t).extract i j)
def mark (t : List St) (i : Nat) : Sp := longBetween t 0 i
def marks (t : List St) : List Sp := (List.range (t.length + 1)).map (mark t)
end Go.Proofs.YtdigopgncfhiaaaDoor
/- Which elements of a list are so: in plain Lean. -/
namespace Go.Proofs.YtdigopgncfhiaaaDoor
set_option linter.unusedVariables false
set_option linter.unusedSimpArgs false

def soAt {α : Type} (p : Nat → α → Bool) (l : List α) (i : Nat) : Bool := match l[i]? with | some x => p i x | none => false
def picksTo {α : Type} (p : Nat → α → Bool) (l : List α) (k : Nat) : List Int := ((List.range k).filter (soAt p l)).map Int.ofNat
def picks {α : Type} (p : Nat → α → Bool) (l : List α) : List Int := picksTo p l l.length
theorem picksTo_yes {α : Type} {p : Nat → α → Bool} {l : List α} {k : Nat} (h : soAt p l k = true) : picksTo p l (k + 1) = picksTo p l k ++ [(k : Int)] := by
  simp [picksTo, List.range_succ, List.filter_append, h]
theorem picksTo_no {α : Type} {p : Nat → α → Bool} {l : List α} {k : Nat} (h : soAt p l k = false) : picksTo p l (k + 1) = picksTo p l k := by
  simp [picksTo, List.range_succ, List.filter_append, h]
theorem picksTo_len {α : Type} (p : Nat → α → Bool) (l : List α) (k : Nat) : (picksTo p l k).length ≤ k := by
  unfold picksTo; rw [List.length_map]; exact Nat.le_trans (List.length_filter_le _ _) (by simp)
theorem picks_congr {α : Type} {p q : Nat → α → Bool} {l : List α} (h : ∀ i x, l[i]? = some x → p i x = q i x) : picks p l = picks q l := by
  unfold picks picksTo
  congr 1
  refine List.filter_congr (fun i hi => ?_)
  unfold soAt
  cases hx : l[i]? with
  | none => rfl
  | some x => exact h i x hx

end Go.Proofs.YtdigopgncfhiaaaDoor
/- The words that all proofs of this seat share: what a call gives, how data lie in memory. -/
namespace Go.Proofs.YtdigopgncfhiaaaDoor
set_option linter.unusedVariables false
set_option linter.unusedSimpArgs false
open Go.RowKit

/-- A call returns a value; what was there before is as it was; and Q. -/
def Does (f : FuncId) (args : Array Value) (w : World) (Q : Value → World → Prop) : Prop :=
  Calls Tryd.prog f args w fun e w' => ∃ v, e = .returned v ∧ Below w.heap.size w w' ∧ Q v w'

/-- A call returns just this value. -/
def Gives (f : FuncId) (args : Array Value) (w : World) (v : Value) : Prop :=
  Calls Tryd.prog f args w fun e w' => e = .returned v ∧ Below w.heap.size w w'

theorem Gives.does {f : FuncId} {args : Array Value} {w : World} {v : Value} (h : Gives f args w v) : Does f args w fun u _ => u = v :=
  h.mono fun _ _ ⟨he, hb⟩ => ⟨v, he, hb, rfl⟩
theorem Does.gives {f : FuncId} {args : Array Value} {w : World} {v : Value} (h : Does f args w fun u _ => u = v) : Gives f args w v :=
  h.mono fun _ _ ⟨_, he, hb, hv⟩ => ⟨hv ▸ he, hb⟩
theorem Does.weaken {f : FuncId} {args : Array Value} {w : World} {Q Q' : Value → World → Prop} (h : Does f args w Q) (hq : ∀ v w', Q v w' → Q' v w') : Does f args w Q' :=
  h.mono fun _ _ ⟨v, he, hb, hv⟩ => ⟨v, he, hb, hq _ _ hv⟩
theorem Gives.of {f : FuncId} {args : Array Value} {w : World} {v v' : Value} (h : Gives f args w v) (hv : v = v') : Gives f args w v' := hv ▸ h

/-- a function with a body is entered -/
theorem enters {f : FuncId} {fn : Func} {c : Code} (hf : Tryd.prog.funcs[f]? = some fn) (hname : (fn.name == "runtime.NumGoroutine") = false) (hb : fn.body = some c) (args : Array Value) (w : World) : (callFunc f args).run Tryd.prog w = .ok (.enter f args) w := by
  have hne : ¬ (fn.name == "runtime.NumGoroutine") = true := by rw [hname]; simp
  simp [callFunc, run_program, Sem.run_bind, Result.andThen, hf, hb]
  intro h; simp [h] at hname

theorem ret_of {v v' : Value} (h : v = v') : Ending.returned v = Ending.returned v' := by rw [h]

/-! ### rows in memory -/

/-- The cells of xs, k each, lie behind A. -/
def SlAt {α : Type} (enc : α → List Value) (k : Nat) (w : World) (A : Option Addr) (xs : List α) : Prop :=
  ∀ i x, xs[i]? = some x → ∃ b o, A = some ⟨b, o, none⟩ ∧ b < w.heap.size ∧ ∀ j v, (enc x)[j]? = some v → w.cell? ⟨b, o + i * k + j, none⟩ = some v

section
variable {α : Type} {enc : α → List Value} {k : Nat} {w w' : World} {A : Option Addr} {xs : List α}
theorem SlAt.below (h : SlAt enc k w A xs) (hb : Below w.heap.size w w') : SlAt enc k w' A xs := by
  intro i x hx
  obtain ⟨b, o, hA, hlt, hc⟩ := h i x hx
  exact ⟨b, o, hA, by have := hb.size; omega, fun j v hv => by rw [hb.cell hlt]; exact hc j v hv⟩
theorem SlAt.belowN {n : Nat} (h : SlAt enc k w A xs) (hb : Below n w w') (hn : w.heap.size ≤ n) : SlAt enc k w' A xs := h.below (hb.mono hn)
theorem SlAt.nil : SlAt enc k w A [] := fun i x hx => by simp at hx
theorem SlAt.at_ (h : SlAt enc k w A xs) {i : Nat} (hi : i < xs.length) :
    ∃ b o, A = some ⟨b, o, none⟩ ∧ b < w.heap.size ∧ ∀ j v, (enc xs[i])[j]? = some v → w.cell? ⟨b, o + i * k + j, none⟩ = some v := h i _ (by simp [hi])
theorem SlAt.take (h : SlAt enc k w A xs) (n : Nat) : SlAt enc k w A (xs.take n) := by
  intro i x hx
  rw [List.getElem?_take] at hx
  split at hx
  · exact h i x hx
  · cases hx
theorem SlAt.alloc (h : SlAt enc k w A xs) (o : Obj) : SlAt enc k (w.alloc o) A xs := h.below ((Below.refl _ _).alloc (Nat.le_refl _) o)
theorem SlAt.drew (h : SlAt enc k w A xs) : SlAt enc k w.drew A xs := h
theorem SlAt.drewN (h : SlAt enc k w A xs) (n : Nat) : SlAt enc k (w.drewN n) A xs := h
end

theorem below_drewN {B : Nat} {a w : World} (h : Below B a w) (n : Nat) : Below B a (w.drewN n) := ⟨h.os, h.tape, h.output, h.size, h.block⟩
theorem below_alloc (w : World) (o : Obj) : Below w.heap.size w (w.alloc o) := (Below.refl _ _).alloc (Nat.le_refl _) o
theorem bx_alloc {w w1 : World} (h : Below w.heap.size w w1) (o : Obj) : Below w.heap.size w (w1.alloc o) := h.alloc h.size o
theorem below_step {w w1 w2 : World} (h : Below w.heap.size w w1) (h' : Below w1.heap.size w1 w2) : Below w.heap.size w w2 := h.trans (h'.mono h.size)

/-- cells and marks behind a call, in the form that the walk takes -/
theorem bcell {W w1 : World} (hb : Below W.heap.size W w1) : (∀ b o, b < W.heap.size → w1.cell? ⟨b, o, none⟩ = W.cell? ⟨b, o, none⟩) ∧ (∀ b o, b < W.heap.size → w1.frozen? ⟨b, o, none⟩ = W.frozen? ⟨b, o, none⟩) :=
  ⟨fun b o h => hb.cell (p := ⟨b, o, none⟩) h, fun b o h => hb.frozen (p := ⟨b, o, none⟩) h⟩
theorem bcellN {n : Nat} {W w1 : World} (hb : Below n W w1) : (∀ b o, b < n → w1.cell? ⟨b, o, none⟩ = W.cell? ⟨b, o, none⟩) ∧ (∀ b o, b < n → w1.frozen? ⟨b, o, none⟩ = W.frozen? ⟨b, o, none⟩) :=
  ⟨fun b o h => hb.cell (p := ⟨b, o, none⟩) h, fun b o h => hb.frozen (p := ⟨b, o, none⟩) h⟩


/-- A block that is known whole. -/
def Blk (w : World) (g : Nat) (cs : Array Value) : Prop := ∃ t : TypeId, w.heap[g]? = some (.cells cs t (0, 0))
section
variable {w w' : World} {g : Nat} {cs : Array Value}
theorem Blk.lt (h : Blk w g cs) : g < w.heap.size := by
  obtain ⟨t, h⟩ := h
  exact (Array.getElem?_eq_some_iff.1 h).1
theorem Blk.cell (h : Blk w g cs) (i : Nat) : w.cell? ⟨g, i, none⟩ = cs[i]? := by obtain ⟨t, h⟩ := h; simp [World.cell?, h]
theorem Blk.frozen (h : Blk w g cs) (i : Nat) : w.frozen? ⟨g, i, none⟩ = false := by obtain ⟨t, h⟩ := h; simp [World.frozen?, h]
theorem Blk.new (w : World) (t : TypeId) (cs : Array Value) : Blk (w.alloc (.cells cs t)) w.heap.size cs := ⟨t, heap_alloc_new w _⟩
theorem Blk.new' {w : World} {t : TypeId} {cs : Array Value} {g : Nat} (h : g = w.heap.size) : Blk (w.alloc (.cells cs t)) g cs := h ▸ Blk.new w t cs
theorem Blk.alloc (h : Blk w g cs) (o : Obj) : Blk (w.alloc o) g cs := by obtain ⟨t, k⟩ := h; exact ⟨t, (Below.heap_alloc w o g (Blk.lt ⟨t, k⟩)).trans k⟩
theorem Blk.drew (h : Blk w g cs) : Blk w.drew g cs := h
theorem Blk.drewN (h : Blk w g cs) (n : Nat) : Blk (w.drewN n) g cs := h
theorem Blk.set_ (h : Blk w g cs) (i : Nat) (u : Value) : Blk (w.setCell ⟨g, i, none⟩ u) g (cs.setIfInBounds i u) := by
  obtain ⟨t, h⟩ := h
  refine ⟨t, ?_⟩
  simp [World.setCell, Array.getElem?_modify, h]
theorem Blk.far (h : Blk w g cs) {p : Addr} (hp : g ≠ p.block) (u : Value) : Blk (w.setCell p u) g cs := by obtain ⟨t, h⟩ := h; exact ⟨t, (Below.heap_setCell w p u g hp).trans h⟩
theorem Blk.below {B : Nat} (h : Blk w g cs) (hb : Below B w w') (hg : g < B) : Blk w' g cs := by obtain ⟨t, h⟩ := h; exact ⟨t, (hb.block g hg).trans h⟩
/-- behind a call -/
theorem Blk.past (h : Blk w g cs) (hb : Below w.heap.size w w') : Blk w' g cs := h.below hb h.lt
theorem Blk.cast {cs' : Array Value} (h : Blk w g cs) (e : cs = cs') : Blk w g cs' := e ▸ h
/-- the facts that the walk takes -/
theorem Blk.facts (h : Blk w g cs) : (∀ i, w.cell? ⟨g, i, none⟩ = cs[i]?) ∧ (∀ i, w.frozen? ⟨g, i, none⟩ = false) ∧ g < w.heap.size := ⟨h.cell, h.frozen, h.lt⟩
end

/-- For showing what a block holds in a world that is written out: step by step from outside. -/
def BlkE (w : World) (g : Nat) (p : Array Value → Prop) : Prop := ∃ cs, Blk w g cs ∧ p cs
section
variable {w : World} {g : Nat} {p : Array Value → Prop}
theorem blkE {cs : Array Value} (h : BlkE w g (· = cs)) : Blk w g cs := by obtain ⟨_, h, rfl⟩ := h; exact h
theorem BlkE.alloc (h : BlkE w g p) (o : Obj) : BlkE (w.alloc o) g p := by obtain ⟨cs, h, hp⟩ := h; exact ⟨cs, h.alloc o, hp⟩
theorem BlkE.drew (h : BlkE w g p) : BlkE w.drew g p := h
theorem BlkE.drewN (h : BlkE w g p) (n : Nat) : BlkE (w.drewN n) g p := h
theorem BlkE.far {b i : Nat} (h : BlkE w g p) (u : Value) (hp : g ≠ b) : BlkE (w.setCell ⟨b, i, none⟩ u) g p := by
  obtain ⟨cs, h, hq⟩ := h; exact ⟨cs, h.far (p := ⟨b, i, none⟩) hp u, hq⟩
theorem BlkE.set_ {b i : Nat} {u : Value} (h : BlkE w g fun cs => p (cs.setIfInBounds i u)) (hg : b = g) : BlkE (w.setCell ⟨b, i, none⟩ u) g p := by
  subst hg; obtain ⟨cs, h, hq⟩ := h; exact ⟨_, h.set_ i u, hq⟩
theorem BlkE.leaf {cs : Array Value} (h : Blk w g cs) (hp : p cs) : BlkE w g p := ⟨cs, h, hp⟩
theorem BlkE.new_ {t : TypeId} {cs : Array Value} (hg : g = w.heap.size) (hp : p cs) : BlkE (w.alloc (.cells cs t)) g p := ⟨cs, Blk.new' hg, hp⟩
end
theorem below_setCell {B : Nat} {a w : World} {b i : Nat} {u : Value} (h : Below B a w) (hp : B ≤ b) : Below B a (w.setCell ⟨b, i, none⟩ u) := h.setCell (p := ⟨b, i, none⟩) hp u
theorem below_drew {B : Nat} {a w : World} (h : Below B a w) : Below B a w.drew := h.drew
attribute [irreducible] Blk
end Go.Proofs.YtdigopgncfhiaaaDoor
/- A region whose order is left open, whose operations read, and whose calls return plain values and may make memory: one walk in the order of the text. -/
namespace Go.Proofs.YtdigopgncfhiaaaDoor
set_option linter.unusedVariables false
set_option linter.unusedSimpArgs false
open Go.RowKit

/-- A world that has grown out of w. -/
structure Grow (w : World) where
  world : World
  below : Below w.heap.size w world

instance {w : World} : Nonempty (Grow w) := ⟨⟨w, Below.refl _ _⟩⟩

theorem Grow.cell_at {w : World} (g : Grow w) {a : Addr} (h : (w.cell? a).isSome = true) : g.world.cell? a = w.cell? a := by
  obtain ⟨u, hu⟩ := Option.isSome_iff_exists.1 h
  exact g.below.cell (World.block_lt_of_cell? w a hu)
attribute [go_sem] Grow.cell_at

theorem wp_region_grow {P : Program} {id : Nat} {Q : Exit → Act → World → Prop} {a : Act} {w : World} {l : List Oper} (hm : P.follows .mixedOrders = true) (hB : Region.lexB .any l.toArray = true)
    (h : wpQuiet P l.toArray (fun w' => ∃ g : Grow w, w' = g.world) (fun a' => ∀ w', (∃ g : Grow w, w' = g.world) → Q .normal a' w') l a) : (Code.region id l.toArray true).wp P Q a w :=
  wp_region_quiet (C := fun w' => ∃ g : Grow w, w' = g.world) hm hB ⟨⟨w.drew, (Below.refl _ _).drew⟩, rfl⟩ (by simpa using h)

theorem grow_nil {P : Program} {w : World} {ops : Array Oper} {K : Act → World → Prop} {a : Act} (h : ∀ w', Below w.heap.size w w' → K a w') :
    wpQuiet P ops (fun w' => ∃ g : Grow w, w' = g.world) (fun a' => ∀ w', (∃ g : Grow w, w' = g.world) → K a' w') [] a :=
  wpQuiet_nil fun _ ⟨g, hg⟩ => hg ▸ h g.world g.below

theorem grow_call {f : FuncId} {args : Array Value} {w : World} {v : Value} {g : Grow w} (h : Gives f args g.world v) :
    Calls Tryd.prog f args g.world fun e w' => e = .returned v ∧ ∃ g' : Grow w, w' = g'.world :=
  h.mono fun _ w' ⟨he, hb⟩ => ⟨he, ⟨w', below_step g.below hb⟩, rfl⟩
end Go.Proofs.YtdigopgncfhiaaaDoor
