/- The words that all proofs of this seat share: what a call gives, how data lie in memory. -/
import Derived.Test.YtekjkaoibcfgfaaProg
import Derived.WalkKit
import Derived.WalkLawsBesides
import Derived.WalkSpells
import Derived.Deep.QuietTactic
import Derived.BigQuiet
import Derived.Lib.Hide
import Derived.Deep.AppendLies
import Derived.Deep.Draws
import Derived.Deep.Light
import Derived.Maps.AppendAt
namespace Go.Proofs.Ytekjkaoibcfgfaa
open Go.RowKit

/-- A call returns a value; what was there before is as it was; and Q. -/
def Does (f : FuncId) (args : Array Value) (w : World) (Q : Value → World → Prop) : Prop :=
  Calls Try.prog f args w fun e w' => ∃ v, e = .returned v ∧ Below w.heap.size w w' ∧ Q v w'

/-- A call returns just this value. -/
def Gives (f : FuncId) (args : Array Value) (w : World) (v : Value) : Prop :=
  Calls Try.prog f args w fun e w' => e = .returned v ∧ Below w.heap.size w w'

theorem Gives.does {f : FuncId} {args : Array Value} {w : World} {v : Value} (h : Gives f args w v) : Does f args w fun u _ => u = v :=
  h.mono fun _ _ ⟨he, hb⟩ => ⟨v, he, hb, rfl⟩
theorem Does.gives {f : FuncId} {args : Array Value} {w : World} {v : Value} (h : Does f args w fun u _ => u = v) : Gives f args w v :=
  h.mono fun _ _ ⟨_, he, hb, hv⟩ => ⟨hv ▸ he, hb⟩
theorem Does.weaken {f : FuncId} {args : Array Value} {w : World} {Q Q' : Value → World → Prop} (h : Does f args w Q) (hq : ∀ v w', Q v w' → Q' v w') : Does f args w Q' :=
  h.mono fun _ _ ⟨v, he, hb, hv⟩ => ⟨v, he, hb, hq _ _ hv⟩
theorem Gives.of {f : FuncId} {args : Array Value} {w : World} {v v' : Value} (h : Gives f args w v) (hv : v = v') : Gives f args w v' := hv ▸ h

/-- a function with a body is entered -/
theorem enters {f : FuncId} {fn : Func} {c : Code} (hf : Try.prog.funcs[f]? = some fn) (hname : (fn.name == "runtime.NumGoroutine") = false) (hb : fn.body = some c) (args : Array Value) (w : World) : (callFunc f args).run Try.prog w = .ok (.enter f args) w := by
  have hne : ¬ (fn.name == "runtime.NumGoroutine") = true := by rw [hname]; simp
  simp [callFunc, run_program, Sem.run_bind, Result.andThen, hf, hb]
  intro h; simp [h] at hname

theorem ret_of {v v' : Value} (h : v = v') : Ending.returned v = Ending.returned v' := by rw [h]

/-! ### rows in memory -/

/-- The cells of xs, k each, lie behind A. -/
def SlAt {α : Type} (enc : α → List Value) (k : Nat) (w : World) (A : Option Addr) (xs : List α) : Prop :=
  ∀ i x, xs[i]? = some x → ∃ b o, A = some ⟨b, o, none⟩ ∧ b < w.heap.size ∧ ∀ j v, (enc x)[j]? = some v → w.cell? ⟨b, o + i * k + j, none⟩ = some v

section
variable {α : Type} {enc : α → List Value} {k : Nat} {w w' : World} {A : Option Addr} {xs : List α}
theorem SlAt.below (h : SlAt enc k w A xs) (hb : Below w.heap.size w w') : SlAt enc k w' A xs := by
  intro i x hx
  obtain ⟨b, o, hA, hlt, hc⟩ := h i x hx
  exact ⟨b, o, hA, by have := hb.size; omega, fun j v hv => by rw [hb.cell hlt]; exact hc j v hv⟩
theorem SlAt.belowN {n : Nat} (h : SlAt enc k w A xs) (hb : Below n w w') (hn : w.heap.size ≤ n) : SlAt enc k w' A xs := h.below (hb.mono hn)
theorem SlAt.nil : SlAt enc k w A [] := fun i x hx => by simp at hx
theorem SlAt.at_ (h : SlAt enc k w A xs) {i : Nat} (hi : i < xs.length) :
    ∃ b o, A = some ⟨b, o, none⟩ ∧ b < w.heap.size ∧ ∀ j v, (enc xs[i])[j]? = some v → w.cell? ⟨b, o + i * k + j, none⟩ = some v := h i _ (by simp [hi])
theorem SlAt.take (h : SlAt enc k w A xs) (n : Nat) : SlAt enc k w A (xs.take n) := by
  intro i x hx
  rw [List.getElem?_take] at hx
  split at hx
  · exact h i x hx
  · cases hx
theorem SlAt.alloc (h : SlAt enc k w A xs) (o : Obj) : SlAt enc k (w.alloc o) A xs := h.below ((Below.refl _ _).alloc (Nat.le_refl _) o)
theorem SlAt.drew (h : SlAt enc k w A xs) : SlAt enc k w.drew A xs := h
theorem SlAt.drewN (h : SlAt enc k w A xs) (n : Nat) : SlAt enc k (w.drewN n) A xs := h
end

theorem below_drewN {B : Nat} {a w : World} (h : Below B a w) (n : Nat) : Below B a (w.drewN n) := ⟨h.os, h.tape, h.output, h.size, h.block⟩
theorem below_alloc (w : World) (o : Obj) : Below w.heap.size w (w.alloc o) := (Below.refl _ _).alloc (Nat.le_refl _) o
theorem bx_alloc {w w1 : World} (h : Below w.heap.size w w1) (o : Obj) : Below w.heap.size w (w1.alloc o) := h.alloc h.size o
theorem below_step {w w1 w2 : World} (h : Below w.heap.size w w1) (h' : Below w1.heap.size w1 w2) : Below w.heap.size w w2 := h.trans (h'.mono h.size)

/-- cells and marks behind a call, in the form that the walk takes -/
theorem bcell {W w1 : World} (hb : Below W.heap.size W w1) : (∀ b o, b < W.heap.size → w1.cell? ⟨b, o, none⟩ = W.cell? ⟨b, o, none⟩) ∧ (∀ b o, b < W.heap.size → w1.frozen? ⟨b, o, none⟩ = W.frozen? ⟨b, o, none⟩) :=
  ⟨fun b o h => hb.cell (p := ⟨b, o, none⟩) h, fun b o h => hb.frozen (p := ⟨b, o, none⟩) h⟩
theorem bcellN {n : Nat} {W w1 : World} (hb : Below n W w1) : (∀ b o, b < n → w1.cell? ⟨b, o, none⟩ = W.cell? ⟨b, o, none⟩) ∧ (∀ b o, b < n → w1.frozen? ⟨b, o, none⟩ = W.frozen? ⟨b, o, none⟩) :=
  ⟨fun b o h => hb.cell (p := ⟨b, o, none⟩) h, fun b o h => hb.frozen (p := ⟨b, o, none⟩) h⟩


/-- A block that is known whole. -/
def Blk (w : World) (g : Nat) (cs : Array Value) : Prop := ∃ t : TypeId, w.heap[g]? = some (.cells cs t (0, 0))
section
variable {w w' : World} {g : Nat} {cs : Array Value}
theorem Blk.lt (h : Blk w g cs) : g < w.heap.size := by
  obtain ⟨t, h⟩ := h
  exact (Array.getElem?_eq_some_iff.1 h).1
theorem Blk.cell (h : Blk w g cs) (i : Nat) : w.cell? ⟨g, i, none⟩ = cs[i]? := by obtain ⟨t, h⟩ := h; simp [World.cell?, h]
theorem Blk.frozen (h : Blk w g cs) (i : Nat) : w.frozen? ⟨g, i, none⟩ = false := by obtain ⟨t, h⟩ := h; simp [World.frozen?, h]
theorem Blk.new (w : World) (t : TypeId) (cs : Array Value) : Blk (w.alloc (.cells cs t)) w.heap.size cs := ⟨t, heap_alloc_new w _⟩
theorem Blk.new' {w : World} {t : TypeId} {cs : Array Value} {g : Nat} (h : g = w.heap.size) : Blk (w.alloc (.cells cs t)) g cs := h ▸ Blk.new w t cs
theorem Blk.alloc (h : Blk w g cs) (o : Obj) : Blk (w.alloc o) g cs := by obtain ⟨t, k⟩ := h; exact ⟨t, (Below.heap_alloc w o g (Blk.lt ⟨t, k⟩)).trans k⟩
theorem Blk.drew (h : Blk w g cs) : Blk w.drew g cs := h
theorem Blk.drewN (h : Blk w g cs) (n : Nat) : Blk (w.drewN n) g cs := h
theorem Blk.set_ (h : Blk w g cs) (i : Nat) (u : Value) : Blk (w.setCell ⟨g, i, none⟩ u) g (cs.setIfInBounds i u) := by
  obtain ⟨t, h⟩ := h
  refine ⟨t, ?_⟩
  simp [World.setCell, Array.getElem?_modify, h]
theorem Blk.far (h : Blk w g cs) {p : Addr} (hp : g ≠ p.block) (u : Value) : Blk (w.setCell p u) g cs := by obtain ⟨t, h⟩ := h; exact ⟨t, (Below.heap_setCell w p u g hp).trans h⟩
theorem Blk.below {B : Nat} (h : Blk w g cs) (hb : Below B w w') (hg : g < B) : Blk w' g cs := by obtain ⟨t, h⟩ := h; exact ⟨t, (hb.block g hg).trans h⟩
/-- behind a call -/
theorem Blk.past (h : Blk w g cs) (hb : Below w.heap.size w w') : Blk w' g cs := h.below hb h.lt
theorem Blk.cast {cs' : Array Value} (h : Blk w g cs) (e : cs = cs') : Blk w g cs' := e ▸ h
/-- the facts that the walk takes -/
theorem Blk.facts (h : Blk w g cs) : (∀ i, w.cell? ⟨g, i, none⟩ = cs[i]?) ∧ (∀ i, w.frozen? ⟨g, i, none⟩ = false) ∧ g < w.heap.size := ⟨h.cell, h.frozen, h.lt⟩
end

/-- For showing what a block holds in a world that is written out: step by step from outside. -/
def BlkE (w : World) (g : Nat) (p : Array Value → Prop) : Prop := ∃ cs, Blk w g cs ∧ p cs
section
variable {w : World} {g : Nat} {p : Array Value → Prop}
theorem blkE {cs : Array Value} (h : BlkE w g (· = cs)) : Blk w g cs := by obtain ⟨_, h, rfl⟩ := h; exact h
theorem BlkE.alloc (h : BlkE w g p) (o : Obj) : BlkE (w.alloc o) g p := by obtain ⟨cs, h, hp⟩ := h; exact ⟨cs, h.alloc o, hp⟩
theorem BlkE.drew (h : BlkE w g p) : BlkE w.drew g p := h
theorem BlkE.drewN (h : BlkE w g p) (n : Nat) : BlkE (w.drewN n) g p := h
theorem BlkE.far {b i : Nat} (h : BlkE w g p) (u : Value) (hp : g ≠ b) : BlkE (w.setCell ⟨b, i, none⟩ u) g p := by
  obtain ⟨cs, h, hq⟩ := h; exact ⟨cs, h.far (p := ⟨b, i, none⟩) hp u, hq⟩
theorem BlkE.set_ {b i : Nat} {u : Value} (h : BlkE w g fun cs => p (cs.setIfInBounds i u)) (hg : b = g) : BlkE (w.setCell ⟨b, i, none⟩ u) g p := by
  subst hg; obtain ⟨cs, h, hq⟩ := h; exact ⟨_, h.set_ i u, hq⟩
theorem BlkE.leaf {cs : Array Value} (h : Blk w g cs) (hp : p cs) : BlkE w g p := ⟨cs, h, hp⟩
theorem BlkE.new_ {t : TypeId} {cs : Array Value} (hg : g = w.heap.size) (hp : p cs) : BlkE (w.alloc (.cells cs t)) g p := ⟨cs, Blk.new' hg, hp⟩
end
theorem below_setCell {B : Nat} {a w : World} {b i : Nat} {u : Value} (h : Below B a w) (hp : B ≤ b) : Below B a (w.setCell ⟨b, i, none⟩ u) := h.setCell (p := ⟨b, i, none⟩) hp u
theorem below_drew {B : Nat} {a w : World} (h : Below B a w) : Below B a w.drew := h.drew
attribute [irreducible] Blk
end Go.Proofs.Ytekjkaoibcfgfaa
