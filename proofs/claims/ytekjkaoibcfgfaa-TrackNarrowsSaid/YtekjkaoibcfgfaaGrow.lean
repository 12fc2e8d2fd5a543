/- A region whose order is left open, whose operations read, and whose calls return plain values and may make memory: one walk in the order of the text. -/
import Derived.Test.YtekjkaoibcfgfaaBase
namespace Go.Proofs.Ytekjkaoibcfgfaa
open Go.RowKit

/-- A world that has grown out of w. -/
structure Grow (w : World) where
  world : World
  below : Below w.heap.size w world

instance {w : World} : Nonempty (Grow w) := ⟨⟨w, Below.refl _ _⟩⟩

theorem Grow.cell_at {w : World} (g : Grow w) {a : Addr} (h : (w.cell? a).isSome = true) : g.world.cell? a = w.cell? a := by
  obtain ⟨u, hu⟩ := Option.isSome_iff_exists.1 h
  exact g.below.cell (World.block_lt_of_cell? w a hu)
attribute [go_sem] Grow.cell_at

theorem wp_region_grow {P : Program} {id : Nat} {Q : Exit → Act → World → Prop} {a : Act} {w : World} {l : List Oper} (hm : P.follows .mixedOrders = true) (hB : Region.lexB .any l.toArray = true)
    (h : wpQuiet P l.toArray (fun w' => ∃ g : Grow w, w' = g.world) (fun a' => ∀ w', (∃ g : Grow w, w' = g.world) → Q .normal a' w') l a) : (Code.region id l.toArray true).wp P Q a w :=
  wp_region_quiet (C := fun w' => ∃ g : Grow w, w' = g.world) hm hB ⟨⟨w.drew, (Below.refl _ _).drew⟩, rfl⟩ (by simpa using h)

theorem grow_nil {P : Program} {w : World} {ops : Array Oper} {K : Act → World → Prop} {a : Act} (h : ∀ w', Below w.heap.size w w' → K a w') :
    wpQuiet P ops (fun w' => ∃ g : Grow w, w' = g.world) (fun a' => ∀ w', (∃ g : Grow w, w' = g.world) → K a' w') [] a :=
  wpQuiet_nil fun _ ⟨g, hg⟩ => hg ▸ h g.world g.below

theorem grow_call {f : FuncId} {args : Array Value} {w : World} {v : Value} {g : Grow w} (h : Gives f args g.world v) :
    Calls Try.prog f args g.world fun e w' => e = .returned v ∧ ∃ g' : Grow w, w' = g'.world :=
  h.mono fun _ w' ⟨he, hb⟩ => ⟨he, ⟨w', below_step g.below hb⟩, rfl⟩
end Go.Proofs.Ytekjkaoibcfgfaa
