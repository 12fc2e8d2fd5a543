/- Rows that a function gathers by append: their values in plain Lean. -/
import Derived.Test.YtekjkaoibcfgfaaLawR
import Derived.Test.YtekjkaoibcfgfaaRng
import Derived.Test.YtekjkaoibcfgfaaSpec
import Derived.Maps.OwnIn
namespace Go.Proofs.Ytekjkaoibcfgfaa
open Go.RowKit

/-- v is a slice of the xs, which lie in a row of the function's own (blocks from base on), or is nil with none. -/
def Row {α : Type} (enc : α → List Value) (k : Nat) (e : TypeId) (base : Nat) (w : World) (v : Value) (xs : List α) : Prop :=
  w.ownsRow base e k v xs.length (xs.flatMap enc)

section
variable {α : Type} {enc : α → List Value} {k : Nat} {e : TypeId} {base : Nat} {w w' : World} {v : Value} {xs : List α}

theorem Row.nil : Row enc k e base w (.slice none 0 0) ([] : List α) := World.ownsRow_nil _ _ _ _
theorem Row.same (h : Row enc k e base w v xs) (hb : ∀ g, v.ownBlock = some g → w'.heap[g]? = w.heap[g]?) : Row enc k e base w' v xs := by
  obtain ⟨h1, h2⟩ := h
  refine ⟨h1, ?_⟩
  rcases h2 with h2 | ⟨g, cap, cur, rfl, h3, h4, h5⟩
  · exact .inl h2
  · exact .inr ⟨g, cap, cur, rfl, h3, (hb g rfl).trans h4, h5⟩
theorem Row.lt (h : Row enc k e base w v xs) : ∀ g, v.ownBlock = some g → base ≤ g ∧ g < w.heap.size := World.ownsRow.lt h
theorem Row.off {lo hi : Nat} (h : Row enc k e base w v xs) (ho : Off lo hi w w') (hb : hi ≤ base) : Row enc k e base w' v xs :=
  h.same fun g hg => ho.block g (h.lt g hg).2 (by have := (h.lt g hg).1; omega)
theorem Row.alloc (h : Row enc k e base w v xs) (o : Obj) : Row enc k e base (w.alloc o) v xs := h.same fun g hg => Below.heap_alloc _ _ _ (h.lt g hg).2
theorem Row.setCell (h : Row enc k e base w v xs) {p : Addr} (u : Value) (hp : p.block < base) : Row enc k e base (w.setCell p u) v xs :=
  h.same fun g hg => Below.heap_setCell _ _ _ _ (by have := (h.lt g hg).1; omega)
theorem Row.setCell' (h : Row enc k e base w v xs) {p : Addr} (u : Value) (hp : v.ownBlock ≠ some p.block) : Row enc k e base (w.setCell p u) v xs :=
  h.same fun g hg => Below.heap_setCell _ _ _ _ (by rintro rfl; exact hp hg)
theorem Row.drew (h : Row enc k e base w v xs) : Row enc k e base w.drew v xs := h
/-- behind a call -/
theorem Row.past (h : Row enc k e base w v xs) (hb : Below w.heap.size w w') : Row enc k e base w' v xs := h.same fun g hg => hb.block g (h.lt g hg).2
theorem Row.form (h : Row enc k e base w v xs) : ∃ A c, v = .slice A xs.length c := by
  obtain ⟨_, h2⟩ := h
  rcases h2 with ⟨rfl, h⟩ | ⟨g, cap, cur, rfl, _⟩
  · exact ⟨none, 0, by rw [h]⟩
  · exact ⟨_, _, rfl⟩

theorem Row.own_ne (h : Row enc k e base w v xs) {g : Nat} (hg : g < base) : some g ≠ v.ownBlock := fun hh => by have := (h.lt g hh.symm).1; omega
theorem Blk.grown {g : Nat} {cs : Array Value} {row : Option Nat} (h : Blk w g cs) (hg : w.grownBy w' row) (hn : some g ≠ row) : Blk w' g cs := by
  have hl := h.lt
  unfold Blk at h ⊢
  obtain ⟨t, h⟩ := h
  exact ⟨t, (hg.block g hl hn).trans h⟩
theorem below_grown {n : Nat} {w0 : World} {row : Option Nat} (h : Below n w0 w) (hg : w.grownBy w' row) (hn : ∀ g, row = some g → n ≤ g) (hs : n ≤ w.heap.size) : Below n w0 w' :=
  ⟨hg.os.trans h.os, hg.tape.trans h.tape, hg.output.trans h.output, Nat.le_trans h.size hg.size, fun i hi => (hg.block i (by omega) (fun e => by have := hn i e.symm; omega)).trans (h.block i hi)⟩

theorem flat_at (henc : ∀ x, (enc x).length = k) : ∀ (xs : List α) (i : Nat) (x : α), xs[i]? = some x → ∀ j u, (enc x)[j]? = some u → (xs.flatMap enc)[i * k + j]? = some u
  | [], i, x, h, _, _, _ => by simp at h
  | y :: r, 0, x, h, j, u, hj => by
    simp at h; subst h
    simp only [List.flatMap_cons, Nat.zero_mul, Nat.zero_add]
    rw [List.getElem?_append_left (by have := List.getElem?_eq_some_iff.1 hj; exact this.1)]
    exact hj
  | y :: r, i + 1, x, h, j, u, hj => by
    simp only [List.flatMap_cons]
    have hl := henc y
    rw [List.getElem?_append_right (by rw [hl, Nat.succ_mul]; omega)]
    have := flat_at henc r i x (by simpa using h) j u hj
    rw [show (i + 1) * k + j - (enc y).length = i * k + j by rw [hl, Nat.succ_mul]; omega]
    exact this

theorem Row.slAt (h : Row enc k e base w v xs) (henc : ∀ x, (enc x).length = k) : ∃ A c, v = .slice A xs.length c ∧ SlAt enc k w A xs := by
  obtain ⟨h1, h2⟩ := h
  rcases h2 with ⟨rfl, h⟩ | ⟨g, cap, cur, rfl, h3, h4, h5, h6, h7, h8⟩
  · refine ⟨none, 0, by rw [h], ?_⟩
    intro i x hx
    rw [List.eq_nil_of_length_eq_zero h] at hx; simp at hx
  · refine ⟨_, _, rfl, fun i x hx => ⟨g, 0, rfl, (Array.getElem?_eq_some_iff.1 h4).1, fun j u hj => ?_⟩⟩
    have hf := flat_at henc xs i x hx j u hj
    rw [← h8] at hf
    simp only [World.cell?, h4, Nat.zero_add]
    rw [List.getElem?_take] at hf
    split at hf
    · simpa using hf
    · cases hf

/-- the cells of one element behind an address -/
theorem Row.snoc {x : α} (h : w.ownsRow base e k v (xs.length + 1) (xs.flatMap enc ++ enc x)) : Row enc k e base w v (xs ++ [x]) := by
  unfold Row
  simpa using h
end

theorem flat_inv {α : Type} {enc : α → List Value} {k : Nat} (henc : ∀ x, (enc x).length = k) : ∀ (xs : List α) (j : Nat) (u : Value), (xs.flatMap enc)[j]? = some u → ∃ i x l, xs[i]? = some x ∧ (enc x)[l]? = some u ∧ j = i * k + l
  | [], j, u, h => by simp at h
  | y :: r, j, u, h => by
    simp only [List.flatMap_cons] at h
    by_cases hj : j < (enc y).length
    · rw [List.getElem?_append_left hj] at h
      exact ⟨0, y, j, by simp, h, by simp⟩
    · rw [List.getElem?_append_right (by omega)] at h
      obtain ⟨i, x, l, h1, h2, h3⟩ := flat_inv henc r _ u h
      have := henc y
      exact ⟨i + 1, x, l, by simpa using h1, h2, by rw [Nat.succ_mul]; omega⟩

theorem len_sp (x : Sp) : (encSp x).length = 2 := rfl
theorem len_i (x : Int) : (encI x).length = 1 := rfl
theorem len_st (x : St) : (encSt x).length = 9 := rfl

section
variable {α : Type} {enc : α → List Value} {k : Nat} {e : TypeId} {P : Program}
/-- What is known of the elements of a slice type. -/
structure Elem (P : Program) (t e : TypeId) (k bytes : Nat) (z : Value) : Prop where
  under : P.underlying t = some (.slice e)
  info : ∃ i, P.info? e = some i ∧ i.zero = some z ∧ i.size = k ∧ i.bytes = bytes
  zs : z.cells.size = k
  pos : 0 < k

/-- 'out = append(out, x)': x's cells lie in a block that is known. -/
theorem list_append {w : World} {ops : Array Oper} {rest : List Oper} {o : Oper} {a : Act} {Q : Exit → Act → World → Prop} {t : TypeId} {bytes : Nat} {z : Value} (hE : Elem P t e k bytes z) (hg : o.guard = none) (s x : Operand)
    (hop : o.op = Op.call { callee := Callee.builtin Builtin.append, args := #[s, x], argTypes := #[t, t] }) {base : Nat} {v : Value} {xs : List α} (hv : a.eval s = v) (hr : Row enc k e base w v xs) (y : α) (hy : (enc y).length = k) (hy1 : ∀ u ∈ enc y, u.oneCell' = true)
    {g : Nat} (hx : a.eval x = .slice (some ⟨g, 0, none⟩) 1 1) (hb : Blk w g (enc y).toArray) (h1 : xs.length + 1 ≤ maxLen) (h2 : (xs.length + 1) * bytes ≤ 140737488355328) (h3 : base ≤ w.heap.size)
    (h : ∀ v' w', Row enc k e base w' v' (xs ++ [y]) → w.grownBy w' v.ownBlock → wpList P ops Q rest (a.put o.dst v') w') : wpList P ops Q (o :: rest) a w := by
  obtain ⟨i, i1, i2, i3, i4⟩ := hE.info
  refine wpList_append_own_at w hg s x t hop base e i z k bytes hE.under i1 i2 i3 i4 hE.zs hE.pos v xs.length (xs.flatMap enc) hv hr ⟨g, 0, none⟩ 1 1 (enc y) hx (by simpa using hy) ?_ hy1 h1 h2 h3 ?_
  · intro j u hj
    have e1 : (⟨g, 0, none⟩ : Addr).add j = ⟨g, j, none⟩ := by simp only [Addr.add, Nat.zero_add]; split <;> simp_all
    rw [e1, hb.cell]; simpa using hj
  · intro v' w' r1 r2 _ _
    exact h v' w' (Row.snoc r1) r2
theorem listIn_append {F : Fence} {nF : Nat} {w : World} {ops : Array Oper} {rest : List Oper} {o : Oper} {a : Act} {Q : Exit → Act → World → Prop} {t : TypeId} {bytes : Nat} {z : Value} (hE : Elem P t e k bytes z) (hg : o.guard = none) (s x : Operand)
    (hop : o.op = Op.call { callee := Callee.builtin Builtin.append, args := #[s, x], argTypes := #[t, t] }) {base : Nat} {v : Value} {xs : List α} (hv : a.eval s = v) (hr : Row enc k e base w v xs) (y : α) (hy : (enc y).length = k) (hy1 : ∀ u ∈ enc y, u.oneCell' = true)
    {g : Nat} (hx : a.eval x = .slice (some ⟨g, 0, none⟩) 1 1) (hb : Blk w g (enc y).toArray) (h1 : xs.length + 1 ≤ maxLen) (h2 : (xs.length + 1) * bytes ≤ 140737488355328) (h3 : base ≤ w.heap.size)
    (h : ∀ v' w', Row enc k e base w' v' (xs ++ [y]) → w.grownBy w' v.ownBlock → wpListIn F nF P ops Q rest (a.put o.dst v') w') : wpListIn F nF P ops Q (o :: rest) a w := by
  obtain ⟨i, i1, i2, i3, i4⟩ := hE.info
  refine wpListIn_append_own_at w hg s x t hop base e i z k bytes hE.under i1 i2 i3 i4 hE.zs hE.pos v xs.length (xs.flatMap enc) hv hr ⟨g, 0, none⟩ 1 1 (enc y) hx (by simpa using hy) ?_ hy1 h1 h2 h3 ?_
  · intro j u hj
    have e1 : (⟨g, 0, none⟩ : Addr).add j = ⟨g, j, none⟩ := by simp only [Addr.add, Nat.zero_add]; split <;> simp_all
    rw [e1, hb.cell]; simpa using hj
  · intro v' w' r1 r2 _ _
    exact h v' w' (Row.snoc r1) r2
end

theorem elem_sp : Elem Try.prog 27 34 2 16 (.agg #[.int .i64 0, .int .i64 0]) :=
  ⟨by simp [go_sem], info_parts (by kernel_rfl), by rfl, by decide⟩
theorem elem_i : Elem Try.prog 42 3 1 8 (.int .i64 0) :=
  ⟨by simp [go_sem], info_parts (by kernel_rfl), by rfl, by decide⟩
theorem one_sp {x : Sp} : ∀ u ∈ encSp x, u.oneCell' = true := by simp [encSp, Value.oneCell']
theorem one_st (x : St) : ∀ u ∈ encSt x, u.oneCell' = true := by simp [encSt, Value.oneCell']
theorem one_me (x : Me) : ∀ u ∈ encMe x, u.oneCell' = true := by simp [encMe, Value.oneCell']
theorem one_i {x : Int} : ∀ u ∈ encI x, u.oneCell' = true := by simp [encI, Value.oneCell']
end Go.Proofs.Ytekjkaoibcfgfaa
