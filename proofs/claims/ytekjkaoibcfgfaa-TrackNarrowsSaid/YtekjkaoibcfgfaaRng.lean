/- A range over a function: one law for the caller, one form of contract for the iterator, which keeps state in blocks of its own. -/
import Derived.Test.YtekjkaoibcfgfaaBase
import Derived.RangeFuncCalls
import Derived.RangeFuncLeaves
import Derived.Shelf.Abstract
import Derived.OwnWalkIn
import Derived.TacticsInMore
import Derived.LoopNIn
import Derived.LoopIn
namespace Go.Proofs.Ytekjkaoibcfgfaa
open Go.RowKit

/-- All blocks but those from lo to hi are as they were. -/
structure Off (lo hi : Nat) (W W' : World) : Prop where
  os : W'.os = W.os
  tape : W'.tape = W.tape
  output : W'.output = W.output
  size : W.heap.size ≤ W'.heap.size
  block : ∀ k, k < W.heap.size → ¬ (lo ≤ k ∧ k < hi) → W'.heap[k]? = W.heap[k]?

/-- The blocks from lo to hi are as they were. -/
structure On (lo hi : Nat) (W W' : World) : Prop where
  os : W'.os = W.os
  tape : W'.tape = W.tape
  output : W'.output = W.output
  size : W.heap.size ≤ W'.heap.size
  block : ∀ k, lo ≤ k → k < hi → W'.heap[k]? = W.heap[k]?

theorem Off.refl (lo hi : Nat) (W : World) : Off lo hi W W := ⟨rfl, rfl, rfl, Nat.le_refl _, fun _ _ _ => rfl⟩
theorem Off.trans {lo hi : Nat} {A B C : World} (h : Off lo hi A B) (k : Off lo hi B C) : Off lo hi A C :=
  ⟨k.os.trans h.os, k.tape.trans h.tape, k.output.trans h.output, Nat.le_trans h.size k.size, fun i hi' hn => (k.block i (Nat.lt_of_lt_of_le hi' h.size) hn).trans (h.block i hi' hn)⟩
theorem Off.wider {lo hi lo' hi' : Nat} {A B : World} (h : Off lo hi A B) (h1 : lo' ≤ lo) (h2 : hi ≤ hi') : Off lo' hi' A B :=
  ⟨h.os, h.tape, h.output, h.size, fun i hi hn => h.block i hi (by omega)⟩
theorem On.refl (lo hi : Nat) (W : World) : On lo hi W W := ⟨rfl, rfl, rfl, Nat.le_refl _, fun _ _ _ => rfl⟩
theorem On.trans {lo hi : Nat} {A B C : World} (h : On lo hi A B) (k : On lo hi B C) : On lo hi A C :=
  ⟨k.os.trans h.os, k.tape.trans h.tape, k.output.trans h.output, Nat.le_trans h.size k.size, fun i h1 h2 => (k.block i h1 h2).trans (h.block i h1 h2)⟩
theorem On.less {lo hi lo' hi' : Nat} {A B : World} (h : On lo hi A B) (h1 : lo ≤ lo') (h2 : hi' ≤ hi) : On lo' hi' A B :=
  ⟨h.os, h.tape, h.output, h.size, fun i h3 h4 => h.block i (by omega) (by omega)⟩
theorem Below.off {n lo hi : Nat} {W W' : World} (h : Below n W W') (hlo : ∀ k, k < W.heap.size → ¬ (lo ≤ k ∧ k < hi) → k < n) : Off lo hi W W' :=
  ⟨h.os, h.tape, h.output, h.size, fun k hk hn => h.block k (hlo k hk hn)⟩
theorem off_alloc (lo hi : Nat) (W : World) (o : Obj) : Off lo hi W (W.alloc o) := ⟨rfl, rfl, rfl, by simp, fun k hk _ => Below.heap_alloc _ _ _ hk⟩
theorem off_setCell {lo hi : Nat} (W : World) {p : Addr} (v : Value) (h1 : lo ≤ p.block) (h2 : p.block < hi) : Off lo hi W (W.setCell p v) :=
  ⟨rfl, rfl, rfl, by simp, fun k _ hn => Below.heap_setCell _ _ _ _ (by rintro rfl; exact hn ⟨h1, h2⟩)⟩
theorem off_putObj {lo hi : Nat} (W : World) {p : Nat} (o : Obj) (h1 : lo ≤ p) (h2 : p < hi) : Off lo hi W (W.putObj p o) :=
  ⟨rfl, rfl, rfl, by simp, fun k _ hn => World.putObj_heap_other (by rintro rfl; exact hn ⟨h1, h2⟩)⟩
theorem on_alloc {lo hi : Nat} (W : World) (o : Obj) (h : hi ≤ W.heap.size) : On lo hi W (W.alloc o) := ⟨rfl, rfl, rfl, by simp, fun k _ hk => Below.heap_alloc _ _ _ (by omega)⟩
theorem on_setCell {lo hi : Nat} (W : World) {p : Addr} (v : Value) (h : ¬ (lo ≤ p.block ∧ p.block < hi)) : On lo hi W (W.setCell p v) :=
  ⟨rfl, rfl, rfl, by simp, fun k h1 h2 => Below.heap_setCell _ _ _ _ (by rintro rfl; exact h ⟨h1, h2⟩)⟩
theorem on_below {lo hi n : Nat} {W W' : World} (h : Below n W W') (hn : hi ≤ n) : On lo hi W W' := ⟨h.os, h.tape, h.output, h.size, fun k _ hk => h.block k (by omega)⟩
theorem on_grown {lo hi : Nat} {W W' : World} {row : Option Nat} (h : W.grownBy W' row) (hs : hi ≤ W.heap.size) (hr : ∀ k, row = some k → ¬ (lo ≤ k ∧ k < hi)) : On lo hi W W' :=
  ⟨h.os, h.tape, h.output, h.size, fun k h1 h2 => h.block k (by omega) (fun e => hr k e.symm ⟨h1, h2⟩)⟩
theorem below_of_off {lo hi n : Nat} {W W' : World} (h : Off lo hi W W') (h1 : n ≤ lo) (h2 : n ≤ W.heap.size) : Below n W W' :=
  ⟨h.os, h.tape, h.output, h.size, fun k hk => h.block k (by omega) (by omega)⟩

/-- What is asked of an iterator: whatever J says of all but the iterator's own m blocks, round by round. -/
def Iter (P : Program) (gf : FuncId) (lb : Array Value) (m N : Nat) (args : Nat → Array Value) (Data : World → Prop) : Prop :=
  ∀ (l : Nat) (J Jx : Nat → World → Prop) (W : World),
    (∀ k W1 W2, J k W1 → Off W.heap.size (W.heap.size + m) W1 W2 → J k W2) →
    (∀ k W1 W2, Jx k W1 → Off W.heap.size (W.heap.size + m) W1 W2 → Jx k W2) →
    (∀ k W1, J k W1 → Data W1) →
    (∀ k W1, k < N → J k W1 → W.heap.size + m ≤ W1.heap.size → YieldAt Fence.wide 8 P l (args k) W1 fun e W2 =>
      (e = .returned (.bool true) ∧ J (k + 1) W2 ∧ On W.heap.size (W.heap.size + m) W1 W2) ∨ (e = .returned (.bool false) ∧ Jx (k + 1) W2 ∧ On W.heap.size (W.heap.size + m) W1 W2)) →
    J 0 W →
    CallsIn Fence.wide 9 P gf (#[.func (.yield l) #[] #[]] ++ lb) W fun e W' => (∃ v, e = .returned v) ∧ (J N W' ∨ ∃ k, k < N ∧ Jx (k + 1) W')

/-- How the body of a round is left. -/
def roundOut (lo hi : Nat) (I : Nat → World → Prop) (Ix : Code → Nat → World → Prop) (k : Nat) (W : World) : Exit → Act → World → Prop
  | .normal, _, W' => On lo hi W W' ∧ I k W'
  | .ret, _, W' => On lo hi W W' ∧ Ix .ret k W'
  | .exit id, _, W' => On lo hi W W' ∧ Ix (.exit id) k W'
  | .goto t, _, W' => On lo hi W W' ∧ Ix (.goto t) k W'
  | .panic _, _, _ => False
  | .outgrown, _, _ => False

theorem range_law {P : Program} {g : Operand} {ps : Array Tmp} {assign body : Code} {Q : Exit → Act → World → Prop} {a : Act} {w : World}
    {gf : Nat} {lb : Array Value} (hg : a.eval g = .func (.func gf) #[] lb) (eg : ∀ args w, (callFunc gf args).run P w = .ok (.enter gf args) w)
    {m N : Nat} {args : Nat → Array Value} {Data : World → Prop} (hit : Iter P gf lb m N args Data) (hps : ∀ k, (args k).size = ps.size)
    (I : Nat → World → Prop) (Ix : Code → Nat → World → Prop)
    (hI : ∀ k W1 W2, I k W1 → Off w.heap.size (w.heap.size + 2 + m) W1 W2 → I k W2)
    (hIx : ∀ c k W1 W2, Ix c k W1 → Off w.heap.size (w.heap.size + 2 + m) W1 W2 → Ix c k W2)
    (hD : ∀ k W, I k W → Data W) (h0 : I 0 w)
    (hround : ∀ (l k : Nat) (W : World), k < N → I k W → w.heap.size + 2 + m ≤ W.heap.size → ∀ K : Act → World → Prop,
      (∀ (a₁ : Act) (W1 : World), On w.heap.size (w.heap.size + 2 + m) W W1 →
        (∀ W2, Off w.heap.size (w.heap.size + 2 + m) W1 W2 → body.wpIn (Fence.wide.inRound l) 8 P (roundOut w.heap.size (w.heap.size + 2 + m) I Ix (k + 1) W2) a₁ W2) → K a₁ W1) →
      assign.wpIn (Fence.wide.inRound l) 8 P (Exit.then K (fun _ _ _ => False)) { tmps := (ps.zip (args k)).foldl (fun t (p, v) => t.setIfInBounds p v) a.tmps, defers := [] } W)
    (hdone : ∀ W, I N W → W.heap[w.heap.size]? = some (.deferred (some [])) → w.heap.size ≤ W.heap.size → Q .normal { a with defers := { target := .collected w.heap.size, args := #[] } :: a.defers } W)
    (hstop : ∀ (c : Code) (k : Nat) (W : World), k < N → Ix c (k + 1) W → W.heap[w.heap.size]? = some (.deferred (some [])) → w.heap.size ≤ W.heap.size → c.wpIn Fence.wide 10 P Q { a with defers := { target := .collected w.heap.size, args := #[] } :: a.defers } W) :
    (Code.rangeFunc g ps assign body).wpIn Fence.wide 10 P Q a w := by
  refine wpIn_rangeFunc ?_
  intro fn _
  obtain ⟨rec, hrec⟩ : ∃ rec : LoopState → Option Code → Loop, rec = fun st pe => { state := st, pending := pe, fn, tmps := a.tmps, params := ps, assign, body, defers := w.heap.size } := ⟨_, rfl⟩
  obtain ⟨W1, hW1⟩ : ∃ W1, (w.alloc (.deferred (some []))).alloc (.loop (rec .ready none)) = W1 := ⟨_, rfl⟩
  have hs1 : W1.heap.size = w.heap.size + 2 := by rw [← hW1]; simp
  have hL1 : W1.heap[w.heap.size + 1]? = some (.loop (rec .ready none)) := by
    rw [← hW1]; have := World.alloc_heap_new (w.alloc (.deferred (some []))) (.loop (rec .ready none)); rwa [World.size_alloc] at this
  have hK1 : W1.heap[w.heap.size]? = some (.deferred (some [])) := by
    rw [← hW1]; exact (Below.heap_alloc _ _ _ (by simp)).trans (World.alloc_heap_new w _)
  have hI1 : I 0 W1 := by rw [← hW1]; exact hI _ _ _ h0 ((off_alloc _ _ _ _).trans (off_alloc _ _ _ _))
  refine ⟨w.heap.size + 1, [{ target := .collected w.heap.size, args := #[] }], W1, { target := .fn (.func gf) lb, args := #[.func (.yield (w.heap.size + 1)) #[] #[]] }, W1, gf,
    #[.func (.yield (w.heap.size + 1)) #[] #[]] ++ lb, W1, ?_, ?_, ?_, ?_, fun h => by simp [Fence.wide] at h, ?_⟩
  · rw [← hW1, hrec]; exact run_enterLoop_outer _ _ _ _ _
  · simp only [resolve, hg]
    simp [go_sem]
  · intro f' _; trivial
  · simp [invoke, go_sem, eg]
  · -- the record, and the block for deferred calls, lie beside what I says
    have keep : ∀ {A B : World} {k : Nat} {o : Obj}, A.heap[k]? = some o → k < w.heap.size + 2 → Off W1.heap.size (W1.heap.size + m) A B → B.heap[k]? = some o :=
      fun {A B k o} h hk hab => (hab.block k (Array.getElem?_eq_some_iff.1 h).1 (by omega)).trans h
    refine (hit (w.heap.size + 1)
      (fun k W => I k W ∧ W.heap[w.heap.size + 1]? = some (.loop (rec .ready none)) ∧ W.heap[w.heap.size]? = some (.deferred (some [])))
      (fun k W => ∃ c, Ix c k W ∧ W.heap[w.heap.size + 1]? = some (.loop (rec .done (some c))) ∧ W.heap[w.heap.size]? = some (.deferred (some [])))
      W1
      (fun k A B h hab => ⟨hI _ _ _ h.1 (hab.wider (by omega) (by omega)), keep h.2.1 (by omega) hab, keep h.2.2 (by omega) hab⟩)
      (fun k A B ⟨c, h⟩ hab => ⟨c, hIx _ _ _ _ h.1 (hab.wider (by omega) (by omega)), keep h.2.1 (by omega) hab, keep h.2.2 (by omega) hab⟩)
      (fun k A h => hD k A h.1)
      ?_ ⟨hI1, hL1, hK1⟩).mono ?_
    · rintro k W hk ⟨hi, hl, hd⟩ hsz
      rw [hs1] at hsz
      have hy := run_yield (P := P) (args := args k) hl (by rw [hrec]; simp [hps])
      rw [hrec] at hy
      refine ⟨fn, _, assign, body, hy, roundIn_of_wpIn trivial (hround _ k W hk hi (by omega) _ ?_)⟩
      intro a₁ W2 hon hbody
      have hl2 : W2.heap[w.heap.size + 1]? = some (.loop (rec .ready none)) := (hon.block _ (by omega) (by omega)).trans hl
      have hd2 : W2.heap[w.heap.size]? = some (.deferred (some [])) := (hon.block _ (by omega) (by omega)).trans hd
      have hlt : w.heap.size + 1 < W2.heap.size := (Array.getElem?_eq_some_iff.1 hl2).1
      refine ⟨_, run_beginRound hl2 (by rw [hrec]), ?_⟩
      refine wpIn_mono (hbody _ (off_putObj W2 _ (by omega) (by omega))) ?_
      have hl3 : (W2.putObj (w.heap.size + 1) (.loop { rec .ready none with state := .busy })).heap[w.heap.size + 1]? = some (.loop { rec .ready none with state := .busy }) := World.putObj_heap_same hlt
      have hd3 : (W2.putObj (w.heap.size + 1) (.loop { rec .ready none with state := .busy })).heap[w.heap.size]? = some (.deferred (some [])) := (World.putObj_heap_other (by omega)).trans hd2
      have hon3 : On W1.heap.size (W1.heap.size + m) W (W2.putObj (w.heap.size + 1) (.loop { rec .ready none with state := .busy })) :=
        On.trans (B := W2) (hon.less (by omega) (by omega)) ⟨rfl, rfl, rfl, by simp, fun i h1 h2 => World.putObj_heap_other (by omega)⟩
      have fin : ∀ (jump : Option Code) (W3 : World), On w.heap.size (w.heap.size + 2 + m) (W2.putObj (w.heap.size + 1) (.loop { rec .ready none with state := .busy })) W3 →
          (Instr.endRound (w.heap.size + 1) jump).run P W3 = .ok (.bool jump.isNone) (W3.putObj (w.heap.size + 1) (.loop (rec (if jump.isNone then .ready else .done) jump))) ∧
          (W3.putObj (w.heap.size + 1) (.loop (rec (if jump.isNone then .ready else .done) jump))).heap[w.heap.size + 1]? = some (.loop (rec (if jump.isNone then .ready else .done) jump)) ∧
          (W3.putObj (w.heap.size + 1) (.loop (rec (if jump.isNone then .ready else .done) jump))).heap[w.heap.size]? = some (.deferred (some [])) ∧
          On W1.heap.size (W1.heap.size + m) W (W3.putObj (w.heap.size + 1) (.loop (rec (if jump.isNone then .ready else .done) jump))) := fun jump W3 h3 => by
        have hl4 := (h3.block (w.heap.size + 1) (by omega) (by omega)).trans hl3
        have := run_endRound (P := P) jump hl4
        rw [hrec] at this ⊢
        refine ⟨this, World.putObj_heap_same (Array.getElem?_eq_some_iff.1 hl4).1, (World.putObj_heap_other (by omega)).trans ((h3.block _ (by omega) (by omega)).trans hd3), ?_⟩
        rw [hrec] at hon3
        exact On.trans (B := W3) (hon3.trans ((hrec ▸ h3).less (by omega) (by omega))) ⟨rfl, rfl, rfl, by simp, fun i h1 h2 => World.putObj_heap_other (by omega)⟩
      rintro e a3 W3 hp
      cases e with
      | normal =>
        obtain ⟨hk3, hi3⟩ := hp
        obtain ⟨hr, hl4, hk4, hon4⟩ := fin none W3 hk3
        exact ⟨_, _, hr, .inl ⟨rfl, ⟨hI _ _ _ hi3 (off_putObj W3 _ (by omega) (by omega)), hl4, hk4⟩, hon4⟩⟩
      | ret =>
        obtain ⟨hk3, hi3⟩ := hp
        obtain ⟨hr, hl4, hk4, hon4⟩ := fin (some .ret) W3 hk3
        exact ⟨_, _, hr, .inr ⟨rfl, ⟨.ret, hIx _ _ _ _ hi3 (off_putObj W3 _ (by omega) (by omega)), hl4, hk4⟩, hon4⟩⟩
      | exit id =>
        obtain ⟨hk3, hi3⟩ := hp
        obtain ⟨hr, hl4, hk4, hon4⟩ := fin (some (.exit id)) W3 hk3
        exact ⟨_, _, hr, .inr ⟨rfl, ⟨.exit id, hIx _ _ _ _ hi3 (off_putObj W3 _ (by omega) (by omega)), hl4, hk4⟩, hon4⟩⟩
      | goto t =>
        obtain ⟨hk3, hi3⟩ := hp
        obtain ⟨hr, hl4, hk4, hon4⟩ := fin (some (.goto t)) W3 hk3
        exact ⟨_, _, hr, .inr ⟨rfl, ⟨.goto t, hIx _ _ _ _ hi3 (off_putObj W3 _ (by omega) (by omega)), hl4, hk4⟩, hon4⟩⟩
      | panic ch => exact hp.elim
      | outgrown => exact hp.elim
    · rintro e W2 ⟨⟨v, rfl⟩, (⟨hi, hl, hk⟩ | ⟨k, hk, c, hi, hl, hd⟩)⟩
      · exact ⟨none, _, by have := run_endLoop (P := P) hl (by rw [hrec]; simp); rw [hrec] at this; exact this, hdone _ (hI _ _ _ hi (off_putObj _ _ (by omega) (by omega))) ((World.putObj_heap_other (by omega)).trans hk) (by have := (Array.getElem?_eq_some_iff.1 hk).1; simp; omega)⟩
      · exact ⟨some c, _, by have := run_endLoop (P := P) hl (by rw [hrec]; simp); rw [hrec] at this; exact this, hstop c k _ hk (hIx _ _ _ _ hi (off_putObj _ _ (by omega) (by omega))) ((World.putObj_heap_other (by omega)).trans hd) (by have := (Array.getElem?_eq_some_iff.1 hd).1; simp; omega)⟩
theorem Blk.off {lo hi g : Nat} {W W' : World} {cs : Array Value} (h : Blk W g cs) (ho : Off lo hi W W') (hg : g < lo) : Blk W' g cs := by
  have hl := h.lt
  unfold Blk at h ⊢
  obtain ⟨t, h⟩ := h
  exact ⟨t, (ho.block g hl (by omega)).trans h⟩
theorem Blk.off' {lo hi g : Nat} {W W' : World} {cs : Array Value} (h : Blk W g cs) (ho : Off lo hi W W') (hg : hi ≤ g) : Blk W' g cs := by
  have hl := h.lt
  unfold Blk at h ⊢
  obtain ⟨t, h⟩ := h
  exact ⟨t, (ho.block g hl (by omega)).trans h⟩
theorem below_offs {n lo hi : Nat} {W0 W W' : World} (h : Below n W0 W) (ho : Off lo hi W W') (h1 : n ≤ lo) (h2 : n ≤ W.heap.size) : Below n W0 W' := h.trans (below_of_off ho h1 h2)
/-- A function that holds a range over a function returns. -/
theorem leaves_range {F : Fence} {n : Nat} {P : Program} {fn : Func} {tmps : Array Value} {R : Ending → World → Prop} {b : Nat} {W : World} {v : Value} (h : W.heap[b]? = some (.deferred (some [])))
    (hr : (results fn tmps).run P (W.putObj b (.deferred none)) = .ok v (W.putObj b (.deferred none))) (hR : R (.returned v) (W.putObj b (.deferred none))) :
    LeavesInM F n P fn tmps R [{ target := .collected b, args := #[] }] .returning W := ⟨by simp, .inl ⟨_, _, rfl, run_takeDeferred h, ⟨v, hr, hR⟩⟩⟩
theorem leaves_none {F : Fence} {n : Nat} {P : Program} {fn : Func} {tmps : Array Value} {R : Ending → World → Prop} {W : World} {v : Value} (hr : (results fn tmps).run P W = .ok v W) (hR : R (.returned v) W) :
    LeavesInM F n P fn tmps R [] .returning W := ⟨v, hr, hR⟩
end Go.Proofs.Ytekjkaoibcfgfaa
