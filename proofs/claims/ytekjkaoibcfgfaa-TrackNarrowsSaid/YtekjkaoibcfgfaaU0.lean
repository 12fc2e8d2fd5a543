/- A walk over assertions: what is known of the temporaries (R) and of memory of one's own (H); worlds and frames are not written out. -/
import Derived.Test.YtekjkaoibcfgfaaRow
import Derived.Laws.Tables
import Derived.Laws.IdiomCopy
namespace Go.Proofs.Ytekjkaoibcfgfaa
open Go.RowKit
set_option linter.unusedSimpArgs false

/-- What lies in some blocks. -/
structure Ent where
  S : Nat → Prop
  p : World → Prop
  loc : ∀ w w' : World, (∀ b, S b → w'.heap[b]? = w.heap[b]?) → p w → p w'

theorem Blk.same {w w' : World} {g : Nat} {cs : Array Value} (h : Blk w g cs) (hb : w'.heap[g]? = w.heap[g]?) : Blk w' g cs := by
  unfold Blk at h ⊢
  obtain ⟨t, h⟩ := h
  exact ⟨t, hb.trans h⟩

/-- a block known whole -/
def Ent.blk (g : Nat) (cs : List Value) : Ent := ⟨(· = g), fun w => Blk w g cs.toArray, fun _ _ h hp => hp.same (h g rfl)⟩
/-- a row that grows -/
def Ent.row {α : Type} (enc : α → List Value) (k : Nat) (e : TypeId) (v : Value) (xs : List α) : Ent :=
  ⟨fun b => v.ownBlock = some b, fun w => Row enc k e 0 w v xs, fun _ _ h hp => hp.same h⟩
/-- a slice that is read -/
def Ent.sl {α : Type} (enc : α → List Value) (k : Nat) (A : Option Addr) (xs : List α) : Ent :=
  ⟨fun b => ∃ o, A = some ⟨b, o, none⟩, fun w => SlAt enc k w A xs, fun w w' h hp i x hx => by
    obtain ⟨b, o, hA, hlt, hc⟩ := hp i x hx
    refine ⟨b, o, hA, ?_, fun j v hv => ?_⟩
    · have h1 := h b ⟨o, hA⟩
      have h2 : w.heap[b]? = some w.heap[b] := by simp [hlt]
      rw [h2] at h1
      exact (Array.getElem?_eq_some_iff.1 h1).1
    · have := hc j v hv
      simpa [World.cell?, h b ⟨o, hA⟩] using this⟩

structure Own (base : Nat) (w : World) (H : List Ent) : Prop where
  here : ∀ e ∈ H, e.p w
  foot : ∀ e ∈ H, ∀ b, e.S b → base ≤ b ∧ b < w.heap.size
  apart : H.Pairwise fun e f => ∀ b, e.S b → ¬ f.S b

theorem Own.nil (base : Nat) (w : World) : Own base w [] := ⟨by simp, by simp, List.Pairwise.nil⟩

/-- one entry out of a list -/
inductive Take : List Ent → Ent → List Ent → Prop
  | here (e : Ent) (H : List Ent) : Take (e :: H) e H
  | there (f : Ent) {H H' : List Ent} {e : Ent} : Take H e H' → Take (f :: H) e (f :: H')
/-- some entries out of a list, in any order -/
inductive Out : List Ent → List Ent → Prop
  | nil (H : List Ent) : Out H []
  | cons {H H1 H' : List Ent} {e : Ent} : Take H e H1 → Out H1 H' → Out H (e :: H')

theorem Take.mem {H H' : List Ent} {e : Ent} (h : Take H e H') : e ∈ H := by
  induction h with
  | here => simp
  | there f _ ih => exact List.mem_cons_of_mem _ ih
theorem Take.rest {H H' : List Ent} {e : Ent} (h : Take H e H') : ∀ f ∈ H', f ∈ H := by
  induction h with
  | here => intro f hf; exact List.mem_cons_of_mem _ hf
  | there g _ ih =>
    intro f hf
    rcases List.mem_cons.1 hf with rfl | hf
    · simp
    · exact List.mem_cons_of_mem _ (ih f hf)
theorem Take.apart {H H' : List Ent} {e : Ent} (h : Take H e H') (ha : H.Pairwise fun e f => ∀ b, e.S b → ¬ f.S b) : (e :: H').Pairwise fun e f => ∀ b, e.S b → ¬ f.S b := by
  induction h with
  | here => exact ha
  | @there f H H' e ht ih =>
    rw [List.pairwise_cons] at ha
    have := ih ha.2
    rw [List.pairwise_cons] at this
    rw [List.pairwise_cons, List.pairwise_cons]
    refine ⟨fun g hg => ?_, fun g hg => ha.1 g (ht.rest g hg), this.2⟩
    rcases List.mem_cons.1 hg with rfl | hg
    · exact fun b h1 h2 => ha.1 e ht.mem b h2 h1
    · exact this.1 g hg
theorem Own.take {base : Nat} {w : World} {H H' : List Ent} {e : Ent} (h : Own base w H) (ht : Take H e H') : Own base w (e :: H') := by
  refine ⟨fun f hf => ?_, fun f hf => ?_, ht.apart h.apart⟩
  · rcases List.mem_cons.1 hf with rfl | hf
    · exact h.here _ ht.mem
    · exact h.here _ (ht.rest _ hf)
  · rcases List.mem_cons.1 hf with rfl | hf
    · exact h.foot _ ht.mem
    · exact h.foot _ (ht.rest _ hf)
theorem Own.tail {base : Nat} {w : World} {H : List Ent} {e : Ent} (h : Own base w (e :: H)) : Own base w H :=
  ⟨fun f hf => h.here f (List.mem_cons_of_mem _ hf), fun f hf => h.foot f (List.mem_cons_of_mem _ hf), (List.pairwise_cons.1 h.apart).2⟩
theorem Out.mem {H H' : List Ent} (h : Out H H') : ∀ e ∈ H', e ∈ H := by
  induction h with
  | nil => intro e he; cases he
  | cons ht _ ih =>
    intro e he
    rcases List.mem_cons.1 he with rfl | he
    · exact ht.mem
    · exact ht.rest e (ih e he)
theorem Own.sub {base : Nat} {w : World} {H H' : List Ent} (hs : Out H H') (h : Own base w H) : Own base w H' := by
  induction hs with
  | nil => exact Own.nil _ _
  | @cons H H1 H' e ht hr ih =>
    have h1 := h.take ht
    have h2 := ih h1.tail
    refine ⟨fun f hf => ?_, fun f hf => ?_, List.pairwise_cons.2 ⟨fun f hf => (List.pairwise_cons.1 h1.apart).1 f (hr.mem f hf), h2.apart⟩⟩
    · rcases List.mem_cons.1 hf with rfl | hf
      · exact h1.here _ (by simp)
      · exact h2.here _ hf
    · rcases List.mem_cons.1 hf with rfl | hf
      · exact h1.foot _ (by simp)
      · exact h2.foot _ hf
/-- the first entry said otherwise, of the same blocks -/
theorem Own.recast {base : Nat} {w : World} {H : List Ent} {e e' : Ent} (h : Own base w (e :: H)) (hp : e.p w → e'.p w) (hS : ∀ b, e'.S b → e.S b) : Own base w (e' :: H) := by
  refine ⟨fun f hf => ?_, fun f hf => ?_, List.pairwise_cons.2 ⟨fun f hf b hb => (List.pairwise_cons.1 h.apart).1 f hf b (hS b hb), (List.pairwise_cons.1 h.apart).2⟩⟩
  · rcases List.mem_cons.1 hf with rfl | hf
    · exact hp (h.here _ (by simp))
    · exact h.here _ (List.mem_cons_of_mem _ hf)
  · rcases List.mem_cons.1 hf with rfl | hf
    · exact fun b hb => h.foot _ (by simp) b (hS b hb)
    · exact h.foot _ (List.mem_cons_of_mem _ hf)
/-- A world that has turned only in blocks beside H, or grown. -/
theorem Own.past {base : Nat} {w w' : World} {H : List Ent} (h : Own base w H) (hs : w.heap.size ≤ w'.heap.size) (hb : ∀ e ∈ H, ∀ b, e.S b → w'.heap[b]? = w.heap[b]?) : Own base w' H :=
  ⟨fun e he => e.loc _ _ (hb e he) (h.here e he), fun e he b hS => ⟨(h.foot e he b hS).1, Nat.lt_of_lt_of_le (h.foot e he b hS).2 hs⟩, h.apart⟩
theorem Own.below {base : Nat} {w w' : World} {H : List Ent} (h : Own base w H) (hb : Below w.heap.size w w') : Own base w' H :=
  h.past hb.size fun e he b hS => hb.block b (h.foot e he b hS).2
theorem Own.join {base : Nat} {w w' : World} {H E : List Ent} (h : Own base w H) (hb : Below w.heap.size w w') (hB : base ≤ w.heap.size) (hE : Own w.heap.size w' E) : Own base w' (E ++ H) := by
  have h1 := h.below hb
  refine ⟨fun e he => ?_, fun e he b hS => ?_, List.pairwise_append.2 ⟨hE.apart, h1.apart, fun e he f hf b hS hS' => ?_⟩⟩
  · rcases List.mem_append.1 he with he | he
    · exact hE.here e he
    · exact h1.here e he
  · rcases List.mem_append.1 he with he | he
    · have := hE.foot e he b hS; exact ⟨by omega, this.2⟩
    · exact h1.foot e he b hS
  · have := (hE.foot e he b hS).1; have := (h.foot f hf b hS').2; omega
/-- the first entry turned, in its own blocks and new ones -/
theorem Own.turn {base : Nat} {w w' : World} {H : List Ent} {e e' : Ent} (h : Own base w (e :: H)) (hs : w.heap.size ≤ w'.heap.size) (hb : ∀ b, b < w.heap.size → ¬ e.S b → w'.heap[b]? = w.heap[b]?) (hB : base ≤ w.heap.size)
    (hp : e'.p w') (hS : ∀ b, e'.S b → (e.S b ∨ w.heap.size ≤ b) ∧ b < w'.heap.size) : Own base w' (e' :: H) := by
  have ha := List.pairwise_cons.1 h.apart
  have hH := h.tail.past hs (fun f hf b hS' => hb b (h.foot f (List.mem_cons_of_mem _ hf) b hS').2 (fun hS => ha.1 f hf b hS hS'))
  refine ⟨fun f hf => ?_, fun f hf b hS' => ?_, List.pairwise_cons.2 ⟨fun f hf b h1 h2 => ?_, hH.apart⟩⟩
  · rcases List.mem_cons.1 hf with rfl | hf
    · exact hp
    · exact hH.here f hf
  · rcases List.mem_cons.1 hf with rfl | hf
    · refine ⟨?_, (hS b hS').2⟩
      rcases (hS b hS').1 with h1 | h1
      · exact (h.foot e (by simp) b h1).1
      · omega
    · exact hH.foot f hf b hS'
  · rcases (hS b h1).1 with h3 | h3
    · exact ha.1 f hf b h3 h2
    · have := (h.foot f (List.mem_cons_of_mem _ hf) b h2).2; omega

/-- what a temporary holds -/
def lk : List (Nat × Value) → Nat → Option Value
  | [], _ => none
  | (t, v) :: r, x => cond (Nat.beq t x) (some v) (lk r x)
def evR (R : List (Nat × Value)) : Operand → Option Value
  | .tmp t => lk R t
  | .const v => some v
  | .global g => some (.pointer (some ⟨g, 0, none⟩))
  | .func f => some (.func (.func f) #[] #[])
def evs (R : List (Nat × Value)) : List Operand → Option (List Value)
  | [] => some []
  | x :: r => match evR R x, evs R r with | some v, some vs => some (v :: vs) | _, _ => none

/-- A frame and a world of which R and H are known; all that was there in w0 is as it was. -/
structure Kn (w0 : World) (n : Nat) (d : List Deferred) (R : List (Nat × Value)) (H : List Ent) (a : Act) (w : World) : Prop where
  size : a.tmps.size = n
  defers : a.defers = d
  regs : ∀ t v, lk R t = some v → a.tmps.getD t undef = v
  below : Below w0.heap.size w0 w
  own : Own w0.heap.size w H

/-- From R and H on, X. -/
def U (w0 : World) (n : Nat) (d : List Deferred) (R : List (Nat × Value)) (H : List Ent) (X : Act → World → Prop) : Prop := ∀ a w, Kn w0 n d R H a w → X a w

section
variable {w0 : World} {n : Nat} {d : List Deferred} {R R' : List (Nat × Value)} {H H' E : List Ent} {a : Act} {w w' : World} {X : Act → World → Prop}

theorem Kn.ev {x : Operand} {v : Value} (h : Kn w0 n d R H a w) (hx : evR R x = some v) : a.eval x = v := by
  cases x with
  | tmp t => exact h.regs t v hx
  | const u => simp only [evR, Option.some.injEq] at hx; exact hx
  | global g => simp only [evR, Option.some.injEq] at hx; exact hx
  | func f => simp only [evR, Option.some.injEq] at hx; exact hx
theorem Kn.evs : ∀ {xs : List Operand} {vs : List Value} (_ : Kn w0 n d R H a w) (_ : evs R xs = some vs), xs.map a.eval = vs
  | [], vs, _, hx => by simp only [Proofs.Ytekjkaoibcfgfaa.evs, Option.some.injEq] at hx; subst hx; rfl
  | x :: r, vs, h, hx => by
    simp only [Proofs.Ytekjkaoibcfgfaa.evs] at hx
    cases h1 : evR R x with
    | none => rw [h1] at hx; simp at hx
    | some v =>
      cases h2 : Proofs.Ytekjkaoibcfgfaa.evs R r with
      | none => rw [h1, h2] at hx; simp at hx
      | some us =>
        rw [h1, h2] at hx
        simp only [Option.some.injEq] at hx
        subst hx
        rw [List.map_cons, h.ev h1, Kn.evs h h2]
theorem Kn.base (h : Kn w0 n d R H a w) : w0.heap.size ≤ w.heap.size := h.below.size
theorem lk_cons_ne {t u : Nat} {v : Value} (h : t ≠ u) : lk ((t, v) :: R) u = lk R u := by
  simp only [lk]
  have : Nat.beq t u = false := by
    cases hb : Nat.beq t u with
    | false => rfl
    | true => exact absurd (Nat.eq_of_beq_eq_true hb) h
  rw [this]; rfl
theorem lk_cons_eq {t : Nat} {v : Value} : lk ((t, v) :: R) t = some v := by
  simp [lk, Nat.beq_refl]
theorem Kn.put {t : Nat} {v : Value} (h : Kn w0 n d R H a w) (ht : Nat.blt t n = true) : Kn w0 n d ((t, v) :: R) H (a.put (some t) v) w := by
  have hlt : t < a.tmps.size := by rw [h.size]; exact Nat.le_of_ble_eq_true ht
  refine ⟨by simp [Act.put, h.size], h.defers, fun u x hx => ?_, h.below, h.own⟩
  by_cases hu : t = u
  · subst hu
    rw [lk_cons_eq] at hx
    cases hx
    simp [Act.put, hlt]
  · rw [lk_cons_ne hu] at hx
    have := h.regs u x hx
    simp only [Act.put, Array.getD_eq_getD_getElem?] at this ⊢
    rw [Array.getElem?_setIfInBounds_ne hu]
    exact this
theorem Kn.sub (h : Kn w0 n d R H a w) (hR : ∀ t v, lk R' t = some v → lk R t = some v) (hs : Out H H') : Kn w0 n d R' H' a w :=
  ⟨h.size, h.defers, fun t v hv => h.regs t v (hR t v hv), h.below, h.own.sub hs⟩
theorem Kn.heap (h : Kn w0 n d R H a w) (hb : Below w0.heap.size w0 w') (ho : Own w0.heap.size w' H') : Kn w0 n d R H' a w' := ⟨h.size, h.defers, h.regs, hb, ho⟩
theorem Kn.call (h : Kn w0 n d R H a w) (hb : Below w.heap.size w w') (hE : Own w.heap.size w' E) : Kn w0 n d R (E ++ H) a w' :=
  h.heap (h.below.trans (hb.mono h.base)) (h.own.join hb h.base hE)
theorem Kn.drew (h : Kn w0 n d R H a w) : Kn w0 n d R H a w.drew := h.heap h.below.drew (h.own.below (Below.refl _ _).drew)
theorem Kn.alloc (h : Kn w0 n d R H a w) (cs : List Value) (t : TypeId) : Kn w0 n d R (.blk w.heap.size cs :: H) a (w.alloc (.cells cs.toArray t)) := by
  refine h.call (E := [.blk w.heap.size cs]) (below_alloc _ _) ⟨?_, ?_, by simp⟩
  · intro e he
    simp only [List.mem_singleton] at he
    subst he
    exact Blk.new _ _ _
  · intro e he b hb
    simp only [List.mem_singleton] at he
    subst he
    cases hb
    simp
/-- some of R -/
theorem lk_nil {t : Nat} {v : Value} (h : lk [] t = some v) : lk R t = some v := by cases h
theorem lk_sub {t0 : Nat} {v0 : Value} (h0 : lk R t0 = some v0) (hr : ∀ t v, lk R' t = some v → lk R t = some v) : ∀ t v, lk ((t0, v0) :: R') t = some v → lk R t = some v := by
  intro t v h
  by_cases ht : t0 = t
  · subst ht; rw [lk_cons_eq] at h; cases h; exact h0
  · rw [lk_cons_ne ht] at h; exact hr t v h
theorem U.mono {Y : Act → World → Prop} (h : U w0 n d R H X) (hy : ∀ a w, X a w → Y a w) : U w0 n d R H Y := fun a w hs => hy a w (h a w hs)
theorem U.sub (hR : ∀ t v, lk R' t = some v → lk R t = some v) (hs : Out H H') (h : U w0 n d R' H' X) : U w0 n d R H X := fun a w k => h a w (k.sub hR hs)
end
end Go.Proofs.Ytekjkaoibcfgfaa
