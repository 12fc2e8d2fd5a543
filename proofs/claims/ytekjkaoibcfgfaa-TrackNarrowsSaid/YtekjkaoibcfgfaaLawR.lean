/- The region law, made ready for use: initial resources, assertions of a few kinds, how an operation's duty is met. -/
import Derived.Test.YtekjkaoibcfgfaaLaw
namespace Go.Proofs.Ytekjkaoibcfgfaa
open Go.RowKit

section
variable {P : Program} {ops : Array Oper} {X : Nat → Prop} {a₀ : Act} {w₀ : World} {As : Nat → Asrt} {con : List (Nat × List Nat)} {m : Nat}

/-- Is t as it was at the region's start, for operation i? -/
def restB (ops : Array Oper) (i : Nat) (t : Tmp) : Bool :=
  (match ops[i]? with | some o => (readsOf ops o).contains t | none => false) && (List.range i).all fun k => match ops[k]? with | some o => !(o.dst == some t) | none => true

theorem rest_of {a : Act} {i : Nat} {o : Oper} (ho : ops[i]? = some o) (h : ∀ t ∈ readsOf ops o, (∀ k o', k < i → ops[k]? = some o' → o'.dst ≠ some t) → a.tmps.getD t undef = a₀.tmps.getD t undef) {t : Tmp} (hb : restB ops i t = true) : a.tmps.getD t undef = a₀.tmps.getD t undef := by
  simp only [restB, ho, Bool.and_eq_true, List.all_eq_true, List.mem_range, List.contains_iff_mem] at hb
  refine h t hb.1 (fun k o' hk hko hd => ?_)
  have := hb.2 k hk
  simp [hko, hd] at this

theorem av_of {i r : Nat} (h : (availOf ops con m i).contains r = true) : r ∈ availOf ops con m i := List.contains_iff_mem.1 h

/-- what is behind an operation that makes no memory and writes none -/
theorem post_val {i : Nat} {o : Oper} {a : Act} {w : World} {S : Nat → List Nat} {v : Value} (h : As (m + i) (a.put o.dst v) [] w) : OpPost ops As con m i o a w S (a.put o.dst v) w :=
  ⟨v, [], rfl, rfl, rfl, rfl, Nat.le_refl _, fun _ _ _ => rfl, (fun _ h => by cases h), h⟩
/-- behind a call: new memory at most -/
theorem post_call {i : Nat} {o : Oper} {a : Act} {w w' : World} {S : Nat → List Nat} {v : Value} (hb : Below w.heap.size w w') (h : As (m + i) (a.put o.dst v) [] w') : OpPost ops As con m i o a w S (a.put o.dst v) w' :=
  ⟨v, [], rfl, hb.os, hb.tape, hb.output, hb.size, fun _ hb' _ => hb.block _ hb', (fun _ h => by cases h), h⟩
/-- behind a call whose new memory matters -/
theorem post_new {i : Nat} {o : Oper} {a : Act} {w w' : World} {S : Nat → List Nat} {v : Value} (S' : List Nat) (hb : Below w.heap.size w w') (hS : ∀ b ∈ S', w.heap.size ≤ b ∧ b < w'.heap.size) (h : As (m + i) (a.put o.dst v) S' w') : OpPost ops As con m i o a w S (a.put o.dst v) w' :=
  ⟨v, S', rfl, hb.os, hb.tape, hb.output, hb.size, fun _ hb' _ => hb.block _ hb', fun b hb' => .inl (hS b hb'), h⟩
/-- behind an alloc -/
theorem post_alloc {i : Nat} {o : Oper} {a : Act} {w : World} {S : Nat → List Nat} {v : Value} {ob : Obj} (h : As (m + i) (a.put o.dst v) [w.heap.size] (w.alloc ob)) : OpPost ops As con m i o a w S (a.put o.dst v) (w.alloc ob) :=
  post_new [w.heap.size] (below_alloc w ob) (by simp) h
/-- an exclusive resource is looked at, and handed on -/
theorem post_keep {i : Nat} {o : Oper} {a : Act} {w : World} {S : Nat → List Nat} {v : Value} (r : Nat) (hr : (conOf con i).contains r = true) (h : As (m + i) (a.put o.dst v) (S r) w) : OpPost ops As con m i o a w S (a.put o.dst v) w :=
  ⟨v, S r, rfl, rfl, rfl, rfl, Nat.le_refl _, fun _ _ _ => rfl, fun b hb => .inr (.inl ⟨r, List.contains_iff_mem.1 hr, hb⟩), h⟩
/-- behind a call: new memory at most; an exclusive resource is handed on -/
theorem post_callkeep {i : Nat} {o : Oper} {a : Act} {w w' : World} {S : Nat → List Nat} {v : Value} (r : Nat) (hr : (conOf con i).contains r = true) (hb : Below w.heap.size w w') (h : As (m + i) (a.put o.dst v) (S r) w') : OpPost ops As con m i o a w S (a.put o.dst v) w' :=
  ⟨v, S r, rfl, hb.os, hb.tape, hb.output, hb.size, fun _ hb' _ => hb.block _ hb', fun b hb => .inr (.inl ⟨r, List.contains_iff_mem.1 hr, hb⟩), h⟩
/-- behind a store into an exclusive resource -/
theorem post_set {i : Nat} {o : Oper} {a : Act} {w w' : World} {S : Nat → List Nat} {v : Value} (r : Nat) (hr : (conOf con i).contains r = true) (h1 : w'.os = w.os) (h2 : w'.tape = w.tape) (h3 : w'.output = w.output) (h4 : w.heap.size ≤ w'.heap.size) (h5 : ∀ b, b ∉ S r → w'.heap[b]? = w.heap[b]?) (h : As (m + i) (a.put o.dst v) (S r) w') : OpPost ops As con m i o a w S (a.put o.dst v) w' :=
  ⟨v, S r, rfl, h1, h2, h3, h4, fun b _ hn => h5 b (hn r (List.contains_iff_mem.1 hr)), fun b hb => .inr (.inl ⟨r, List.contains_iff_mem.1 hr, hb⟩), h⟩

/-- The assertions in use: a temporary's value, what S is, whole blocks among S. -/
def asn (d : Option Tmp) (V : List Nat → Value) (pS : List Nat → Prop) (Bs : List Nat → List (Nat × Array Value)) : Asrt := fun a S w =>
  pS S ∧ (∀ t, d = some t → a.tmps.getD t undef = V S) ∧ ∀ p ∈ Bs S, p.1 ∈ S ∧ Blk w p.1 p.2

theorem asn_loc {r : Nat} {d : Option Tmp} {V : List Nat → Value} {pS : List Nat → Prop} {Bs : List Nat → List (Nat × Array Value)} (hd : ∀ t, d = some t → m ≤ r ∧ (depOf ops (r - m)).contains t = true)
    (a a' : Act) (S : List Nat) (w w' : World) (ht : m ≤ r → ∀ t ∈ depOf ops (r - m), a'.tmps.getD t undef = a.tmps.getD t undef) (hA : Agr X w₀ S w w') (h : asn d V pS Bs a S w) : asn d V pS Bs a' S w' := by
  obtain ⟨h1, h2, h3⟩ := h
  refine ⟨h1, fun t h => ?_, fun p hp => ⟨(h3 p hp).1, ?_⟩⟩
  · rw [ht (hd t h).1 t (List.contains_iff_mem.1 (hd t h).2)]; exact h2 t h
  · have := (h3 p hp).2
    unfold Blk at this ⊢
    obtain ⟨ty, hb⟩ := this
    exact ⟨ty, (hA.own _ (h3 p hp).1).trans hb⟩

/-- a temporary has a value -/
def vA (t : Tmp) (v : Value) : Asrt := asn (some t) (fun _ => v) (fun _ => True) (fun _ => [])
/-- nothing -/
def nA : Asrt := asn none (fun _ => undef) (fun _ => True) (fun _ => [])
/-- a temporary stands for a block of its own -/
def bA (t : Tmp) (f : Nat → Value) (cs : Array Value) : Asrt := asn (some t) (fun S => f (S.getD 0 0)) (fun S => S.length = 1) (fun S => [(S.getD 0 0, cs)])
/-- a temporary is a slice of n that lies in a block of its own; a pointer to such a block -/
def slA (t : Tmp) (n : Nat) (cs : Array Value) : Asrt := bA t (fun g => .slice (some ⟨g, 0, none⟩) n n) cs
def pA (t : Tmp) (cs : Array Value) : Asrt := bA t (fun g => .pointer (some ⟨g, 0, none⟩)) cs
/-- a given block is S, and holds cs -/
def oA (b : Nat) (cs : Array Value) : Asrt := asn none (fun _ => undef) (fun S => S = [b]) (fun _ => [(b, cs)])
/-- a temporary has a value; a given block is S, and holds cs -/
def voA (t : Tmp) (v : Value) (b : Nat) (cs : Array Value) : Asrt := asn (some t) (fun _ => v) (fun S => S = [b]) (fun _ => [(b, cs)])

theorem vA_in {t : Tmp} {v : Value} {a : Act} {w : World} {S : List Nat} (h : a.tmps.getD t undef = v) : vA t v a S w := ⟨trivial, by rintro _ ⟨⟩; exact h, by simp⟩
theorem vA_out {t : Tmp} {v : Value} {a : Act} {w : World} {S : List Nat} (h : vA t v a S w) : a.tmps.getD t undef = v := h.2.1 t rfl
theorem nA_in {a : Act} {w : World} {S : List Nat} : nA a S w := ⟨trivial, by simp, by simp⟩
theorem bA_in {t : Tmp} {f : Nat → Value} {cs : Array Value} {a : Act} {w : World} {b : Nat} (h : a.tmps.getD t undef = f b) (hb : Blk w b cs) : bA t f cs a [b] w := ⟨rfl, by rintro _ ⟨⟩; exact h, by simpa using hb⟩
theorem bA_out {t : Tmp} {f : Nat → Value} {cs : Array Value} {a : Act} {w : World} {S : List Nat} (h : bA t f cs a S w) : ∃ b, S = [b] ∧ a.tmps.getD t undef = f b ∧ Blk w b cs := by
  obtain ⟨h1, h2, h3⟩ := h
  match S, h1 with
  | [b], _ => exact ⟨b, rfl, by simpa using h2 t rfl, by simpa using h3⟩
theorem slA_in {t : Tmp} {n : Nat} {cs : Array Value} {a : Act} {w : World} {b : Nat} (h : a.tmps.getD t undef = .slice (some ⟨b, 0, none⟩) n n) (hb : Blk w b cs) : slA t n cs a [b] w := bA_in (f := fun g => .slice (some ⟨g, 0, none⟩) n n) h hb
theorem slA_out {t : Tmp} {n : Nat} {cs : Array Value} {a : Act} {w : World} {S : List Nat} (h : slA t n cs a S w) : ∃ b, S = [b] ∧ a.tmps.getD t undef = .slice (some ⟨b, 0, none⟩) n n ∧ Blk w b cs := bA_out (f := fun g => .slice (some ⟨g, 0, none⟩) n n) h
theorem pA_in {t : Tmp} {cs : Array Value} {a : Act} {w : World} {b : Nat} (h : a.tmps.getD t undef = .pointer (some ⟨b, 0, none⟩)) (hb : Blk w b cs) : pA t cs a [b] w := bA_in (f := fun g => .pointer (some ⟨g, 0, none⟩)) h hb
theorem pA_out {t : Tmp} {cs : Array Value} {a : Act} {w : World} {S : List Nat} (h : pA t cs a S w) : ∃ b, S = [b] ∧ a.tmps.getD t undef = .pointer (some ⟨b, 0, none⟩) ∧ Blk w b cs := bA_out (f := fun g => .pointer (some ⟨g, 0, none⟩)) h
theorem oA_in {b : Nat} {cs : Array Value} {a : Act} {w : World} {S : List Nat} (hS : S = [b]) (hb : Blk w b cs) : oA b cs a S w := ⟨hS, by simp, by subst hS; simpa using hb⟩
theorem oA_out {b : Nat} {cs : Array Value} {a : Act} {w : World} {S : List Nat} (h : oA b cs a S w) : S = [b] ∧ Blk w b cs := ⟨h.1, by have := h.2.2; simp at this; exact this.2⟩
theorem voA_in {t : Tmp} {v : Value} {b : Nat} {cs : Array Value} {a : Act} {w : World} {S : List Nat} (h : a.tmps.getD t undef = v) (hS : S = [b]) (hb : Blk w b cs) : voA t v b cs a S w := ⟨hS, by rintro _ ⟨⟩; exact h, by subst hS; simpa using hb⟩
theorem voA_out {t : Tmp} {v : Value} {b : Nat} {cs : Array Value} {a : Act} {w : World} {S : List Nat} (h : voA t v b cs a S w) : a.tmps.getD t undef = v ∧ S = [b] ∧ Blk w b cs := ⟨h.2.1 t rfl, h.1, by have := h.2.2; simp at this; exact this.2⟩

theorem getD_put {a : Act} {t : Tmp} {v : Value} (h : t < a.tmps.size) : (a.put (some t) v).tmps.getD t undef = v := by simp [Act.put, h]

/-- an operation's duty -/
def OpD (P : Program) (ops : Array Oper) (X : Nat → Prop) (a₀ : Act) (w₀ : World) (As : Nat → Asrt) (con : List (Nat × List Nat)) (m i : Nat) (o : Oper) : Prop := ops[i]? = some o → OpOk P ops X a₀ w₀ As con m i o
/-- the walk's way into an operation's duty -/
theorem OpOk.of {i : Nat} {o : Oper}
    (h : ∀ (a : Act) (w : World) (S : Nat → List Nat), a.tmps.size = a₀.tmps.size → Cls X w₀ w → (∀ t, restB ops i t = true → a.tmps.getD t undef = a₀.tmps.getD t undef) → (∀ r, (availOf ops con m i).contains r = true → As r a (S r) w) →
      ∀ K : Act → World → Prop, (∀ v w', OpPost ops As con m i o a w S (a.put o.dst v) w' → K (a.put o.dst v) w') → if Region.wanted o (yielded ops a.tmps) = true then Oper.wp P o a w K (fun _ _ _ => False) else K (a.put o.dst undef) w) :
    OpD P ops X a₀ w₀ As con m i o :=
  fun ho a w S hs _ hC hr hav => h a w S hs hC (fun _ hb => rest_of ho hr hb) (fun r hb => hav r (av_of hb)) _ (fun _ _ h => h)

theorem Cls.cells {w : World} (h : Cls X w₀ w) : (∀ b o, b < w₀.heap.size → ¬ X b → w.cell? ⟨b, o, none⟩ = w₀.cell? ⟨b, o, none⟩) ∧ (∀ b o, b < w₀.heap.size → ¬ X b → w.frozen? ⟨b, o, none⟩ = w₀.frozen? ⟨b, o, none⟩) :=
  ⟨fun b o hb hx => by simp [World.cell?, h.block b hb hx], fun b o hb hx => by simp [World.frozen?, h.block b hb hx]⟩

/-- p holds of n numbers from k on -/
def AllFrom (p : Nat → Prop) : Nat → Nat → Prop
  | _, 0 => True
  | k, n + 1 => p k ∧ AllFrom p (k + 1) n
theorem AllFrom.get {p : Nat → Prop} : ∀ {n k : Nat}, AllFrom p k n → ∀ r, k ≤ r → r < k + n → p r
  | 0, _, _, r, h1, h2 => by omega
  | n + 1, k, ⟨h, hr⟩, r, h1, h2 => by
    by_cases hk : r = k
    · exact hk ▸ h
    · exact AllFrom.get hr r (by omega) (by omega)
theorem AllFrom.nil {p : Nat → Prop} {k : Nat} : AllFrom p k 0 := trivial
theorem AllFrom.cons {p : Nat → Prop} {k n : Nat} (h : p k) (hr : AllFrom p (k + 1) n) : AllFrom p k (n + 1) := ⟨h, hr⟩
/-- each operation's duty, in the order of the text -/
def OpsOk (P : Program) (ops : Array Oper) (X : Nat → Prop) (a₀ : Act) (w₀ : World) (As : Nat → Asrt) (con : List (Nat × List Nat)) (m : Nat) : Nat → List Oper → Prop
  | _, [] => True
  | i, o :: l => OpD P ops X a₀ w₀ As con m i o ∧ OpsOk P ops X a₀ w₀ As con m (i + 1) l
theorem OpsOk.nil {k : Nat} : OpsOk P ops X a₀ w₀ As con m k [] := trivial
theorem OpsOk.cons {k : Nat} {o : Oper} {l : List Oper} (h : OpD P ops X a₀ w₀ As con m k o) (hr : OpsOk P ops X a₀ w₀ As con m (k + 1) l) : OpsOk P ops X a₀ w₀ As con m k (o :: l) := ⟨h, hr⟩
theorem OpsOk.get : ∀ {l : List Oper} {k : Nat}, OpsOk P ops X a₀ w₀ As con m k l → ∀ i o, l[i]? = some o → ops[k + i]? = some o → OpOk P ops X a₀ w₀ As con m (k + i) o
  | [], _, _, i, o, h, _ => by simp at h
  | x :: l, k, ⟨h, hr⟩, 0, o, ho, hk => by
    simp at ho; subst ho; exact h hk
  | x :: l, k, ⟨h, hr⟩, i + 1, o, ho, hk => by
    have := OpsOk.get hr i o (by simpa using ho)
    rw [show k + (i + 1) = k + 1 + i by omega] at hk ⊢
    exact this hk

/-- the frame behind the region, written out -/
theorem act_put {a : Act} {l : List Oper} (hs : a.tmps.size = a₀.tmps.size) (hd : a.defers = a₀.defers) (hrest : ∀ t, (l.any fun o => o.dst == some t) = false → a.tmps.getD t undef = a₀.tmps.getD t undef)
    (wr : List (Tmp × Value)) (hcov : (l.all fun o => match o.dst with | some t => wr.any fun p => p.1 == t | none => true) = true) (hnd : (wr.map (·.1)).Nodup) (h : ∀ p ∈ wr, a.tmps.getD p.1 undef = p.2) :
    a = ⟨wr.foldl (fun ts p => ts.setIfInBounds p.1 p.2) a₀.tmps, a₀.defers⟩ := by
  obtain ⟨ts, ds⟩ := a
  simp only at hs hd hrest h
  subst hd
  congr 1
  have hsz : ∀ (wr : List (Tmp × Value)) (b : Array Value), (wr.foldl (fun ts p => ts.setIfInBounds p.1 p.2) b).size = b.size := by
    intro wr
    induction wr with
    | nil => intro b; rfl
    | cons p r ih => intro b; simp [ih]
  have hget : ∀ (wr : List (Tmp × Value)) (b : Array Value) (t : Nat), (∀ p ∈ wr, p.1 ≠ t) → (wr.foldl (fun ts p => ts.setIfInBounds p.1 p.2) b)[t]? = b[t]? := by
    intro wr
    induction wr with
    | nil => intro b t _; rfl
    | cons p r ih =>
      intro b t ht
      rw [List.foldl_cons, ih _ t (fun q hq => ht q (List.mem_cons_of_mem _ hq)), Array.getElem?_setIfInBounds_ne (ht p List.mem_cons_self)]
  have hput : ∀ (wr : List (Tmp × Value)) (b : Array Value) (p : Tmp × Value), (wr.map (·.1)).Nodup → p ∈ wr → p.1 < b.size → (wr.foldl (fun ts p => ts.setIfInBounds p.1 p.2) b)[p.1]? = some p.2 := by
    intro wr
    induction wr with
    | nil => intro b p _ h; cases h
    | cons q r ih =>
      intro b p hn hp hlt
      simp only [List.map_cons, List.nodup_cons] at hn
      rcases List.mem_cons.1 hp with rfl | hp
      · rw [List.foldl_cons, hget r _ p.1 (fun x hx e => hn.1 (List.mem_map.2 ⟨x, hx, e⟩))]
        simp [hlt]
      · rw [List.foldl_cons]
        exact ih _ p hn.2 hp (by simpa using hlt)
  apply Array.ext_getElem?
  intro t
  by_cases ht : t < a₀.tmps.size
  · have h1 : ts[t]? = some (ts.getD t undef) := by simp [show t < ts.size by omega]
    rw [h1]
    by_cases hw : ∃ p ∈ wr, p.1 = t
    · obtain ⟨p, hp, rfl⟩ := hw
      rw [hput wr _ p hnd hp ht, h p hp]
    · rw [hget wr _ t (fun p hp e => hw ⟨p, hp, e⟩), hrest t ?_]
      · simp [ht]
      · rw [List.any_eq_false]
        intro o ho hdst
        have := List.all_eq_true.1 hcov o ho
        have hdst' : o.dst = some t := by simpa using hdst
        simp only [hdst', List.any_eq_true, beq_iff_eq] at this
        exact hw this
  · have h1 := hsz wr a₀.tmps
    rw [Array.getElem?_eq_none (by omega), Array.getElem?_eq_none (by omega)]

theorem wr_nil {a : Act} : ∀ p ∈ ([] : List (Tmp × Value)), a.tmps.getD p.1 undef = p.2 := fun _ h => by cases h
theorem wr_cons {a : Act} {t : Tmp} {v : Value} {wr : List (Tmp × Value)} (h : a.tmps.getD t undef = v) (hr : ∀ p ∈ wr, a.tmps.getD p.1 undef = p.2) : ∀ p ∈ (t, v) :: wr, a.tmps.getD p.1 undef = p.2 := by
  intro p hp
  rcases List.mem_cons.1 hp with rfl | hp
  · exact h
  · exact hr p hp

theorem Cls.below {w : World} (h : Cls X w₀ w) {n : Nat} (hx : ∀ b, X b → n ≤ b) (hn : n ≤ w₀.heap.size) : Below n w₀ w :=
  ⟨h.os, h.tape, h.output, h.size, fun b hb => h.block b (Nat.lt_of_lt_of_le hb hn) (fun hX => by have := hx b hX; omega)⟩

theorem wp_region_law {id : Nat} {Q : Exit → Act → World → Prop} {l : List Oper} (X : Nat → Prop) (As : Nat → Asrt) (con : List (Nat × List Nat)) (m : Nat) (S₀ : Nat → List Nat) (N : Nat) (hN : m + l.length = N) (hm : P.follows .mixedOrders = true) (hB : lawB l.toArray con m = true)
    (h0 : ∀ r, r < m → As r a₀ (S₀ r) w₀)
    (h0b : ∀ r, r < m → ∀ b ∈ S₀ r, b < w₀.heap.size ∧ X b)
    (h0d : ∀ r r', r < m → r' < m → r ≠ r' → ∀ b ∈ S₀ r, b ∉ S₀ r')
    (hloc' : AllFrom (fun r => ∀ (a a' : Act) (S : List Nat) (w w' : World), (m ≤ r → ∀ t ∈ depOf l.toArray (r - m), a'.tmps.getD t undef = a.tmps.getD t undef) → Agr X w₀ S w w' → As r a S w → As r a' S w') 0 N)
    (hop : OpsOk P l.toArray X a₀ w₀ As con m 0 l)
    (hfin : ∀ a w (S : Nat → List Nat), a.tmps.size = a₀.tmps.size → a.defers = a₀.defers → (∀ t, (l.any fun o => o.dst == some t) = false → a.tmps.getD t undef = a₀.tmps.getD t undef) → Cls X w₀ w → (∀ r, decide (r < N) && !exOf con r = true → As r a (S r) w) → Q .normal a w) :
    (Code.region id l.toArray true).wp P Q a₀ w₀ := by
  subst hN
  have hF := lawFacts hB
  have hloc := fun r (hr : r < m + l.length) => hloc'.get r (Nat.zero_le _) (by omega)
  have hop : ∀ i o, l.toArray[i]? = some o → OpOk P l.toArray X a₀ w₀ As con m i o := fun i o ho => by
    have h2 : l[i]? = some o := by rw [← ho]; simp
    have := OpsOk.get hop i o h2 (by rw [Nat.zero_add]; exact ho)
    rw [Nat.zero_add] at this
    exact this
  refine wp_region_any hm ?_
  have hsz : l.toArray.size = l.length := by simp
  refine law_any (X := X) (w₀ := w₀) (As := As) (con := con) (m := m) hF (by simpa using hloc) hop ?_ l.toArray.size _ _ _ (by simp) ⟨S₀, ?_⟩
  · intro listed a w S hall hI
    refine hfin a w S hI.tsize hI.defers (fun t ht => hI.rest t (fun k o hk _ hd => ?_)) hI.cls (fun r hr => ?_)
    · have hmem : o ∈ l := by
        have := Array.getElem?_eq_some_iff.1 hk
        obtain ⟨h1, h2⟩ := this
        rw [← h2]; simp
      rw [List.any_eq_false] at ht
      exact ht o hmem (by simp [hd])
    · simp only [Bool.and_eq_true, decide_eq_true_eq, Bool.not_eq_true'] at hr
      refine hI.holds r ⟨fun _ => hall _, by simpa using hr.1, fun k _ _ hk => ?_⟩
      rw [ex_of_con hk] at hr; exact absurd hr.2 (by simp)
  · have hlist : ∀ k, (Array.replicate l.toArray.size false).getD k true = true → l.length ≤ k := by
      intro k hk
      rcases Nat.lt_or_ge k l.length with h | h
      · simp [h] at hk
      · exact h
    have hlive : ∀ r, Live l.toArray con m (Array.replicate l.toArray.size false) r → r < m := by
      intro r hr
      rcases Nat.lt_or_ge r m with h | h
      · exact h
      · have := hlist _ (hr.1 h); have := hr.2.1; omega
    refine ⟨by simp, rfl, rfl, ?_, fun _ _ => rfl, ⟨rfl, rfl, rfl, Nat.le_refl _, fun _ _ _ => rfl⟩, ?_, ?_, ?_⟩
    · intro k j hk hd
      have := hlist k hk; have := dirB_lt hd; omega
    · intro r hr
      have := h0 r (hlive r hr)
      exact hloc r (by have := hr.2.1; omega) a₀ a₀ (S₀ r) w₀ _ (fun _ _ _ => rfl) ⟨Nat.le_refl _, fun _ _ _ => rfl, fun _ _ => rfl⟩ this
    · intro r hr b hb
      have := h0b r (hlive r hr) b hb
      exact ⟨this.1, fun _ => this.2⟩
    · intro r r' hr hr' hne _ b hb
      exact h0d r r' (hlive r hr) (hlive r' hr') hne b hb
end
attribute [irreducible] asn
attribute [reducible] vA nA bA slA pA oA voA
end Go.Proofs.Ytekjkaoibcfgfaa
