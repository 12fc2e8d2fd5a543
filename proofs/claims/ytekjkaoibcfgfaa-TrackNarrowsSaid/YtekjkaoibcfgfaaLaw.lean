/- A region whose order is left open: each operation brings about an assertion of its own, about its own temporary and its own blocks; whatever the order, all of them hold behind the region. -/
import Derived.Test.YtekjkaoibcfgfaaBase
namespace Go.Proofs.Ytekjkaoibcfgfaa
open Go.RowKit

/-- An assertion: of the frame, of some blocks, of the world. -/
abbrev Asrt := Act → List Nat → World → Prop

/-- The temporaries that an operation looks at (its guard's too). -/
def readsOf (ops : Array Oper) (o : Oper) : List Tmp :=
  (o.op.operands.toList.filterMap fun | .tmp t => some t | _ => none) ++
  (match o.guard with | some (j, _) => ((ops[j]?).bind (·.dst)).toList | none => [])
/-- Must k come before i? -/
def dirB (ops : Array Oper) (i k : Nat) : Bool := match ops[i]? with | some o => o.after.any (fun e => Region.binds .any e && e.on == k) | none => false
/-- What an assertion speaks of: resource m + i is what operation i brings about; the first m are there from the start. -/
def depOf (ops : Array Oper) (i : Nat) : List Tmp := match ops[i]? with | some o => (match o.dst with | some d => [d] | none => readsOf ops o) | none => []
def conOf (con : List (Nat × List Nat)) (i : Nat) : List Nat := (con.filter (·.1 == i)).flatMap (·.2)
/-- Is it consumed by somebody? -/
def exOf (con : List (Nat × List Nat)) (r : Nat) : Bool := con.any fun c => c.2.contains r
/-- What an operation may lean on. -/
def availOf (ops : Array Oper) (con : List (Nat × List Nat)) (m i : Nat) : List Nat :=
  (((List.range ops.size).filter fun k => dirB ops i k && !exOf con (m + k)).map (m + ·)) ++ conOf con i

/-- The look over a region: temporaries, what is consumed. -/
def lawB (ops : Array Oper) (con : List (Nat × List Nat)) (m : Nat) : Bool :=
  ((List.range ops.size).all fun k => match (ops[k]?).bind (·.dst) with
    | none => true
    | some t =>
      (List.range ops.size).all fun i => i == k ||
        ((match ops[i]? with | some o => !(readsOf ops o).contains t || (if k < i then dirB ops i k else dirB ops k i) | none => true) && (!(depOf ops i).contains t || dirB ops i k))) &&
  (con.all fun c => c.1 < ops.size && c.2.all fun r => r < m + ops.size && (r < m || dirB ops c.1 (r - m))) &&
  (con.all fun c => con.all fun d => c.1 == d.1 || c.2.all fun r => !d.2.contains r) &&
  ((List.range ops.size).all fun i => match ops[i]? with | some o => o.after.all (fun e => !Region.binds .any e || e.on < i) | none => true)

section
variable (P : Program) (ops : Array Oper) (X : Nat → Prop) (a₀ : Act) (w₀ : World) (As : Nat → Asrt) (con : List (Nat × List Nat)) (m : Nat)

/-- Old memory, but for X, is as it was. -/
structure Cls (w : World) : Prop where
  os : w.os = w₀.os
  tape : w.tape = w₀.tape
  output : w.output = w₀.output
  size : w₀.heap.size ≤ w.heap.size
  block : ∀ b, b < w₀.heap.size → ¬ X b → w.heap[b]? = w₀.heap[b]?

/-- w' agrees with w on old memory and on S. -/
structure Agr (S : List Nat) (w w' : World) : Prop where
  size : w.heap.size ≤ w'.heap.size
  old : ∀ b, b < w₀.heap.size → ¬ X b → w'.heap[b]? = w.heap[b]?
  own : ∀ b ∈ S, w'.heap[b]? = w.heap[b]?

/-- What is behind an operation. -/
def OpPost (i : Nat) (o : Oper) (a : Act) (w : World) (S : Nat → List Nat) (a' : Act) (w' : World) : Prop :=
  ∃ v S', a' = a.put o.dst v ∧ w'.os = w.os ∧ w'.tape = w.tape ∧ w'.output = w.output ∧ w.heap.size ≤ w'.heap.size ∧
    (∀ b, b < w.heap.size → (∀ r ∈ conOf con i, b ∉ S r) → w'.heap[b]? = w.heap[b]?) ∧
    (∀ b ∈ S', (w.heap.size ≤ b ∧ b < w'.heap.size) ∨ (∃ r ∈ conOf con i, b ∈ S r) ∨ (exOf con (m + i) = false ∧ ∃ r ∈ availOf ops con m i, exOf con r = false ∧ b ∈ S r)) ∧
    As (m + i) a' S' w'

/-- What is asked of an operation. -/
def OpOk (i : Nat) (o : Oper) : Prop :=
  ∀ (a : Act) (w : World) (S : Nat → List Nat), a.tmps.size = a₀.tmps.size → a.defers = a₀.defers → Cls X w₀ w →
    (∀ t ∈ readsOf ops o, (∀ k o', k < i → ops[k]? = some o' → o'.dst ≠ some t) → a.tmps.getD t undef = a₀.tmps.getD t undef) →
    (∀ r ∈ availOf ops con m i, As r a (S r) w) →
    if Region.wanted o (yielded ops a.tmps) then o.wp P a w (OpPost ops As con m i o a w S) (fun _ _ _ => False) else OpPost ops As con m i o a w S (a.put o.dst undef) w

/-- Assertion r is there: brought about, and not consumed. -/
def Live (listed : Array Bool) (r : Nat) : Prop := (m ≤ r → listed.getD (r - m) true = true) ∧ r < m + ops.size ∧ ∀ k, k < ops.size → listed.getD k true = true → r ∉ conOf con k

structure LawInv (listed : Array Bool) (a : Act) (w : World) (S : Nat → List Nat) : Prop where
  lsize : listed.size = ops.size
  tsize : a.tmps.size = a₀.tmps.size
  defers : a.defers = a₀.defers
  closed : ∀ k j, listed.getD k true = true → dirB ops k j = true → listed.getD j true = true
  rest : ∀ t, (∀ (k : Nat) (o : Oper), ops[k]? = some o → listed.getD k true = true → o.dst ≠ some t) → a.tmps.getD t undef = a₀.tmps.getD t undef
  cls : Cls X w₀ w
  holds : ∀ r, Live ops con m listed r → As r a (S r) w
  inW : ∀ r, Live ops con m listed r → ∀ b ∈ S r, b < w.heap.size ∧ (b < w₀.heap.size → X b)
  apart : ∀ r r', Live ops con m listed r → Live ops con m listed r' → r ≠ r' → exOf con r = true → ∀ b ∈ S r, b ∉ S r'
end

theorem oper_wp_cut {P : Program} {o : Oper} {a : Act} {w : World} {K K' : Act → World → Prop} {Q : Exit → Act → World → Prop} (h : o.wp P a w K (fun _ _ _ => False)) (hk : ∀ a w, K a w → K' a w) : o.wp P a w K' Q := by
  unfold Oper.wp at *
  generalize (execOp a.eval o).run P w = r at *
  cases r with
  | ok n w' =>
    cases n <;> simp only [Oper.upon] at * <;> first | exact hk _ _ h | exact h.mono (fun e w'' he => by cases e <;> first | exact hk _ _ he | exact he.elim | exact (by obtain ⟨_, _, hf⟩ := he; exact hf.elim)) | exact h.mono (fun v w'' he => hk _ _ he) | exact h.elim
  | halt x w' => cases x <;> simp only [Oper.upon] at * <;> exact h.elim

theorem getD_put_ne {a : Act} {d : Option Tmp} {v : Value} {t : Tmp} (h : d ≠ some t) : (a.put d v).tmps.getD t undef = a.tmps.getD t undef := by
  cases d with
  | none => rfl
  | some d =>
    have hne : d ≠ t := fun e => h (by rw [e])
    simp [Act.put, Array.getElem?_setIfInBounds_ne hne]
theorem size_put {a : Act} {d : Option Tmp} {v : Value} : (a.put d v).tmps.size = a.tmps.size := by cases d <;> simp [Act.put]
theorem defers_put {a : Act} {d : Option Tmp} {v : Value} : (a.put d v).defers = a.defers := by cases d <;> simp [Act.put]

section
variable {P : Program} {ops : Array Oper} {X : Nat → Prop} {a₀ : Act} {w₀ : World} {As : Nat → Asrt} {con : List (Nat × List Nat)} {m : Nat} {Q : Exit → Act → World → Prop}

theorem mem_conOf {i r : Nat} : r ∈ conOf con i ↔ ∃ c ∈ con, c.1 = i ∧ r ∈ c.2 := by
  simp [conOf, List.mem_flatMap, List.mem_filter, and_assoc]
theorem mem_availOf {i r : Nat} : r ∈ availOf ops con m i ↔ (∃ k, k < ops.size ∧ dirB ops i k = true ∧ exOf con (m + k) = false ∧ m + k = r) ∨ r ∈ conOf con i := by
  simp [availOf, List.mem_append, List.mem_filter, and_assoc]
theorem ex_of_con {i r : Nat} (h : r ∈ conOf con i) : exOf con r = true := by
  obtain ⟨c, hc, _, hr⟩ := mem_conOf.1 h
  simp only [exOf, List.any_eq_true]
  exact ⟨c, hc, by simpa using hr⟩
theorem dirB_lt {i k : Nat} (h : dirB ops i k = true) : i < ops.size := by
  unfold dirB at h
  split at h
  · rename_i o ho; exact (Array.getElem?_eq_some_iff.1 ho).1
  · cases h

/-- The look's findings. -/
structure LawFacts (ops : Array Oper) (con : List (Nat × List Nat)) (m : Nat) : Prop where
  reads : ∀ (k i : Nat) (ok oi : Oper) (t : Tmp), ops[k]? = some ok → ok.dst = some t → ops[i]? = some oi → i ≠ k → t ∈ readsOf ops oi → if k < i then dirB ops i k = true else dirB ops k i = true
  deps : ∀ (k i : Nat) (ok : Oper) (t : Tmp), ops[k]? = some ok → ok.dst = some t → i < ops.size → i ≠ k → t ∈ depOf ops i → dirB ops i k = true
  con1 : ∀ i r, r ∈ conOf con i → i < ops.size ∧ r < m + ops.size ∧ (m ≤ r → dirB ops i (r - m) = true)
  con2 : ∀ i j r, r ∈ conOf con i → r ∈ conOf con j → i = j
  lt : ∀ i k, dirB ops i k = true → k < i

theorem lawFacts (hB : lawB ops con m = true) : LawFacts ops con m := by
  simp only [lawB, Bool.and_eq_true] at hB
  obtain ⟨⟨⟨hB1, hB2⟩, hB3⟩, hB4⟩ := hB
  refine ⟨?_, ?_, ?_, ?_, ?_⟩
  · intro k i ok oi t hk ht hi hik htr
    have hks : k < ops.size := (Array.getElem?_eq_some_iff.1 hk).1
    have his : i < ops.size := (Array.getElem?_eq_some_iff.1 hi).1
    have h := List.all_eq_true.1 hB1 k (List.mem_range.2 hks)
    simp only [hk, Option.bind_some, ht, List.all_eq_true, List.mem_range, Bool.or_eq_true, beq_iff_eq, Bool.and_eq_true] at h
    have h1 := ((h i his).resolve_left hik).1
    simp only [hi, Bool.or_eq_true, Bool.not_eq_true', List.contains_eq_mem, htr, decide_true, Bool.true_eq_false, false_or] at h1
    split <;> rename_i hkj <;> simpa [hkj] using h1
  · intro k i ok t hk ht his hik htr
    have hks : k < ops.size := (Array.getElem?_eq_some_iff.1 hk).1
    have h := List.all_eq_true.1 hB1 k (List.mem_range.2 hks)
    simp only [hk, Option.bind_some, ht, List.all_eq_true, List.mem_range, Bool.or_eq_true, beq_iff_eq, Bool.and_eq_true] at h
    have h1 := ((h i his).resolve_left hik).2
    simpa [htr] using h1
  · intro i r hr
    obtain ⟨c, hc, rfl, hrc⟩ := mem_conOf.1 hr
    have h := List.all_eq_true.1 hB2 c hc
    simp only [Bool.and_eq_true, decide_eq_true_eq, List.all_eq_true, Bool.or_eq_true] at h
    obtain ⟨h1, h2⟩ := h
    obtain ⟨h3, h4⟩ := h2 r hrc
    exact ⟨h1, h3, fun hm => h4.resolve_left (by omega)⟩
  · intro i j r hi hj
    obtain ⟨c, hc, rfl, hrc⟩ := mem_conOf.1 hi
    obtain ⟨d, hd, rfl, hrd⟩ := mem_conOf.1 hj
    have h := List.all_eq_true.1 (List.all_eq_true.1 hB3 c hc) d hd
    simp only [Bool.or_eq_true, beq_iff_eq, List.all_eq_true, Bool.not_eq_true'] at h
    rcases h with h | h
    · exact h
    · have := h r hrc
      simp [hrd] at this
  · intro i k h
    have his := dirB_lt h
    have h4 := List.all_eq_true.1 hB4 i (List.mem_range.2 his)
    unfold dirB at h
    obtain ⟨o, ho⟩ : ∃ o, ops[i]? = some o := ⟨_, Array.getElem?_eq_getElem his⟩
    simp only [ho] at h h4
    rw [Array.any_eq_true'] at h
    obtain ⟨e, he, hb⟩ := h
    rw [Array.all_eq_true_iff_forall_mem] at h4
    have := h4 e he
    simp only [Bool.and_eq_true, beq_iff_eq, Bool.or_eq_true, Bool.not_eq_true', decide_eq_true_eq] at hb this
    rcases this with h5 | h5
    · rw [hb.1] at h5; cases h5
    · rw [← hb.2]; exact h5

theorem law_step (hF : LawFacts ops con m)
    (hloc : ∀ r, r < m + ops.size → ∀ (a a' : Act) (S : List Nat) (w w' : World), (m ≤ r → ∀ t ∈ depOf ops (r - m), a'.tmps.getD t undef = a.tmps.getD t undef) → Agr X w₀ S w w' → As r a S w → As r a' S w')
    {i : Nat} {o : Oper} (ho : ops[i]? = some o) (hop : OpOk P ops X a₀ w₀ As con m i o)
    {listed : Array Bool} {a : Act} {w : World} {S : Nat → List Nat} (hI : LawInv ops X a₀ w₀ As con m listed a w S) (hr : i ∈ Region.ready .any ops listed) :
    wpOp P ops Q i (fun a' w' => ∃ S', LawInv ops X a₀ w₀ As con m (listed.setIfInBounds i true) a' w' S') a w := by
  have hi : i < ops.size := (Array.getElem?_eq_some_iff.1 ho).1
  obtain ⟨hnl, o', ho', hpre⟩ := mem_ready.1 hr
  rw [ho] at ho'; cases ho'
  have hil : i < listed.size := by rw [hI.lsize]; exact hi
  have hT : ∀ k, listed.getD k false = true → listed.getD k true = true := by
    intro k hk
    by_cases h : k < listed.size
    · simpa [Array.getElem?_eq_getElem h] using hk
    · simp [Array.getElem?_eq_none (Nat.le_of_not_lt h)]
  have hdir : ∀ k, dirB ops i k = true → listed.getD k true = true := by
    intro k hk
    simp only [dirB, ho, Array.any_eq_true', Bool.and_eq_true, beq_iff_eq] at hk
    obtain ⟨e, he, hb, rfl⟩ := hk
    exact hT _ (hpre e he hb)
  have hno : ∀ k, listed.getD k true = true → dirB ops k i = true → False := fun k hk hd => by
    rw [hI.closed k i hk hd] at hnl; cases hnl
  have hconlive : ∀ r ∈ conOf con i, Live ops con m listed r := by
    intro r hr'
    obtain ⟨_, h3, h4⟩ := hF.con1 i r hr'
    refine ⟨fun hm => hdir _ (h4 hm), h3, fun k hk hlk hrk => ?_⟩
    rw [← hF.con2 i k r hr' hrk, hnl] at hlk
    cases hlk
  have havlive : ∀ r ∈ availOf ops con m i, Live ops con m listed r := by
    intro r hr'
    rcases mem_availOf.1 hr' with ⟨k, hk, hd, hex, rfl⟩ | hc
    · refine ⟨fun _ => by rw [Nat.add_sub_cancel_left]; exact hdir k hd, by omega, fun j _ _ hrj => ?_⟩
      rw [ex_of_con hrj] at hex; cases hex
    · exact hconlive r hc
  have key : ∀ a' w', OpPost ops As con m i o a w S a' w' → ∃ S', LawInv ops X a₀ w₀ As con m (listed.setIfInBounds i true) a' w' S' := by
    rintro a' w' ⟨v, S', rfl, h1, h2, h3, h4, h5, h6, h7⟩
    have hset : ∀ k, k ≠ i → (listed.setIfInBounds i true).getD k true = listed.getD k true := by
      intro k hk
      simp [Array.getElem?_setIfInBounds_ne (Ne.symm hk)]
    have hsi : (listed.setIfInBounds i true).getD i true = true := by simp [hil]
    have hmono : ∀ k, listed.getD k true = true → (listed.setIfInBounds i true).getD k true = true := by
      intro k hk
      by_cases hki : k = i
      · rw [hki]; exact hsi
      · rw [hset k hki]; exact hk
    have hlive : ∀ r, Live ops con m (listed.setIfInBounds i true) r → r ≠ m + i → Live ops con m listed r ∧ r ∉ conOf con i := by
      rintro r ⟨hl1, hl2, hl3⟩ hri
      refine ⟨⟨fun h => by rw [← hset (r - m) (by omega)]; exact hl1 h, hl2, fun k hk hlk => hl3 k hk (hmono k hlk)⟩, hl3 i hi hsi⟩
    have hkeep : ∀ r, Live ops con m listed r → r ∉ conOf con i → ∀ b ∈ S r, w'.heap[b]? = w.heap[b]? := by
      intro r hl hrc b hb
      refine h5 b (hI.inW r hl b hb).1 (fun r' hr' hb' => ?_)
      exact hI.apart r' r (hconlive r' hr') hl (by rintro rfl; exact hrc hr') (ex_of_con hr') b hb' hb
    have hold : ∀ b, b < w₀.heap.size → ¬ X b → w'.heap[b]? = w.heap[b]? := by
      intro b hb hx
      refine h5 b (Nat.lt_of_lt_of_le hb hI.cls.size) (fun r' hr' hb' => hx ((hI.inW r' (hconlive r' hr') b hb').2 hb))
    have hdst : ∀ r, Live ops con m listed r → r ≠ m + i → m ≤ r → ∀ t ∈ depOf ops (r - m), (a.put o.dst v).tmps.getD t undef = a.tmps.getD t undef := by
      intro r hl hri hm t ht
      refine getD_put_ne (fun hd => ?_)
      exact hno (r - m) (hl.1 hm) (hF.deps i (r - m) o t ho hd (by have := hl.2.1; omega) (by omega) ht)
    refine ⟨fun r => if r = m + i then S' else S r, ?_⟩
    refine ⟨by simpa using hI.lsize, size_put.trans hI.tsize, defers_put.trans hI.defers, ?_, ?_, ?_, ?_, ?_, ?_⟩
    · intro k j hk hd
      by_cases hki : k = i
      · subst hki; exact hmono j (hdir j hd)
      · exact hmono j (hI.closed k j (by rw [← hset k hki]; exact hk) hd)
    · intro t ht
      rw [getD_put_ne (ht i o ho hsi)]
      exact hI.rest t (fun k ok hk hlk => ht k ok hk (hmono k hlk))
    · exact ⟨h1.trans hI.cls.os, h2.trans hI.cls.tape, h3.trans hI.cls.output, Nat.le_trans hI.cls.size h4, fun b hb hx => (hold b hb hx).trans (hI.cls.block b hb hx)⟩
    · intro r hl
      by_cases hri : r = m + i
      · subst hri; simpa using h7
      · obtain ⟨hl', hrc⟩ := hlive r hl hri
        simp only [if_neg hri]
        exact hloc r hl.2.1 a _ (S r) w w' (fun hm => hdst r hl' hri hm) ⟨h4, hold, hkeep r hl' hrc⟩ (hI.holds r hl')
    · intro r hl b hb
      by_cases hri : r = m + i
      · simp only [if_pos hri] at hb
        rcases h6 b hb with h | ⟨r', hr', hb'⟩ | ⟨_, r', hr', _, hb'⟩
        · exact ⟨h.2, fun hlt => by have := hI.cls.size; omega⟩
        · have := hI.inW r' (hconlive r' hr') b hb'; exact ⟨by omega, this.2⟩
        · have := hI.inW r' (havlive r' hr') b hb'; exact ⟨by omega, this.2⟩
      · obtain ⟨hl', _⟩ := hlive r hl hri
        simp only [if_neg hri] at hb
        have := hI.inW r hl' b hb
        exact ⟨by omega, this.2⟩
    · intro r r' hl hl' hne hex b hb
      by_cases hri : r = m + i
      · have hri' : r' ≠ m + i := by omega
        obtain ⟨hl2, hrc⟩ := hlive r' hl' hri'
        simp only [if_pos hri] at hb
        simp only [if_neg hri']
        intro hb2
        rcases h6 b hb with h | ⟨q, hq, hbq⟩ | ⟨hx, _⟩
        · have := (hI.inW r' hl2 b hb2).1; omega
        · exact hI.apart q r' (hconlive q hq) hl2 (by rintro rfl; exact hrc hq) (ex_of_con hq) b hbq hb2
        · rw [hri, hx] at hex; cases hex
      · obtain ⟨hl2, hrc⟩ := hlive r hl hri
        simp only [if_neg hri] at hb
        by_cases hri' : r' = m + i
        · simp only [if_pos hri']
          intro hb2
          rcases h6 b hb2 with h | ⟨q, hq, hbq⟩ | ⟨_, q, hq, hxq, hbq⟩
          · have := (hI.inW r hl2 b hb).1; omega
          · exact hI.apart q r (hconlive q hq) hl2 (by rintro rfl; exact hrc hq) (ex_of_con hq) b hbq hb
          · exact hI.apart r q hl2 (havlive q hq) (by rintro rfl; rw [hex] at hxq; cases hxq) hex b hb hbq
        · simp only [if_neg hri']
          exact hI.apart r r' hl2 (hlive r' hl' hri').1 hne hex b hb
  unfold wpOp
  simp only [ho]
  have hw := hop a w S hI.tsize hI.defers hI.cls ?_ (fun r hr' => hI.holds r (havlive r hr'))
  · split
    · rename_i hwt; rw [if_pos hwt] at hw; exact .inl (oper_wp_cut hw key)
    · rename_i hwt; rw [if_neg hwt] at hw; exact key _ _ hw
  · intro t ht hnone
    refine hI.rest t (fun k ok hk hlk hdst => ?_)
    by_cases hki : k < i
    · exact hnone k ok hki hk hdst
    · by_cases hkk : k = i
      · subst hkk; rw [hnl] at hlk; cases hlk
      · have h1 := hF.reads k i ok o t hk hdst ho (Ne.symm hkk) ht
        rw [if_neg hki] at h1
        exact hno k hlk h1

theorem all_listed (hF : LawFacts ops con m) {listed : Array Bool} (hs : listed.size = ops.size) (hr : Region.ready .any ops listed = []) : ∀ k, listed.getD k true = true := by
  intro k
  induction k using Nat.strongRecOn with
  | _ k ih =>
    by_cases hk : k < ops.size
    · cases hl : listed.getD k true with
      | true => rfl
      | false =>
        exfalso
        have : k ∈ Region.ready .any ops listed := by
          refine mem_ready.2 ⟨hl, ops[k], Array.getElem?_eq_getElem hk, fun e he hb => ?_⟩
          have hd : dirB ops k e.on = true := by
            unfold dirB
            rw [Array.getElem?_eq_getElem hk]
            simp only [Array.any_eq_true']
            exact ⟨e, he, by simp [hb]⟩
          have hlt := hF.lt k e.on hd
          have h := ih e.on hlt
          have : e.on < listed.size := by omega
          simpa [Array.getElem?_eq_getElem this] using h
        rw [hr] at this; cases this
    · simp [Array.getElem?_eq_none (show listed.size ≤ k by omega)]

theorem count_set {listed : Array Bool} {i : Nat} (hi : i < listed.size) (h : listed.getD i true = false) : (listed.setIfInBounds i true).toList.count false + 1 = listed.toList.count false := by
  have hv : listed[i] = false := by simpa [Array.getElem?_eq_getElem hi] using h
  have hl : i < listed.toList.length := by simpa using hi
  have hv' : listed.toList[i] = false := by simpa using hv
  have hpos : 0 < listed.toList.count false := by
    rw [List.count_pos_iff, ← hv']; exact List.getElem_mem _
  have h2 := List.count_set (a := true) (b := false) hl
  rw [Array.toList_setIfInBounds, h2, hv']
  simp only [beq_self_eq_true, if_true]
  have : ((true == false) = true) = False := by simp
  simp only [this, if_false]
  omega

theorem law_any (hF : LawFacts ops con m)
    (hloc : ∀ r, r < m + ops.size → ∀ (a a' : Act) (S : List Nat) (w w' : World), (m ≤ r → ∀ t ∈ depOf ops (r - m), a'.tmps.getD t undef = a.tmps.getD t undef) → Agr X w₀ S w w' → As r a S w → As r a' S w')
    (hop : ∀ i o, ops[i]? = some o → OpOk P ops X a₀ w₀ As con m i o)
    (hfin : ∀ listed a w S, (∀ k, listed.getD k true = true) → LawInv ops X a₀ w₀ As con m listed a w S → Q .normal a w) :
    ∀ (fuel : Nat) (listed : Array Bool) (a : Act) (w : World), listed.toList.count false ≤ fuel → (∃ S, LawInv ops X a₀ w₀ As con m listed a w S) → wpAny P .any ops Q fuel listed a w := by
  intro fuel
  induction fuel with
  | zero =>
    rintro listed a w hc ⟨S, hI⟩
    have hr : Region.ready .any ops listed = [] := by
      apply List.eq_nil_iff_forall_not_mem.2
      intro i hi
      obtain ⟨hnl, _⟩ := mem_ready.1 hi
      have hlt : i < listed.size := by
        rcases Nat.lt_or_ge i listed.size with h | h
        · exact h
        · simp [Array.getElem?_eq_none h] at hnl
      have := count_set hlt hnl
      omega
    exact ⟨hr, hfin listed a w S (all_listed hF hI.lsize hr) hI⟩
  | succ fuel ih =>
    rintro listed a w hc ⟨S, hI⟩
    refine ⟨fun hr => hfin listed a w S (all_listed hF hI.lsize hr) hI, fun i hi => ?_⟩
    obtain ⟨hnl, o, ho, _⟩ := mem_ready.1 hi
    have hlt : i < listed.size := by
      rcases Nat.lt_or_ge i listed.size with h | h
      · exact h
      · simp [Array.getElem?_eq_none h] at hnl
    have hcs := count_set hlt hnl
    have hs := law_step (Q := Q) hF hloc ho (hop i o ho) hI hi
    unfold wpOp at hs ⊢
    simp only [ho] at hs ⊢
    split
    · rename_i hwt
      rw [if_pos hwt] at hs
      rcases hs with hs | hs
      · exact .inl (Oper.wp_mono (fun a' w' h' => ih _ a' w' (by omega) h') hs)
      · exact .inr hs
    · rename_i hwt
      rw [if_neg hwt] at hs
      exact ih _ _ _ (by omega) hs
end
end Go.Proofs.Ytekjkaoibcfgfaa
