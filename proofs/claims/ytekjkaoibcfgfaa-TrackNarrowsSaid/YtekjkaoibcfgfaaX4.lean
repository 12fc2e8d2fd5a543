/- The range over a map whose keys are 0, 1, .. : in any order. -/
import Derived.Test.YtekjkaoibcfgfaaX3
namespace Go.Proofs.Ytekjkaoibcfgfaa
open Go.RowKit
open Go.ChangeMaps (setBlock)
set_option linter.unusedSimpArgs false
set_option linter.unusedVariables false

/-- keys and times of the entries of a map -/
structure KB where
  K : Nat → Nat
  B : Nat → Nat
  c : Nat
def KB.id (n : Nat) : KB := ⟨fun i => i, fun i => i, n⟩
structure KB.ok (kb : KB) (n : Nat) : Prop where
  lt : ∀ i, i < n → kb.B i < kb.c
  inj : ∀ i j, i < n → j < n → kb.B i = kb.B j → i = j
theorem KB.id_ok (n : Nat) : (KB.id n).ok n := ⟨fun _ h => h, fun _ _ _ _ h => h⟩
def entMe (kb : KB) (i : Nat) (m : Me) : MapEntry := ⟨.int .i64 (kb.K i : Int), vMe m, kb.B i⟩
def entsL (kb : KB) (ms : List Me) : List MapEntry := ms.mapIdx (entMe kb)
def entsMe (kb : KB) (ms : List Me) : Array MapEntry := (entsL kb ms).toArray
theorem ents_mem {kb : KB} {ms : List Me} {x : MapEntry} : x ∈ (entsMe kb ms).toList ↔ ∃ i m, ms[i]? = some m ∧ x = entMe kb i m := by
  simp only [entsMe, entsL, List.mem_mapIdx]
  constructor
  · rintro ⟨i, h, rfl⟩; exact ⟨i, ms[i], by simp, rfl⟩
  · rintro ⟨i, m, h, rfl⟩
    obtain ⟨h1, h2⟩ := List.getElem?_eq_some_iff.1 h
    exact ⟨i, h1, by rw [h2]⟩
theorem ents_nodup {kb : KB} {ms : List Me} (hk : kb.ok ms.length) : ((entsMe kb ms).toList.map (·.born)).Nodup := by
  simp only [entsMe, entsL]
  unfold List.Nodup
  rw [List.pairwise_iff_getElem]
  intro i j hi hj hij e
  simp only [List.length_map, List.length_mapIdx] at hi hj
  simp only [List.getElem_map, List.getElem_mapIdx] at e
  exact absurd (hk.inj i j hi hj e) (by omega)
theorem ents_nodup_born {kb : KB} {ms : List Me} (hk : kb.ok ms.length) {seen : List Nat} {i : Nat} (hs : ∀ x ∈ seen, x < ms.length) (hi : i < ms.length) : kb.B i ∈ seen.map kb.B ↔ i ∈ seen := by
  rw [List.mem_map]
  constructor
  · rintro ⟨x, hx, e⟩
    have := hk.inj x i (hs x hx) hi e
    subst this; exact hx
  · exact fun h => ⟨i, h, rfl⟩

/-- an iterator over a map that has handed out some -/
def Ent.it (r m : Nat) (kb : KB) (seen : List Nat) : Ent := ⟨(· = r), fun w => w.heap[r]? = some (.mapIter (some m) kb.c (seen.map kb.B).toArray kb.c), fun _ _ h hp => (h r rfl).trans hp⟩
section
variable {P : Program} {w0 : World} {n : Nat} {d : List Deferred} {R : List (Nat × Value)} {H H' : List Ent} {Q : Exit → Act → World → Prop} {ops : Array Oper} {rest : List Oper} {o : Oper} {t : Tmp} {x y : Operand}
theorem own_it (w : World) (m : Nat) (kb : KB) : Own w.heap.size (w.alloc (.mapIter (some m) kb.c #[] kb.c)) [.it w.heap.size m kb []] :=
  ⟨fun e he => by simp only [List.mem_singleton] at he; subst he; exact heap_alloc_new w _, fun e he b hb => by simp only [List.mem_singleton] at he; subst he; cases hb; simp, by simp⟩
theorem u_range {T1 k e : TypeId} {s m : Nat} {g : Bool} {kb : KB} {ms : List Me} (hop : o.op = .range T1 x) [i1 : TyI P T1 (.map k e) s g] (hw : want R ops o = some true) (hd : o.dst = some t) (ht : Nat.blt t n = true) (hx : evR R x = some (.map (some m)))
    (hm : ∀ w, Below w0.heap.size w0 w → w.heap[m]? = some (.map (entsMe kb ms) kb.c)) (h : ∀ r, U w0 n d ((t, .pointer (some ⟨r, 0, none⟩)) :: R) (.it r m kb [] :: H) (wpList P ops Q rest)) : U w0 n d R H (wpList P ops Q (o :: rest)) :=
  u_op hw fun a w q K hK => by
    have e1 := run_underlying i1.und w
    have e2 := hm w q.below
    unfold Oper.wp execOp; rw [hop]
    have hrun : (Instr.range T1 (.map (some m))).run P w = .ok (.pointer (some ⟨w.heap.size, 0, none⟩)) (w.alloc (.mapIter (some m) kb.c #[] kb.c)) := by
      simp [Instr.range, e1, getObj, Sem.run_bind, Sem.run, e2]
    simp only [Sem.run_bind, q.ev hx, hrun, Result.andThen_ok, Sem.run_pure, Oper.upon_value, hd]
    exact hK _ _ (h w.heap.size _ _ ((q.call (below_alloc w _) (own_it w m kb)).put ht))
theorem below_setBlock {w w1 : World} {r : Nat} {ob : Obj} {B : Nat} (h1 : w1 = w ∨ w1 = w.drew) (hr : B ≤ r) : Below B w (setBlock w1 r ob) := by
  rcases h1 with rfl | rfl <;> exact ⟨rfl, rfl, rfl, by simp [setBlock], fun b hb => by
    simp only [setBlock]
    rw [Array.getElem?_setIfInBounds_ne (by omega)]
    try rfl⟩
theorem u_next {m r : Nat} {seen : List Nat} {kb : KB} {ms : List Me} (hop : o.op = .next x false) (hw : want R ops o = some true) (hd : o.dst = some t) (ht : Nat.blt t n = true) (hx : evR R x = some (.pointer (some ⟨r, 0, none⟩))) (htk : Take H (.it r m kb seen) H')
    (hm : ∀ w, Below w0.heap.size w0 w → w.heap[m]? = some (.map (entsMe kb ms) kb.c)) (hk : kb.ok ms.length) (hsn : ∀ x ∈ seen, x < ms.length) (h1 : (∀ i, i < ms.length → i ∈ seen) → U w0 n d ((t, .tuple #[.bool false]) :: R) H (wpList P ops Q rest))
    (h2 : ∀ i me, ms[i]? = some me → i ∉ seen → U w0 n d ((t, .tuple #[.bool true, .int .i64 (kb.K i : Int), vMe me]) :: R) (.it r m kb (seen ++ [i]) :: H') (wpList P ops Q rest)) : U w0 n d R H (wpList P ops Q (o :: rest)) :=
  u_op hw fun a w q K hK => by
    have e2 := hm w q.below
    have ho := q.own.take htk
    have hr : w.heap[r]? = some (.mapIter (some m) kb.c (seen.map kb.B).toArray kb.c) := ho.here (.it r m kb seen) (by simp)
    have hfoot := ho.foot (.it r m kb seen) (by simp) r rfl
    have hold : ∀ x ∈ (entsMe kb ms).toList, x.born < kb.c := fun x hx => by
      obtain ⟨i, me, hi, rfl⟩ := ents_mem.1 hx
      exact hk.lt i (List.getElem?_eq_some_iff.1 hi).1
    unfold Oper.wp execOp; rw [hop]
    rcases run_next_at (P := P) w o.type r m kb.c kb.c (seen.map kb.B).toArray (entsMe kb ms) kb.c hr e2 hold (Nat.le_refl _) with ⟨h0, hrun⟩ | ⟨e, he, w1, hw1, hrun⟩
    · simp only [Sem.run_bind, q.ev hx, hrun, Result.andThen_ok, Sem.run_pure, Oper.upon_value, hd]
      refine hK _ _ (h1 (fun i hi => ?_) _ _ (q.put ht))
      have hmem : entMe kb i ms[i] ∈ (entsMe kb ms).toList := ents_mem.2 ⟨i, ms[i], by simp [hi], rfl⟩
      have h9 : leftOf (entsMe kb ms) (seen.map kb.B).toArray = #[] := Array.eq_empty_of_size_eq_zero h0
      unfold leftOf at h9
      rw [Array.filter_eq_empty_iff] at h9
      have := h9 (entMe kb i ms[i]) (by simpa using hmem)
      rw [← ents_nodup_born hk hsn hi]
      simpa [entMe] using this
    · have he' : e ∈ (entsMe kb ms).toList ∧ e.born ∉ seen.map kb.B := by
        unfold leftOf at he
        simpa using he
      obtain ⟨i, me, hi, rfl⟩ := ents_mem.1 he'.1
      have hni : i ∉ seen := fun h => he'.2 ((ents_nodup_born hk hsn (List.getElem?_eq_some_iff.1 hi).1).2 h)
      simp only [Sem.run_bind, q.ev hx, hrun, Result.andThen_ok, Sem.run_pure, Oper.upon_value, hd]
      refine hK _ _ (h2 i me hi hni _ _ ((q.heap (q.below.trans (below_setBlock hw1 hfoot.1)) (ho.turn ?_ ?_ q.base ?_ ?_)).put ht))
      · rcases hw1 with rfl | rfl <;> simp [setBlock]
      · intro b hb hn
        have hne : r ≠ b := fun e => hn e.symm
        rcases hw1 with rfl | rfl <;> (simp only [setBlock]; rw [Array.getElem?_setIfInBounds_ne hne]; try rfl)
      · rcases hw1 with rfl | rfl <;> simp [Ent.it, setBlock, entMe, hfoot.2]
      · intro b hb
        cases hb
        refine ⟨.inl rfl, ?_⟩
        rcases hw1 with rfl | rfl <;> simp [setBlock, hfoot.2]
theorem u_entry {m r i : Nat} {seen : List Nat} {kb : KB} {ms : List Me} {me : Me} (hop : o.op = .entry x) (hw : want R ops o = some true) (hd : o.dst = some t) (ht : Nat.blt t n = true) (hx : evR R x = some (.pointer (some ⟨r, 0, none⟩))) (htk : Take H (.it r m kb (seen ++ [i])) H')
    (hm : ∀ w, Below w0.heap.size w0 w → w.heap[m]? = some (.map (entsMe kb ms) kb.c)) (hk : kb.ok ms.length) (hi : ms[i]? = some me) (h : U w0 n d ((t, .tuple #[.int .i64 (kb.K i : Int), vMe me]) :: R) H (wpList P ops Q rest)) : U w0 n d R H (wpList P ops Q (o :: rest)) :=
  u_val hw hd ht (fun a w q => by
    have e2 := hm w q.below
    have hr : w.heap[r]? = some (.mapIter (some m) kb.c ((seen ++ [i]).map kb.B).toArray kb.c) := (q.own.take htk).here (.it r m kb (seen ++ [i])) (by simp)
    have e3 : ((seen ++ [i]).map kb.B).toArray = (seen.map kb.B).toArray.push (entMe kb i me).born := by simp [entMe]
    rw [e3] at hr
    have := run_entry_at (P := P) w r m kb.c (seen.map kb.B).toArray (entsMe kb ms) kb.c (entMe kb i me) hr e2 (ents_mem.2 ⟨i, me, hi, rfl⟩) (ents_nodup hk)
    unfold execOp; rw [hop]
    simp only [Sem.run_bind, q.ev hx, this, Result.andThen_ok, Sem.run_pure]
    rfl) h
end
end Go.Proofs.Ytekjkaoibcfgfaa
