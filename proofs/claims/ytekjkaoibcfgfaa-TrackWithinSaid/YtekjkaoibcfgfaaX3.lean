/- kinds, slices.Clone; the range over a map. -/
import Derived.Test.YtekjkaoibcfgfaaX1
import Derived.Test.YtekjkaoibcfgfaaV4
import Derived.Maps.RangeRun
import Derived.Lib.SliceRun
namespace Go.Proofs.Ytekjkaoibcfgfaa
open Go.RowKit
set_option maxRecDepth 20000
set_option linter.unusedSimpArgs false
set_option linter.unusedVariables false

instance : TyI Try.prog 151 ((Try.prog.underlying 151).getD (.slice 0)) 1 true := ⟨by rw [Try.underlying151]; rfl, Try.sizeOf151, Try.isAgg151⟩
instance : TyZ Try.prog 151 [.nilFunc] := ⟨fun w => ⟨_, Try.zeroValue151 w, rfl⟩⟩
instance : TyB Try.prog 151 [(0, 1)] [.nilFunc] := tyB_struct (zv := .agg #[.nilFunc]) (by kernel_rfl) rfl Try.underlying151 (by kernel_rfl)
instance : FoI Try.prog 151 0 0 := foI (T := 151) (m := 0) ⟨Try.underlying151, Try.sizeOf151, Try.isAgg151⟩ rfl (inferInstance : TyI Try.prog 149 _ _ _) rfl rfl
section
variable {P : Program} {w0 : World} {n : Nat} {d : List Deferred} {R : List (Nat × Value)} {H H' : List Ent} {Q : Exit → Act → World → Prop} {ops : Array Oper} {rest : List Oper} {o : Oper} {t : Tmp} {x y : Operand}
theorem x_buildA {T1 : TypeId} {ps : Array (Nat × Operand)} {s : Nat} {z : List Value} {qs : List (Nat × Value)} (hop : o.op = .build T1 ps) [i1 : TyBA P T1 s z] (hw : want R ops o = some true) (hd : o.dst = some t) (ht : Nat.blt t n = true) (hp : evp R ps.toList = some qs)
    (h : ∃ cs, fillL (fun i => some (i * s, s)) z qs = some cs ∧ U w0 n d ((t, .agg cs.toArray) :: R) H (wpList P ops Q rest)) : U w0 n d R H (wpList P ops Q (o :: rest)) := by
  obtain ⟨cs, hf, h⟩ := h
  exact u_val hw hd ht (fun a w q => by
    unfold execOp; rw [hop]
    have e1 : (ps.map fun (i, x) => (i, a.eval x)).toList = qs := by rw [Array.toList_map]; exact q.evp hp
    have e2 : P.built T1 (ps.map fun (i, x) => (i, a.eval x)).toList = some cs.toArray := by
      rw [i1.bui, e1]
      exact fill_eq _ qs z cs hf
    simp only [Sem.run_bind, run_build w T1 _ _ e2, Result.andThen_ok, Sem.run_pure]) h
end
theorem kinds_any (w : World) : Gv Try.prog 95 [] w (.agg #[.nilFunc, .func (.func 101) #[] #[], .func (.func 102) #[] #[]]) := by
  unfold Gv
  (refine ret_enter (n := 4) Try.func95 rfl rfl rfl ?_)
  (repeat' (first | ((with_reducible refine isOps ?_); first | (refine x_buildA rfl rfl rfl rfl rfl ?_; refine ⟨_, rfl, ?_⟩) | (refine x_store rfl rfl rfl rfl rfl ?_; refine And.intro rfl (And.intro (by first | decide | exact Nat.le_of_ble_eq_true rfl | (simp; omega)) ⟨_, rfl, ?_⟩)) | (refine u_alloc rfl rfl rfl rfl (fun b => ?_)) | (refine x_build rfl rfl rfl rfl rfl ?_; refine ⟨_, rfl, ?_⟩)) | (with_reducible first | refine u_seq ?_ | refine u_region ?_ | refine u_nil ?_ | refine u_then_n ?_ | refine u_ret ?_)))
  exact u_done (by (exact ResL.cons (by exact res1c rfl (by exact rfl)) ResL.nil)) () trivial rfl (fun _ h => h.sub (by (repeat (first | exact Out.nil _ | (refine Out.cons (by (repeat (first | exact Take.here _ _ | apply Take.there))) ?_)))))
theorem kind1_any (b o : Nat) (w : World) : Gv Try.prog 101 [.pointer (some ⟨b, o, none⟩)] w (.pointer (some ⟨b, o + 1, none⟩)) := by
  unfold Gv
  (refine ret_enter (n := 6) Try.func101 rfl rfl rfl ?_)
  (repeat' (first | ((with_reducible refine isOps ?_); first | refine u_move rfl rfl rfl rfl rfl ?_ | refine u_assign rfl rfl rfl rfl rfl ?_ | refine u_field rfl rfl rfl rfl rfl ?_ | refine u_nilCheck rfl rfl rfl rfl rfl ?_) | (with_reducible first | refine u_seq ?_ | refine u_region ?_ | refine u_nil ?_ | refine u_then_n ?_ | refine u_ret ?_)))
  exact u_done (by (exact ResL.cons (by exact Res1.tmp rfl) ResL.nil)) () trivial rfl (fun _ h => h.sub (by (repeat (first | exact Out.nil _ | (refine Out.cons (by (repeat (first | exact Take.here _ _ | apply Take.there))) ?_)))))
theorem kind2_any (b o : Nat) (w : World) : Gv Try.prog 102 [.pointer (some ⟨b, o, none⟩)] w (.pointer (some ⟨b, o + 3, none⟩)) := by
  unfold Gv
  (refine ret_enter (n := 6) Try.func102 rfl rfl rfl ?_)
  (repeat' (first | ((with_reducible refine isOps ?_); first | refine u_move rfl rfl rfl rfl rfl ?_ | refine u_assign rfl rfl rfl rfl rfl ?_ | refine u_field rfl rfl rfl rfl rfl ?_ | refine u_nilCheck rfl rfl rfl rfl rfl ?_) | (with_reducible first | refine u_seq ?_ | refine u_region ?_ | refine u_nil ?_ | refine u_then_n ?_ | refine u_ret ?_)))
  exact u_done (by (exact ResL.cons (by exact Res1.tmp rfl) ResL.nil)) () trivial rfl (fun _ h => h.sub (by (repeat (first | exact Out.nil _ | (refine Out.cons (by (repeat (first | exact Take.here _ _ | apply Take.there))) ?_)))))

theorem run_eql_some_nil {P : Program} (w : World) {t e : TypeId} (a : Addr) (n c : Nat) (ht : P.underlying t = some (.slice e)) : (binOp .eql t (.slice (some a) n c) (.slice none 0 0)).run P w = .ok (.bool false) w := by
  have := Lib.run_eql_slice_nil (P := P) w t e (some a) n c 0 0 ht
  simpa using this
section
variable {P : Program} {w0 : World} {n : Nat} {d : List Deferred} {R : List (Nat × Value)} {H H' : List Ent} {Q : Exit → Act → World → Prop} {ops : Array Oper} {rest : List Oper} {o : Oper} {t : Tmp} {x y : Operand}
theorem u_eqlNil {T1 T2 e : TypeId} {s m c : Nat} {g : Bool} {A : Addr} (hop : o.op = .binOp .eql T1 x y T2) [i1 : TyI P T1 (.slice e) s g] (hw : want R ops o = some true) (hd : o.dst = some t) (ht : Nat.blt t n = true) (hx : evR R x = some (.slice (some A) m c)) (hy : evR R y = some (.slice none 0 0))
    (h : U w0 n d ((t, .bool false) :: R) H (wpList P ops Q rest)) : U w0 n d R H (wpList P ops Q (o :: rest)) :=
  u_eql (b := false) hop hw hd ht hx hy (fun w => by simp [eqGuard]) (fun w => run_eql_some_nil w A m c i1.und) (fun h => by cases h) (fun _ => h)
end

theorem clone_any (t : List St) (A : Option Addr) (c : Nat) (w : World) (ht : SlAt encSt 9 w A t) (h0 : 0 < t.length) (hl : t.length ≤ 1000) :
    Ret Try.prog 94 [.slice A t.length c] w (fun p : Option Addr × Nat => .slice p.1 t.length p.2) (fun p => [.row encSt 9 82 (.slice p.1 t.length p.2) t]) (fun _ => True) := by
  obtain ⟨bb, o, rfl, _⟩ := ht.at_ h0
  (refine ret_enter (n := 8) Try.func94 rfl rfl rfl ?_)
  (repeat' (first | ((with_reducible refine isOps ?_); first | refine u_move rfl rfl rfl rfl rfl ?_ | refine u_assign rfl rfl rfl rfl rfl ?_ | refine u_eqlNil rfl rfl rfl rfl rfl rfl ?_ | (refine u_buildNil encSt rfl rfl rfl rfl (fun b => ?_)) | (refine u_append (enc := encSt) t rfl rfl rfl rfl rfl (by (repeat (first | exact Take.here _ _ | apply Take.there))) rfl rfl (src_in ht) (by refine ⟨?_, by decide⟩; (try simp only [List.length_append, List.length_cons, List.length_nil]); omega) (fun A' c' => ?_))) | (with_reducible first | refine u_seq ?_ | refine u_region ?_ | refine u_nil ?_ | refine u_then_n ?_ | refine u_ret ?_ | refine u_skip ?_) | ((with_reducible refine u_cond_f ?_ ?_); (· exact rfl))))
  exact u_done (by (exact ResL.cons (by exact Res1.tmp rfl) ResL.nil)) (A', c') trivial rfl (fun _ h => h.sub (by (repeat (first | exact Out.nil _ | (refine Out.cons (by (repeat (first | exact Take.here _ _ | apply Take.there))) ?_)))))
end Go.Proofs.Ytekjkaoibcfgfaa
/- The range over a map whose keys are 0, 1, .. : in any order. -/
namespace Go.Proofs.Ytekjkaoibcfgfaa
open Go.RowKit
open Go.ChangeMaps (setBlock)
set_option linter.unusedSimpArgs false
set_option linter.unusedVariables false

/-- keys and times of the entries of a map -/
structure KB where
  K : Nat → Nat
  B : Nat → Nat
  c : Nat
def KB.id (n : Nat) : KB := ⟨fun i => i, fun i => i, n⟩
structure KB.ok (kb : KB) (n : Nat) : Prop where
  lt : ∀ i, i < n → kb.B i < kb.c
  inj : ∀ i j, i < n → j < n → kb.B i = kb.B j → i = j
theorem KB.id_ok (n : Nat) : (KB.id n).ok n := ⟨fun _ h => h, fun _ _ _ _ h => h⟩
def entMe (kb : KB) (i : Nat) (m : Me) : MapEntry := ⟨.int .i64 (kb.K i : Int), vMe m, kb.B i⟩
def entsL (kb : KB) (ms : List Me) : List MapEntry := ms.mapIdx (entMe kb)
def entsMe (kb : KB) (ms : List Me) : Array MapEntry := (entsL kb ms).toArray
theorem ents_mem {kb : KB} {ms : List Me} {x : MapEntry} : x ∈ (entsMe kb ms).toList ↔ ∃ i m, ms[i]? = some m ∧ x = entMe kb i m := by
  simp only [entsMe, entsL, List.mem_mapIdx]
  constructor
  · rintro ⟨i, h, rfl⟩; exact ⟨i, ms[i], by simp, rfl⟩
  · rintro ⟨i, m, h, rfl⟩
    obtain ⟨h1, h2⟩ := List.getElem?_eq_some_iff.1 h
    exact ⟨i, h1, by rw [h2]⟩
theorem ents_nodup {kb : KB} {ms : List Me} (hk : kb.ok ms.length) : ((entsMe kb ms).toList.map (·.born)).Nodup := by
  simp only [entsMe, entsL]
  unfold List.Nodup
  rw [List.pairwise_iff_getElem]
  intro i j hi hj hij e
  simp only [List.length_map, List.length_mapIdx] at hi hj
  simp only [List.getElem_map, List.getElem_mapIdx] at e
  exact absurd (hk.inj i j hi hj e) (by omega)
theorem ents_nodup_born {kb : KB} {ms : List Me} (hk : kb.ok ms.length) {seen : List Nat} {i : Nat} (hs : ∀ x ∈ seen, x < ms.length) (hi : i < ms.length) : kb.B i ∈ seen.map kb.B ↔ i ∈ seen := by
  rw [List.mem_map]
  constructor
  · rintro ⟨x, hx, e⟩
    have := hk.inj x i (hs x hx) hi e
    subst this; exact hx
  · exact fun h => ⟨i, h, rfl⟩

/-- an iterator over a map that has handed out some -/
def Ent.it (r m : Nat) (kb : KB) (seen : List Nat) : Ent := ⟨(· = r), fun w => w.heap[r]? = some (.mapIter (some m) kb.c (seen.map kb.B).toArray kb.c), fun _ _ h hp => (h r rfl).trans hp⟩
section
variable {P : Program} {w0 : World} {n : Nat} {d : List Deferred} {R : List (Nat × Value)} {H H' : List Ent} {Q : Exit → Act → World → Prop} {ops : Array Oper} {rest : List Oper} {o : Oper} {t : Tmp} {x y : Operand}
theorem own_it (w : World) (m : Nat) (kb : KB) : Own w.heap.size (w.alloc (.mapIter (some m) kb.c #[] kb.c)) [.it w.heap.size m kb []] :=
  ⟨fun e he => by simp only [List.mem_singleton] at he; subst he; exact heap_alloc_new w _, fun e he b hb => by simp only [List.mem_singleton] at he; subst he; cases hb; simp, by simp⟩
theorem u_range {T1 k e : TypeId} {s m : Nat} {g : Bool} {kb : KB} {ms : List Me} (hop : o.op = .range T1 x) [i1 : TyI P T1 (.map k e) s g] (hw : want R ops o = some true) (hd : o.dst = some t) (ht : Nat.blt t n = true) (hx : evR R x = some (.map (some m)))
    (hm : ∀ w, Below w0.heap.size w0 w → w.heap[m]? = some (.map (entsMe kb ms) kb.c)) (h : ∀ r, U w0 n d ((t, .pointer (some ⟨r, 0, none⟩)) :: R) (.it r m kb [] :: H) (wpList P ops Q rest)) : U w0 n d R H (wpList P ops Q (o :: rest)) :=
  u_op hw fun a w q K hK => by
    have e1 := run_underlying i1.und w
    have e2 := hm w q.below
    unfold Oper.wp execOp; rw [hop]
    have hrun : (Instr.range T1 (.map (some m))).run P w = .ok (.pointer (some ⟨w.heap.size, 0, none⟩)) (w.alloc (.mapIter (some m) kb.c #[] kb.c)) := by
      simp [Instr.range, e1, getObj, Sem.run_bind, Sem.run, e2]
    simp only [Sem.run_bind, q.ev hx, hrun, Result.andThen_ok, Sem.run_pure, Oper.upon_value, hd]
    exact hK _ _ (h w.heap.size _ _ ((q.call (below_alloc w _) (own_it w m kb)).put ht))
theorem below_setBlock {w w1 : World} {r : Nat} {ob : Obj} {B : Nat} (h1 : w1 = w ∨ w1 = w.drew) (hr : B ≤ r) : Below B w (setBlock w1 r ob) := by
  rcases h1 with rfl | rfl <;> exact ⟨rfl, rfl, rfl, by simp [setBlock], fun b hb => by
    simp only [setBlock]
    rw [Array.getElem?_setIfInBounds_ne (by omega)]
    try rfl⟩
theorem u_next {m r : Nat} {seen : List Nat} {kb : KB} {ms : List Me} (hop : o.op = .next x false) (hw : want R ops o = some true) (hd : o.dst = some t) (ht : Nat.blt t n = true) (hx : evR R x = some (.pointer (some ⟨r, 0, none⟩))) (htk : Take H (.it r m kb seen) H')
    (hm : ∀ w, Below w0.heap.size w0 w → w.heap[m]? = some (.map (entsMe kb ms) kb.c)) (hk : kb.ok ms.length) (hsn : ∀ x ∈ seen, x < ms.length) (h1 : (∀ i, i < ms.length → i ∈ seen) → U w0 n d ((t, .tuple #[.bool false]) :: R) H (wpList P ops Q rest))
    (h2 : ∀ i me, ms[i]? = some me → i ∉ seen → U w0 n d ((t, .tuple #[.bool true, .int .i64 (kb.K i : Int), vMe me]) :: R) (.it r m kb (seen ++ [i]) :: H') (wpList P ops Q rest)) : U w0 n d R H (wpList P ops Q (o :: rest)) :=
  u_op hw fun a w q K hK => by
    have e2 := hm w q.below
    have ho := q.own.take htk
    have hr : w.heap[r]? = some (.mapIter (some m) kb.c (seen.map kb.B).toArray kb.c) := ho.here (.it r m kb seen) (by simp)
    have hfoot := ho.foot (.it r m kb seen) (by simp) r rfl
    have hold : ∀ x ∈ (entsMe kb ms).toList, x.born < kb.c := fun x hx => by
      obtain ⟨i, me, hi, rfl⟩ := ents_mem.1 hx
      exact hk.lt i (List.getElem?_eq_some_iff.1 hi).1
    unfold Oper.wp execOp; rw [hop]
    rcases run_next_at (P := P) w o.type r m kb.c kb.c (seen.map kb.B).toArray (entsMe kb ms) kb.c hr e2 hold (Nat.le_refl _) with ⟨h0, hrun⟩ | ⟨e, he, w1, hw1, hrun⟩
    · simp only [Sem.run_bind, q.ev hx, hrun, Result.andThen_ok, Sem.run_pure, Oper.upon_value, hd]
      refine hK _ _ (h1 (fun i hi => ?_) _ _ (q.put ht))
      have hmem : entMe kb i ms[i] ∈ (entsMe kb ms).toList := ents_mem.2 ⟨i, ms[i], by simp [hi], rfl⟩
      have h9 : leftOf (entsMe kb ms) (seen.map kb.B).toArray = #[] := Array.eq_empty_of_size_eq_zero h0
      unfold leftOf at h9
      rw [Array.filter_eq_empty_iff] at h9
      have := h9 (entMe kb i ms[i]) (by simpa using hmem)
      rw [← ents_nodup_born hk hsn hi]
      simpa [entMe] using this
    · have he' : e ∈ (entsMe kb ms).toList ∧ e.born ∉ seen.map kb.B := by
        unfold leftOf at he
        simpa using he
      obtain ⟨i, me, hi, rfl⟩ := ents_mem.1 he'.1
      have hni : i ∉ seen := fun h => he'.2 ((ents_nodup_born hk hsn (List.getElem?_eq_some_iff.1 hi).1).2 h)
      simp only [Sem.run_bind, q.ev hx, hrun, Result.andThen_ok, Sem.run_pure, Oper.upon_value, hd]
      refine hK _ _ (h2 i me hi hni _ _ ((q.heap (q.below.trans (below_setBlock hw1 hfoot.1)) (ho.turn ?_ ?_ q.base ?_ ?_)).put ht))
      · rcases hw1 with rfl | rfl <;> simp [setBlock]
      · intro b hb hn
        have hne : r ≠ b := fun e => hn e.symm
        rcases hw1 with rfl | rfl <;> (simp only [setBlock]; rw [Array.getElem?_setIfInBounds_ne hne]; try rfl)
      · rcases hw1 with rfl | rfl <;> simp [Ent.it, setBlock, entMe, hfoot.2]
      · intro b hb
        cases hb
        refine ⟨.inl rfl, ?_⟩
        rcases hw1 with rfl | rfl <;> simp [setBlock, hfoot.2]
theorem u_entry {m r i : Nat} {seen : List Nat} {kb : KB} {ms : List Me} {me : Me} (hop : o.op = .entry x) (hw : want R ops o = some true) (hd : o.dst = some t) (ht : Nat.blt t n = true) (hx : evR R x = some (.pointer (some ⟨r, 0, none⟩))) (htk : Take H (.it r m kb (seen ++ [i])) H')
    (hm : ∀ w, Below w0.heap.size w0 w → w.heap[m]? = some (.map (entsMe kb ms) kb.c)) (hk : kb.ok ms.length) (hi : ms[i]? = some me) (h : U w0 n d ((t, .tuple #[.int .i64 (kb.K i : Int), vMe me]) :: R) H (wpList P ops Q rest)) : U w0 n d R H (wpList P ops Q (o :: rest)) :=
  u_val hw hd ht (fun a w q => by
    have e2 := hm w q.below
    have hr : w.heap[r]? = some (.mapIter (some m) kb.c ((seen ++ [i]).map kb.B).toArray kb.c) := (q.own.take htk).here (.it r m kb (seen ++ [i])) (by simp)
    have e3 : ((seen ++ [i]).map kb.B).toArray = (seen.map kb.B).toArray.push (entMe kb i me).born := by simp [entMe]
    rw [e3] at hr
    have := run_entry_at (P := P) w r m kb.c (seen.map kb.B).toArray (entsMe kb ms) kb.c (entMe kb i me) hr e2 (ents_mem.2 ⟨i, me, hi, rfl⟩) (ents_nodup hk)
    unfold execOp; rw [hop]
    simp only [Sem.run_bind, q.ev hx, this, Result.andThen_ok, Sem.run_pure]
    rfl) h
end
end Go.Proofs.Ytekjkaoibcfgfaa
/- Which measures may stand. -/
namespace Go.Proofs.Ytekjkaoibcfgfaa
open Go.RowKit
set_option maxRecDepth 20000
set_option linter.unusedSimpArgs false
set_option linter.unusedVariables false


set_option maxHeartbeats 2000000 in
theorem pickMe (l : List Me) (A : Option Addr) (cap : Nat) (kf : FuncId) [CallI Try.prog kf] (cs : Array Value) (p : Nat → Me → Bool) (w : World) (hk : SlAt encMe 5 w A l) (hl : l.length ≤ 100000)
    (hp : ∀ (i : Nat) x W, l[i]? = some x → Below w.heap.size w W → Gv Try.prog kf ([.int .i64 (i : Int), vMe x] ++ cs.toList) W (.bool (p i x))) :
    NewSl encI 1 (picks p l) (fun v => v) Try.prog 77 [.slice A l.length cap, .func (.func kf) #[] cs] w := by
  unfold NewSl
  (refine ret_enter (n := 25) Try.func77 rfl rfl rfl ?_)
  (repeat' (first | ((with_reducible refine isOps ?_); first | refine u_move rfl rfl rfl rfl rfl ?_ | refine u_assign rfl rfl rfl rfl rfl ?_ | refine u_len rfl rfl rfl rfl rfl ?_) | (with_reducible first | refine u_seq ?_ | refine u_region ?_ | refine u_nil ?_ | refine u_then_n ?_ | refine u_block ?_)))
  refine u_row_nil encI 1 3 ?_
  refine u_loop (ι := Nat × Value) (fun i => i.1 ≤ l.length) (fun i => [(1, .func (.func kf) #[] cs), (5, i.2), (8, .slice A l.length cap), (9, .int .i64 (l.length : Int)), (10, .int .i64 (i.1 : Int))]) (fun i => [.row encI 1 3 i.2 (picksTo p l i.1)]) (fun i => l.length - i.1) (0, .slice none 0 0) (Nat.zero_le _) (by (first | exact fun _ _ h => lk_nil h | (repeat (first | exact (fun _ _ h => lk_nil h) | (refine lk_sub rfl ?_))))) (by (repeat (first | exact Out.nil _ | (refine Out.cons (by (repeat (first | exact Take.here _ _ | apply Take.there))) ?_)))) ?_
  rintro ⟨i, v⟩ hi
  simp only at hi ⊢
  have hpl := picksTo_len p l i
  by_cases hlt : i < l.length
  · have hx : l[i]? = some l[i] := by simp [hlt]
    obtain ⟨b, o, rfl, hblt, hc⟩ := hk.at_ hlt
    have : InS w b o encMe 5 l := ⟨hk⟩
    have : GetI l i l[i] := ⟨hx⟩
    have hso : soAt p l i = p i l[i] := by simp [soAt, hlt]
    (repeat' (first | ((with_reducible refine isOps ?_); first | refine u_move rfl rfl rfl rfl rfl ?_ | refine u_assign rfl rfl rfl rfl rfl ?_ | (refine x_load rfl rfl rfl rfl rfl ?_; refine ⟨_, rfl, ?_⟩) | (refine u_cmp rfl rfl rfl rfl rfl rfl rfl (fun h => ?_) (fun h => ?_) <;> (dsimp only [cmpP] at h; (try (exfalso; omega)))) | (refine u_givesB rfl rfl rfl rfl rfl rfl (fun _ _ q => hp i _ _ hx q.below) (fun h => ?_) (fun h => ?_) <;> (try (exfalso; omega))) | (refine u_append (enc := encI) [_] rfl rfl rfl rfl rfl (by (repeat (first | exact Take.here _ _ | apply Take.there))) rfl rfl (src_one (by exact rfl)) (by refine ⟨?_, by decide⟩; (try simp only [List.length_append, List.length_cons, List.length_nil]); omega) (fun A' c' => ?_)) | refine u_add1 rfl rfl rfl rfl rfl rfl (by omega) ?_ | refine u_index rfl rfl rfl rfl rfl rfl rfl (by omega) ?_ | (refine x_store rfl rfl rfl rfl rfl ?_; refine And.intro rfl (And.intro (by first | decide | exact Nat.le_of_ble_eq_true rfl | (simp; omega)) ⟨_, rfl, ?_⟩)) | (refine u_alloc rfl rfl rfl rfl (fun b => ?_)) | (refine x_buildSlice rfl rfl rfl rfl rfl ?_; refine ⟨rfl, _, rfl, fun b => ?_⟩)) | (with_reducible first | refine u_seq ?_ | refine u_region ?_ | refine u_nil ?_ | refine u_then_n ?_ | refine u_skip ?_ | refine u_block ?_ | refine u_in_n ?_) | ((with_reducible refine u_cond_t ?_ ?_); (· exact rfl)) | ((with_reducible refine u_cond_f ?_ ?_); (· exact rfl))))
    · refine u_again (i + 1, .slice A' (picksTo p l i ++ [(i : Int)]).length c') (by simp only; omega) (by simp only; omega) (by (first | exact fun _ _ h => lk_nil h | (repeat (first | exact (fun _ _ h => lk_nil h) | (refine lk_sub rfl ?_))))) ?_
      rw [picksTo_yes (hso.trans h)]
      (repeat (first | exact Out.nil _ | (refine Out.cons (by (repeat (first | exact Take.here _ _ | apply Take.there))) ?_)))
    · refine u_again (i + 1, v) (by simp only; omega) (by simp only; omega) (by (first | exact fun _ _ h => lk_nil h | (repeat (first | exact (fun _ _ h => lk_nil h) | (refine lk_sub rfl ?_))))) ?_
      rw [picksTo_no (hso.trans h)]
      (repeat (first | exact Out.nil _ | (refine Out.cons (by (repeat (first | exact Take.here _ _ | apply Take.there))) ?_)))
  · obtain rfl : i = l.length := by omega
    (repeat' (first | ((with_reducible refine isOps ?_); first | refine u_move rfl rfl rfl rfl rfl ?_ | refine u_assign rfl rfl rfl rfl rfl ?_ | (refine u_cmp rfl rfl rfl rfl rfl rfl rfl (fun h => ?_) (fun h => ?_) <;> (dsimp only [cmpP] at h; (try (exfalso; omega))))) | (with_reducible first | refine u_seq ?_ | refine u_region ?_ | refine u_nil ?_ | refine u_then_n ?_ | refine u_ret ?_ | refine u_exit ?_ | refine u_in_same ?_ | refine u_then_e ?_) | ((with_reducible refine u_cond_f ?_ ?_); (· exact rfl))))
    refine u_row_form (enc := encI) (by (repeat (first | exact Take.here _ _ | apply Take.there))) ?_
    rintro A' c' rfl
    exact u_done (by (exact ResL.cons (by exact Res1.tmp rfl) ResL.nil)) (A', c') trivial rfl (fun _ h => (h.row_sl (by (repeat (first | exact Take.here _ _ | apply Take.there)))).sub (by (repeat (first | exact Out.nil _ | (refine Out.cons (by (repeat (first | exact Take.here _ _ | apply Take.there))) ?_)))))


/-- may it stand on a track of n stretches? -/
def meOk (n : Nat) (m : Me) : Bool := decide (1 ≤ m.kind ∧ m.kind ≤ 2 ∧ 0 ≤ m.frm ∧ m.frm ≤ n ∧ 0 ≤ m.to ∧ m.to ≤ n ∧ m.frm < m.to ∧ 0 ≤ m.value.lo ∧ m.value.lo ≤ m.value.hi ∧ m.value.hi ≤ 360000)
def msOk (n : Nat) (l : List Me) : Bool := decide (l.length ≤ 12) && l.all (meOk n)
theorem meOk_okMe {n : Nat} {m : Me} (h : meOk n m = true) : okMe (n + 1) m := by
  have := of_decide_eq_true h
  unfold okMe; omega
def FitMs (l : List Me) : Prop := ∀ m ∈ l, 0 ≤ m.kind ∧ m.kind ≤ 255

set_option maxHeartbeats 1000000 in
theorem measured1_any (t : List St) (A : Option Addr) (cap k : Nat) (m : Me) (b : Nat) (w : World) (hl : t.length ≤ 1000000) (hk : 0 ≤ m.kind ∧ m.kind ≤ 255) (h1 : InC w b 0 [.slice A t.length cap]) :
    Gv Try.prog 91 [.int .i64 (k : Int), vMe m, .pointer (some ⟨b, 0, none⟩)] w (.bool (!meOk t.length m)) := by
  unfold Gv vMe
  (refine ret_enter (n := 37) Try.func91 rfl rfl rfl ?_)
  (repeat' (first | ((with_reducible refine isOps ?_); first | refine u_move rfl rfl rfl rfl rfl ?_ | refine u_assign rfl rfl rfl rfl rfl ?_ | (refine x_load rfl rfl rfl rfl rfl ?_; refine ⟨_, rfl, ?_⟩) | refine u_field rfl rfl rfl rfl rfl ?_ | refine u_pick rfl rfl rfl rfl rfl rfl ?_ | refine u_not_wanted rfl rfl rfl ?_ | (refine u_cmp rfl rfl rfl rfl rfl rfl rfl (fun h => ?_) (fun h => ?_) <;> (dsimp only [cmpP] at h; (try (exfalso; omega)))) | (refine u_givesB rfl rfl rfl rfl rfl rfl (fun _ _ q => in1 _ _ _ _ _ _ (src_one (enc := encI) (by exact rfl) _ q.below q.own)) (fun h => ?_) (fun h => ?_) <;> (simp only [inB_iff, inB_no] at h; (try (exfalso; omega)))) | (refine u_givesB rfl rfl rfl rfl rfl rfl (fun _ _ q => in2 _ _ _ _ _ _ _ (src_many (enc := encI) [_, _] (by exact rfl) _ q.below q.own)) (fun h => ?_) (fun h => ?_) <;> ((try simp only [Bool.and_eq_true, Bool.and_eq_false_iff, inB_iff, inB_no] at h); (try (exfalso; omega)))) | (refine u_givesB rfl rfl rfl rfl rfl rfl (fun _ _ _ => (known_any m.value 0 360000 _).gv) (fun h => ?_) (fun h => ?_) <;> ((try simp only [inB_iff, inB_no, knownB_iff, knownB_no] at h); (try (exfalso; omega)))) | refine u_not rfl rfl rfl rfl rfl ?_ | refine u_len rfl rfl rfl rfl rfl ?_ | (refine u_box rfl rfl rfl rfl rfl rfl (fun b => ?_)) | (refine x_buildSlice rfl rfl rfl rfl rfl ?_; refine ⟨rfl, _, rfl, fun b => ?_⟩) | refine u_convert rfl rfl rfl rfl rfl (IntWalk.i64_in _ (by omega)) ?_) | (with_reducible first | refine u_seq ?_ | refine u_region ?_ | refine u_nil ?_ | refine u_then_n ?_ | refine u_ret ?_)))
  all_goals exact u_done (by (exact ResL.cons (by exact Res1.tmp rfl) ResL.nil)) () trivial (by first | exact congrArg Value.bool (by rw [meOk, decide_eq_true (by omega)]; try rfl) | exact congrArg Value.bool (by rw [meOk, decide_eq_false (by omega)]; try rfl)) (fun _ h => h.sub (by (repeat (first | exact Out.nil _ | (refine Out.cons (by (repeat (first | exact Take.here _ _ | apply Take.there))) ?_)))))

end Go.Proofs.Ytekjkaoibcfgfaa
