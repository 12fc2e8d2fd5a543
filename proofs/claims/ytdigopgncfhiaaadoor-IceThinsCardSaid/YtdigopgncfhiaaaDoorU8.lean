/- Operations that take over what others made: append, store (namespace Two). -/
import Derived.Test.YtdigopgncfhiaaaDoorU5
import Derived.Test.YtdigopgncfhiaaaDoorU6
namespace Go.Proofs.YtdigopgncfhiaaaDoor.Two
variable {ro : Option Nat}
open Go.RowKit
set_option maxRecDepth 20000
set_option linter.unusedSimpArgs false
set_option linter.unusedVariables false

section
variable {S : List (Nat × Nat)} {I : List (Nat × Nat × Nat × List Ent)} {P : Program} {w0 : World} {n : Nat} {d : List Deferred} {R R0 : List (Nat × Value)} {H H' H0 : List Ent} {Q : Exit → Act → World → Prop} {ops : Array Oper} {bs : List (List Bool)} {b : List Bool} {k : Nat} {o : Oper} {rest : List Oper} {T : List Rw} {t : Tmp} {Hk : Wits → List Ent} {x y : Operand} {v : Value}
theorem row_at {α : Type} {enc : α → List Value} {kk e base m c : Nat} {A : Option Addr} {xs : List α} {H H' : List Ent} {w : World} (ho : Own base w H) (ht : Take H (.row enc kk e (.slice A m c) xs) H') [ei : EncI enc kk] : SlAt enc kk w A xs := (ho.row_sl ht).here (.sl enc kk A xs) (by simp)
theorem c_take {f : Wits → Value × List Ent} (j : Nat) (hjk : (j, k) ∈ S) (hkI : keyI I k = false) (hl : Loc b k f) (ht : Takes S I P w0 n d ops R0 H0 b k o T f (entsT (only j T))) (h : Chain ro S I P w0 n d ops R0 H0 Q bs (k + 1) rest (⟨k, o.dst, f⟩ :: T)) : Chain ro S I P w0 n d ops R0 H0 Q (b :: bs) k (o :: rest) T :=
  .inl ⟨f, hl, .inr (.inl ⟨hkI, j, hjk, ht⟩), h⟩
theorem c_takeI {f : Wits → Value × List Ent} {E0 : List Ent} {lo hi : Nat} (hkE : (k, lo, hi, E0) ∈ I) (hfree : takes S k = false) (hl : Loc b k f) (ht : Takes S I P w0 n d ops R0 H0 b k o T f (fun _ => E0)) (h : Chain ro S I P w0 n d ops R0 H0 Q bs (k + 1) rest (⟨k, o.dst, f⟩ :: T)) : Chain ro S I P w0 n d ops R0 H0 Q (b :: bs) k (o :: rest) T :=
  .inl ⟨f, hl, .inr (.inr ⟨hfree, lo, hi, E0, hkE, ht⟩), h⟩
theorem c_buildNil {α : Type} (enc : α → List Value) {kk T1 e s s' : Nat} {g g' : Bool} {td : TypeDesc} (hop : o.op = .buildSlice T1 0 #[]) [i1 : TyI P T1 (.slice e) s g] [i2 : TyI P e td s' g'] [ei : EncI enc kk] (hw : ∀ G, want (Rk R0 ops b o T G) ops o = some true) (hd : o.dst = some t)
    (h : Chain ro S I P w0 n d ops R0 H0 Q bs (k + 1) rest (⟨k, some t, fun G => (.slice (some ⟨(G k).g, 0, none⟩) 0 0, [.row enc kk e (.slice (some ⟨(G k).g, 0, none⟩) 0 0) ([] : List α)])⟩ :: T)) : CAt ro S I P w0 n d ops R0 H0 Q b bs k o rest T Hk := by
  refine c_row (f := fun G => (.slice (some ⟨(G k).g, 0, none⟩) 0 0, [.row enc kk e (.slice (some ⟨(G k).g, 0, none⟩) 0 0) ([] : List α)])) (fun G G' hG => by simp only [hG k (.inl rfl)]) (fun G a w q K hK => ?_) (by rw [hd]; exact h)
  rw [want_ok q (hw G), if_pos rfl]
  have e3 := run_underlying i1.und w
  have e4 := i2.siz w
  have e8 : ∀ f : Nat → Value, (Array.range 0).map f = #[] := fun f => by simp
  have hrun : (Instr.buildSlice T1 0 #[]).run P w = .ok (.slice (some ⟨w.heap.size, 0, none⟩) 0 0) (w.alloc (.cells #[] e)) := by
    unfold Instr.buildSlice
    simp only [Sem.run_bind, e3, Result.andThen_ok, e4, Sem.run_ite, show ¬ 0 * s' > 2 ^ 24 by omega, if_false, Sem.run_pure, Nat.zero_mul, if_true, e8, Instr.fill, newRow, run_newObj]
    rfl
  unfold Oper.wp execOp; rw [hop]
  have e9 : ∀ f : Nat × Operand → Nat × Value, (#[] : Array (Nat × Operand)).map f = #[] := fun f => by simp
  simp only [e9, Sem.run_bind, hrun, Result.andThen_ok, Sem.run_pure, Oper.upon_value]
  refine hK _ [.row enc kk e (.slice (some ⟨w.heap.size, 0, none⟩) 0 0) ([] : List α)] _ ⟨⟨w.heap.size, none, 0⟩, by simp [upW]⟩ (below_alloc w (.cells #[] e)) ⟨fun f hf => ?_, fun f hf b hb => ?_, by simp⟩
  · simp only [List.mem_singleton] at hf
    subst hf
    exact row_of_empty (heap_alloc_new w _)
  · simp only [List.mem_singleton] at hf
    subst hf
    cases hb
    simp
/-- append, in a chain: the row is taken over -/
theorem takes_append {α : Type} {enc : α → List Value} {kk e T1 bytes m : Nat} [el : ElI P T1 e kk bytes] [ei : EncI enc kk] {xs : List α} (ys : List α) {A : Wits → Option Addr} {c : Wits → Nat} {vx : Wits → Value} (E0 : Wits → List Ent) (hop : o.op = .call { callee := .builtin .append, args := #[x, y], argTypes := #[T1, T1] }) (hw : ∀ G, want (Rk R0 ops b o T G) ops o = some true) (hd : o.dst = some t)
    (hx : ∀ G, evR (Rk R0 ops b o T G) x = some (vx G)) (hrow : ∀ G, E0 G = [.row enc kk e (vx G) xs]) (hy : ∀ G, evR (Rk R0 ops b o T G) y = some (.slice (A G) m (c G))) (hm : m = ys.length) (hH : ∀ G, see I k ++ (entsT (fltT (vis S k b) T) G ++ H0) = Hk G) (hs : ∀ G w, Below w0.heap.size w0 w → Own w0.heap.size w (Hk G) → SlAt enc kk w (A G) ys) (hl : xs.length + ys.length ≤ 1000000 ∧ bytes ≤ 1000000) :
    Takes S I P w0 n d ops R0 H0 b k o T (fun G => (.slice (G k).A (xs ++ ys).length (G k).m, [.row enc kk e (.slice (G k).A (xs ++ ys).length (G k).m) (xs ++ ys)])) E0 := by
  subst hm
  intro G L a w q ho K hK
  rw [want_ok q (hw G), if_pos rfl]
  rw [hrow G] at ho
  obtain ⟨z, hE⟩ := el.el
  obtain ⟨i, i1, i2, i3, i4⟩ := hE.info
  have hrow : Row enc kk e 0 w (vx G) xs := ho.here (.row enc kk e (vx G) xs) (by simp)
  have hsl := hs G w q.below (by rw [← hH G]; exact q.own)
  have hlen : (ys.flatMap enc).length = ys.length * kk := by
    simp [List.length_flatMap, ei.len, List.map_const', List.sum_replicate_nat]
  have hmul : (xs.length + ys.length) * bytes ≤ 140737488355328 := by
    have := Nat.mul_le_mul hl.1 hl.2; omega
  have hxv := q.ev (hx G)
  have hyv := q.ev (hy G)
  generalize vx G = v at *
  generalize A G = A at *
  generalize c G = c at *
  have key : ∃ v' w', (Builtin.append_ #[T1, T1] o.type #[v, .slice A ys.length c]).run P w = .ok v' w' ∧ Row enc kk e 0 w' v' (xs ++ ys) ∧ w.grownBy w' v.ownBlock ∧ (v'.ownBlock = v.ownBlock ∨ v'.ownBlock = some w.heap.size) := by
    cases hA : A with
    | none =>
      have hys : ys = [] := by
        cases ys with
        | nil => rfl
        | cons y r =>
          obtain ⟨b, o, hb, _⟩ := hsl 0 y (by simp)
          rw [hA] at hb; cases hb
      subst hys hA
      refine ⟨v, w, ?_, by simpa using hrow, World.grownBy.refl w _, .inl rfl⟩
      rcases hrow.2 with ⟨rfl, _⟩ | ⟨g, cap, cur, rfl, _, _, hnc, _⟩
      · simp [Builtin.append_, run_underlying hE.under, sizeOf, typeInfo, i1, Builtin.lenOf, Builtin.firstCells]
      · simp [Builtin.append_, run_underlying hE.under, sizeOf, typeInfo, i1, Builtin.lenOf, Builtin.firstCells, hnc, storeCells]
    | some ad =>
      subst hA
      obtain ⟨v', w', r1, r2, r3, _, r5⟩ := run_append_own_at (P := P) w 0 T1 o.type e i z kk bytes hE.under i1 i2 i3 i4 hE.zs hE.pos v xs.length (xs.flatMap enc) hrow ad ys.length c (ys.flatMap enc) hlen
        (fun j u hu => by
          obtain ⟨i, y, l, hi, hl, rfl⟩ := flat_inv ei.len ys j u hu
          obtain ⟨b, o, hb, hlt, hc⟩ := hsl i y hi
          cases hb
          have e1 : (⟨b, o, none⟩ : Addr).add (i * kk + l) = ⟨b, o + i * kk + l, none⟩ := by rw [addr_add]; congr 1; omega
          rw [e1]; exact hc l u hl)
        (fun u hu => by
          obtain ⟨y, _, hy'⟩ := List.mem_flatMap.1 hu
          exact ei.one y u hy') (by unfold maxLen; omega) hmul (Nat.zero_le _)
      exact ⟨v', w', r1, by unfold Row; simpa using r2, r3, r5⟩
  obtain ⟨v', w', k1, k2, k3, k4⟩ := key
  obtain ⟨A', c', rfl⟩ := k2.form
  unfold Oper.wp execOp
  simp only [hop, resolve, invoke, builtin, Sem.run_bind, Sem.run_pure, Result.andThen_ok, List.map_toArray, List.map_cons, List.map_nil, hxv, hyv, k1, Oper.upon_value]
  have hfoot : ∀ b, v.ownBlock = some b → w0.heap.size ≤ b ∧ b < w.heap.size := fun b hb => ho.foot (.row enc kk e v xs) (by simp) b hb
  refine hK (.slice A' (xs ++ ys).length c') [.row enc kk e (.slice A' (xs ++ ys).length c') (xs ++ ys)] _ ⟨⟨0, A', c'⟩, by simp only [upW, if_true]⟩ ?_ ?_
  · exact q.below.trans ⟨k3.os, k3.tape, k3.output, k3.size, fun b hb => k3.block b (by have := q.base; omega) (fun e => by have := (hfoot b e.symm).1; omega)⟩
  · refine ho.turn k3.size (fun b hb hn => k3.block b hb (fun e => hn e.symm)) q.base k2 (fun b hb => ?_)
    have hb' : (Value.slice A' (xs ++ ys).length c').ownBlock = some b := hb
    have hlt := k2.lt b hb'
    rcases k4 with h4 | h4
    · exact ⟨.inl (h4.symm.trans hb'), hlt.2⟩
    · rw [h4] at hb'; cases hb'; exact ⟨.inr (Nat.le_refl _), hlt.2⟩
theorem c_appendT {α : Type} {enc : α → List Value} {kk e T1 bytes m : Nat} [el : ElI P T1 e kk bytes] [ei : EncI enc kk] {xs : List α} (ys : List α) {A : Wits → Option Addr} {c : Wits → Nat} {vx : Wits → Value} (j : Nat) (hjk : (j, k) ∈ S) (hkI : keyI I k = false) (hop : o.op = .call { callee := .builtin .append, args := #[x, y], argTypes := #[T1, T1] }) (hw : ∀ G, want (Rk R0 ops b o T G) ops o = some true) (hd : o.dst = some t)
    (hx : ∀ G, evR (Rk R0 ops b o T G) x = some (vx G)) (hrow : ∀ G, entsT (only j T) G = [.row enc kk e (vx G) xs]) (hy : ∀ G, evR (Rk R0 ops b o T G) y = some (.slice (A G) m (c G))) (hm : m = ys.length) (hH : ∀ G, see I k ++ (entsT (fltT (vis S k b) T) G ++ H0) = Hk G) (hs : ∀ G w, Below w0.heap.size w0 w → Own w0.heap.size w (Hk G) → SlAt enc kk w (A G) ys) (hl : xs.length + ys.length ≤ 1000000 ∧ bytes ≤ 1000000)
    (h : Chain ro S I P w0 n d ops R0 H0 Q bs (k + 1) rest (⟨k, some t, fun G => (.slice (G k).A (xs ++ ys).length (G k).m, [.row enc kk e (.slice (G k).A (xs ++ ys).length (G k).m) (xs ++ ys)])⟩ :: T)) : Chain ro S I P w0 n d ops R0 H0 Q (b :: bs) k (o :: rest) T :=
  c_take (f := fun G => (.slice (G k).A (xs ++ ys).length (G k).m, [.row enc kk e (.slice (G k).A (xs ++ ys).length (G k).m) (xs ++ ys)])) j hjk hkI (fun G G' hG => by simp only [hG k (.inl rfl)]) (takes_append ys (entsT (only j T)) hop hw hd hx hrow hy hm hH hs hl) (by rw [hd]; exact h)
/-- append to a row that was there ahead of the chain -/
theorem c_appendI {α : Type} {enc : α → List Value} {kk e T1 bytes m : Nat} [el : ElI P T1 e kk bytes] [ei : EncI enc kk] {xs : List α} (ys : List α) {A : Wits → Option Addr} {c : Wits → Nat} {vx : Value} {lo hi : Nat} (hkE : (k, lo, hi, [Ent.row enc kk e vx xs]) ∈ I) (hfree : takes S k = false) (hop : o.op = .call { callee := .builtin .append, args := #[x, y], argTypes := #[T1, T1] }) (hw : ∀ G, want (Rk R0 ops b o T G) ops o = some true) (hd : o.dst = some t)
    (hx : ∀ G, evR (Rk R0 ops b o T G) x = some vx) (hy : ∀ G, evR (Rk R0 ops b o T G) y = some (.slice (A G) m (c G))) (hm : m = ys.length) (hH : ∀ G, see I k ++ (entsT (fltT (vis S k b) T) G ++ H0) = Hk G) (hs : ∀ G w, Below w0.heap.size w0 w → Own w0.heap.size w (Hk G) → SlAt enc kk w (A G) ys) (hl : xs.length + ys.length ≤ 1000000 ∧ bytes ≤ 1000000)
    (h : Chain ro S I P w0 n d ops R0 H0 Q bs (k + 1) rest (⟨k, some t, fun G => (.slice (G k).A (xs ++ ys).length (G k).m, [.row enc kk e (.slice (G k).A (xs ++ ys).length (G k).m) (xs ++ ys)])⟩ :: T)) : Chain ro S I P w0 n d ops R0 H0 Q (b :: bs) k (o :: rest) T :=
  c_takeI (f := fun G => (.slice (G k).A (xs ++ ys).length (G k).m, [.row enc kk e (.slice (G k).A (xs ++ ys).length (G k).m) (xs ++ ys)])) hkE hfree (fun G G' hG => by simp only [hG k (.inl rfl)]) (takes_append (vx := fun _ => vx) ys (fun _ => [Ent.row enc kk e vx xs]) hop hw hd hx (fun _ => rfl) hy hm hH hs hl) (by rw [hd]; exact h)
/-- a store into what an operation ahead of it allocated -/
theorem c_storeT {T1 : TypeId} {td : TypeDesc} {s off : Nat} {g : Bool} {gx : Wits → Nat} {vy : Wits → Value} {cs : Wits → List Value} {cs' : Wits → List Value} (j : Nat) (hjk : (j, k) ∈ S) (hkI : keyI I k = false) (hop : o.op = .store T1 x y) [i1 : TyI P T1 td s g] (hw : ∀ G, want (Rk R0 ops b o T G) ops o = some true) (hd : o.dst = none) (hx : ∀ G, evR (Rk R0 ops b o T G) x = some (.pointer (some ⟨gx G, off, none⟩))) (hy : ∀ G, evR (Rk R0 ops b o T G) y = some (vy G)) (hent : ∀ G, entsT (only j T) G = [.blk (gx G) (cs G)])
    (hv : ∀ G, Nat.beq (vy G).cells.toList.length s = true) (hv1 : ∀ G, (vy G).cells.toList.all Value.oneCell' = true) (hl : ∀ G, Nat.ble (off + s) (cs G).length = true) (hc : ∀ G, put1 (cs G) off (vy G).cells.toList = cs' G) (hg : LocB b k gx) (hcs : LocB b k cs')
    (h : Chain ro S I P w0 n d ops R0 H0 Q bs (k + 1) rest (⟨k, none, fun G => (undef, [.blk (gx G) (cs' G)])⟩ :: T)) : Chain ro S I P w0 n d ops R0 H0 Q (b :: bs) k (o :: rest) T := by
  refine c_take (f := fun G => (undef, [.blk (gx G) (cs' G)])) j hjk hkI (fun G G' hG => by simp only [hg.loc G G' hG, hcs.loc G G' hG]) (fun G L a w q ho K hK => ?_) (by rw [hd]; exact h)
  rw [hent G] at ho
  refine stores_at hop (hw G) hd (hx G) (hy G) (hv G) (hv1 G) (hl G) (hc G) q ho (fun w' hB hO => ?_)
  have := hK undef [.blk (gx G) (cs' G)] w' ⟨⟨0, none, 0⟩, by simp only [hg.up, hcs.up]⟩ hB hO
  rw [hd] at this
  exact this
/-- a store into an array -/
theorem takes_storeA {α : Type} {enc : α → List Value} {kk i j s : Nat} {g : Nat} {T1 : TypeId} {td : TypeDesc} {gg : Bool} {xs : List α} {z : α} (z' : α) (E0 : Wits → List Ent) (hE0 : ∀ G, E0 G = [.arr enc kk g xs]) (hop : o.op = .store T1 x y) [i1 : TyI P T1 td s gg] (hw : ∀ G, want (Rk R0 ops b o T G) ops o = some true) (hd : o.dst = none) (hx : ∀ G, evR (Rk R0 ops b o T G) x = some (.pointer (some ⟨g, 0 + i * kk + j, none⟩))) (hy : ∀ G, evR (Rk R0 ops b o T G) y = some v) [ei : EncI enc kk] (i3 : xs[i]? = some z)
    (hc : put1 (enc z) j v.cells.toList = enc z') (hv : Nat.beq v.cells.toList.length s = true) (hv1 : v.cells.toList.all Value.oneCell' = true) (hj : j + s ≤ kk) : Takes S I P w0 n d ops R0 H0 b k o T (fun _ => (undef, [.arr enc kk g (xs.set i z')])) E0 := by
  intro G L a w q ho K hK
  rw [hE0 G] at ho
  obtain ⟨tl, hB⟩ := (ho.here (.arr enc kk g xs) (by simp) : ∃ tail : List Value, Blk w g (xs.flatMap enc ++ tail).toArray)
  have hs : v.cells.toList.length = s := Nat.eq_of_beq_eq_true hv
  have ho2 : Own w0.heap.size w (.blk g (xs.flatMap enc ++ tl) :: L) := ho.recast (fun _ => hB) (fun b hb => hb)
  have hlen : i * kk + kk ≤ (xs.flatMap enc).length := by
    have : (xs.flatMap enc).length = xs.length * kk := by simp [List.length_flatMap, ei.len, List.map_const', List.sum_replicate_nat]
    have hi := (List.getElem?_eq_some_iff.1 i3).1
    rw [this, ← Nat.succ_mul]
    exact Nat.mul_le_mul_right kk hi
  exact stores_at hop (hw G) hd (hx G) (hy G) hv hv1 (Nat.ble_eq_true_of_le (by rw [List.length_append]; omega)) (cs' := (xs.set i z').flatMap enc ++ tl) (by
    rw [show 0 + i * kk + j = i * kk + j by omega]
    exact flat_put ei.len _ tl j z' xs i z i3 hc (by rw [hs]; exact hj)) q ho2 (fun w' hB' hO => by
      have := hK undef [.arr enc kk g (xs.set i z')] w' ⟨⟨0, none, 0⟩, rfl⟩ hB' (hO.recast (fun hp => ⟨tl, hp⟩) (fun b hb => hb))
      rw [hd] at this
      exact this)
/-- into an array that was there ahead of the chain -/
theorem c_storeAI {α : Type} {enc : α → List Value} {kk i j s : Nat} {g lo hi : Nat} {T1 : TypeId} {td : TypeDesc} {gg : Bool} {xs : List α} (z z' : α) (hkE : (k, lo, hi, [Ent.arr enc kk g xs]) ∈ I) (hfree : takes S k = false) (hop : o.op = .store T1 x y) [i1 : TyI P T1 td s gg] (hw : ∀ G, want (Rk R0 ops b o T G) ops o = some true) (hd : o.dst = none) (hx : ∀ G, evR (Rk R0 ops b o T G) x = some (.pointer (some ⟨g, 0 + i * kk + j, none⟩))) (hy : ∀ G, evR (Rk R0 ops b o T G) y = some v) [ei : EncI enc kk] (i3 : xs[i]? = some z)
    (hc : put1 (enc z) j v.cells.toList = enc z') (hv : Nat.beq v.cells.toList.length s = true) (hv1 : v.cells.toList.all Value.oneCell' = true) (hj : j + s ≤ kk) (h : Chain ro S I P w0 n d ops R0 H0 Q bs (k + 1) rest (⟨k, none, fun _ => (undef, [.arr enc kk g (xs.set i z')])⟩ :: T)) : Chain ro S I P w0 n d ops R0 H0 Q (b :: bs) k (o :: rest) T :=
  c_takeI (f := fun _ => (undef, [.arr enc kk g (xs.set i z')])) hkE hfree (fun _ _ _ => rfl) (takes_storeA z' (fun _ => [Ent.arr enc kk g xs]) (fun _ => rfl) hop hw hd hx hy i3 hc hv hv1 hj) (by rw [hd]; exact h)
/-- into an array that an operation ahead of it stored into -/
theorem c_storeAT {α : Type} {enc : α → List Value} {kk i j s : Nat} {g : Nat} {T1 : TypeId} {td : TypeDesc} {gg : Bool} {xs : List α} (z z' : α) (m : Nat) (hjk : (m, k) ∈ S) (hkI : keyI I k = false) (hent : ∀ G, entsT (only m T) G = [.arr enc kk g xs]) (hop : o.op = .store T1 x y) [i1 : TyI P T1 td s gg] (hw : ∀ G, want (Rk R0 ops b o T G) ops o = some true) (hd : o.dst = none) (hx : ∀ G, evR (Rk R0 ops b o T G) x = some (.pointer (some ⟨g, 0 + i * kk + j, none⟩))) (hy : ∀ G, evR (Rk R0 ops b o T G) y = some v) [ei : EncI enc kk] (i3 : xs[i]? = some z)
    (hc : put1 (enc z) j v.cells.toList = enc z') (hv : Nat.beq v.cells.toList.length s = true) (hv1 : v.cells.toList.all Value.oneCell' = true) (hj : j + s ≤ kk) (h : Chain ro S I P w0 n d ops R0 H0 Q bs (k + 1) rest (⟨k, none, fun _ => (undef, [.arr enc kk g (xs.set i z')])⟩ :: T)) : Chain ro S I P w0 n d ops R0 H0 Q (b :: bs) k (o :: rest) T :=
  c_take (f := fun _ => (undef, [.arr enc kk g (xs.set i z')])) m hjk hkI (fun _ _ _ => rfl) (takes_storeA z' (entsT (only m T)) hent hop hw hd hx hy i3 hc hv hv1 hj) (by rw [hd]; exact h)
/-- part of a slice -/
def partA (A : Option Addr) (c L s : Nat) : Option Addr := if c = L then A else A.map (·.add (L * s))
theorem sl_part {α : Type} {enc : α → List Value} {s' c L M : Nat} {w : World} {A : Option Addr} {xs : List α} (hs : SlAt enc s' w A xs) (h1 : L ≤ M) (h2 : M ≤ c) : SlAt enc s' w (partA A c L s') ((xs.take M).drop L) := by
  unfold partA
  by_cases hc : c = L
  · rw [if_pos hc]
    have hlm : L = M := by omega
    subst hlm
    rw [List.drop_eq_nil_of_le (by simp; omega)]
    exact SlAt.nil
  · rw [if_neg hc]
    exact hs.part L M
theorem e_slice {T1 e : TypeId} {td : TypeDesc} {s s' m c : Nat} {g g' : Bool} {A : Option Addr} {lo hi : Option Operand} {l u : Int} (L M : Nat) (hop : o.op = .slice T1 x lo hi none) [i1 : TyI P T1 (.slice e) s g] [i2 : TyI P e td s' g'] (hx : evR R x = some (.slice A m c))
    (hl : bnd R lo 0 = some l) (hu : bnd R hi m = some u) (hL : l = (L : Int)) (hM : u = (M : Int)) (h1 : L ≤ M) (h2 : M ≤ c) : Ev P w0 n d R H o (.slice (partA A c L s') (M - L) (c - L)) := fun a w q => by
  subst hL hM
  unfold execOp; rw [hop]
  have e1 := run_underlying i1.und w
  have e2 := i2.siz w
  have b1 : ∀ (r : Nat) (code : BoundsCode) (z : Nat), z ≤ r → ∀ k, (Instr.sliceBound (.int k (z : Int)) r code).run P w = .ok z w := fun r code z hz k => by
    simp [Instr.sliceBound, asIntOf, hz]
  have hlo : (∃ k, lo.map a.eval = some (.int k (L : Int))) ∨ (lo = none ∧ L = 0) := by
    cases lo with
    | none => simp only [bnd, Option.some.injEq] at hl; exact .inr ⟨rfl, by omega⟩
    | some y =>
      simp only [bnd] at hl
      cases hy : evR R y with
      | none => rw [hy] at hl; simp at hl
      | some v =>
        rw [hy] at hl
        cases v <;> simp at hl
        rename_i k i
        subst hl
        exact .inl ⟨k, by simp [q.ev hy]⟩
  have hhi : (∃ k, hi.map a.eval = some (.int k (M : Int))) ∨ (hi = none ∧ M = m) := by
    cases hi with
    | none => simp only [bnd, Option.some.injEq] at hu; exact .inr ⟨rfl, by omega⟩
    | some y =>
      simp only [bnd] at hu
      cases hy : evR R y with
      | none => rw [hy] at hu; simp at hu
      | some v =>
        rw [hy] at hu
        cases v <;> simp at hu
        rename_i k i
        subst hu
        exact .inl ⟨k, by simp [q.ev hy]⟩
  unfold partA
  rcases hlo with ⟨k1, hlo⟩ | ⟨hlo, rfl⟩ <;> rcases hhi with ⟨k2, hhi⟩ | ⟨hhi, rfl⟩ <;>
    simp [Instr.sliceAt, Instr.slice, e1, e2, q.ev hx, Instr.sliceBounds, hlo, hhi, b1, h1, h2]
end
end Go.Proofs.YtdigopgncfhiaaaDoor.Two
