/- Useless, by the reference. -/
import Derived.Test.YtekjkaoibcfgfaaX18
import Derived.Test.YtekjkaoibcfgfaaU5
import Derived.Test.YtekjkaoibcfgfaaSameT
namespace Go.Proofs.Ytekjkaoibcfgfaa.Two
open Go.RowKit
set_option maxRecDepth 20000
set_option linter.unusedSimpArgs false
set_option linter.unusedVariables false

section
variable {S : List (Nat × Nat)} {I : List (Nat × Nat × Nat × List Ent)} {P : Program} {w0 : World} {n : Nat} {d : List Deferred} {R R0 : List (Nat × Value)} {H H' H0 : List Ent} {Q : Exit → Act → World → Prop} {ops : Array Oper} {bs : List (List Bool)} {b : List Bool} {k : Nat} {o : Oper} {rest : List Oper} {T : List Rw} {t : Tmp} {Hk : Wits → List Ent} {x y : Operand} {v : Value}
theorem row_at {α : Type} {enc : α → List Value} {kk e base m c : Nat} {A : Option Addr} {xs : List α} {H H' : List Ent} {w : World} (ho : Own base w H) (ht : Take H (.row enc kk e (.slice A m c) xs) H') [ei : EncI enc kk] : SlAt enc kk w A xs := (ho.row_sl ht).here (.sl enc kk A xs) (by simp)
theorem c_take {f : Wits → Value × List Ent} (j : Nat) (hjk : (j, k) ∈ S) (hkI : keyI I k = false) (hl : Loc b k f) (ht : Takes S I P w0 n d ops R0 H0 b k o T f (entsT (only j T))) (h : Chain S I P w0 n d ops R0 H0 Q bs (k + 1) rest (⟨k, o.dst, f⟩ :: T)) : Chain S I P w0 n d ops R0 H0 Q (b :: bs) k (o :: rest) T :=
  .inl ⟨f, hl, .inr (.inl ⟨hkI, j, hjk, ht⟩), h⟩
theorem c_takeI {f : Wits → Value × List Ent} {E0 : List Ent} {lo hi : Nat} (hkE : (k, lo, hi, E0) ∈ I) (hfree : takes S k = false) (hl : Loc b k f) (ht : Takes S I P w0 n d ops R0 H0 b k o T f (fun _ => E0)) (h : Chain S I P w0 n d ops R0 H0 Q bs (k + 1) rest (⟨k, o.dst, f⟩ :: T)) : Chain S I P w0 n d ops R0 H0 Q (b :: bs) k (o :: rest) T :=
  .inl ⟨f, hl, .inr (.inr ⟨hfree, lo, hi, E0, hkE, ht⟩), h⟩
theorem c_buildNil {α : Type} (enc : α → List Value) {kk T1 e s s' : Nat} {g g' : Bool} {td : TypeDesc} (hop : o.op = .buildSlice T1 0 #[]) [i1 : TyI P T1 (.slice e) s g] [i2 : TyI P e td s' g'] [ei : EncI enc kk] (hw : ∀ G, want (Rk R0 ops b o T G) ops o = some true) (hd : o.dst = some t)
    (h : Chain S I P w0 n d ops R0 H0 Q bs (k + 1) rest (⟨k, some t, fun G => (.slice (some ⟨(G k).g, 0, none⟩) 0 0, [.row enc kk e (.slice (some ⟨(G k).g, 0, none⟩) 0 0) ([] : List α)])⟩ :: T)) : CAt S I P w0 n d ops R0 H0 Q b bs k o rest T Hk := by
  refine c_row (f := fun G => (.slice (some ⟨(G k).g, 0, none⟩) 0 0, [.row enc kk e (.slice (some ⟨(G k).g, 0, none⟩) 0 0) ([] : List α)])) (fun G G' hG => by simp only [hG k (.inl rfl)]) (fun G a w q K hK => ?_) (by rw [hd]; exact h)
  rw [want_ok q (hw G), if_pos rfl]
  have e3 := run_underlying i1.und w
  have e4 := i2.siz w
  have e8 : ∀ f : Nat → Value, (Array.range 0).map f = #[] := fun f => by simp
  have hrun : (Instr.buildSlice T1 0 #[]).run P w = .ok (.slice (some ⟨w.heap.size, 0, none⟩) 0 0) (w.alloc (.cells #[] e)) := by
    unfold Instr.buildSlice
    simp only [Sem.run_bind, e3, Result.andThen_ok, e4, Sem.run_ite, show ¬ 0 * s' > 2 ^ 24 by omega, if_false, Sem.run_pure, Nat.zero_mul, if_true, e8, Instr.fill, newRow, run_newObj]
    rfl
  unfold Oper.wp execOp; rw [hop]
  have e9 : ∀ f : Nat × Operand → Nat × Value, (#[] : Array (Nat × Operand)).map f = #[] := fun f => by simp
  simp only [e9, Sem.run_bind, hrun, Result.andThen_ok, Sem.run_pure, Oper.upon_value]
  refine hK _ [.row enc kk e (.slice (some ⟨w.heap.size, 0, none⟩) 0 0) ([] : List α)] _ ⟨⟨w.heap.size, none, 0⟩, by simp [upW]⟩ (below_alloc w (.cells #[] e)) ⟨fun f hf => ?_, fun f hf b hb => ?_, by simp⟩
  · simp only [List.mem_singleton] at hf
    subst hf
    exact row_of_empty (heap_alloc_new w _)
  · simp only [List.mem_singleton] at hf
    subst hf
    cases hb
    simp
/-- append, in a chain: the row is taken over -/
theorem takes_append {α : Type} {enc : α → List Value} {kk e T1 bytes m : Nat} [el : ElI P T1 e kk bytes] [ei : EncI enc kk] {xs : List α} (ys : List α) {A : Wits → Option Addr} {c : Wits → Nat} {vx : Wits → Value} (E0 : Wits → List Ent) (hop : o.op = .call { callee := .builtin .append, args := #[x, y], argTypes := #[T1, T1] }) (hw : ∀ G, want (Rk R0 ops b o T G) ops o = some true) (hd : o.dst = some t)
    (hx : ∀ G, evR (Rk R0 ops b o T G) x = some (vx G)) (hrow : ∀ G, E0 G = [.row enc kk e (vx G) xs]) (hy : ∀ G, evR (Rk R0 ops b o T G) y = some (.slice (A G) m (c G))) (hm : m = ys.length) (hH : ∀ G, see I k ++ (entsT (fltT (vis S k b) T) G ++ H0) = Hk G) (hs : ∀ G w, Below w0.heap.size w0 w → Own w0.heap.size w (Hk G) → SlAt enc kk w (A G) ys) (hl : xs.length + ys.length ≤ 1000000 ∧ bytes ≤ 1000000) :
    Takes S I P w0 n d ops R0 H0 b k o T (fun G => (.slice (G k).A (xs ++ ys).length (G k).m, [.row enc kk e (.slice (G k).A (xs ++ ys).length (G k).m) (xs ++ ys)])) E0 := by
  subst hm
  intro G L a w q ho K hK
  rw [want_ok q (hw G), if_pos rfl]
  rw [hrow G] at ho
  obtain ⟨z, hE⟩ := el.el
  obtain ⟨i, i1, i2, i3, i4⟩ := hE.info
  have hrow : Row enc kk e 0 w (vx G) xs := ho.here (.row enc kk e (vx G) xs) (by simp)
  have hsl := hs G w q.below (by rw [← hH G]; exact q.own)
  have hlen : (ys.flatMap enc).length = ys.length * kk := by
    simp [List.length_flatMap, ei.len, List.map_const', List.sum_replicate_nat]
  have hmul : (xs.length + ys.length) * bytes ≤ 140737488355328 := by
    have := Nat.mul_le_mul hl.1 hl.2; omega
  have hxv := q.ev (hx G)
  have hyv := q.ev (hy G)
  generalize vx G = v at *
  generalize A G = A at *
  generalize c G = c at *
  have key : ∃ v' w', (Builtin.append_ #[T1, T1] o.type #[v, .slice A ys.length c]).run P w = .ok v' w' ∧ Row enc kk e 0 w' v' (xs ++ ys) ∧ w.grownBy w' v.ownBlock ∧ (v'.ownBlock = v.ownBlock ∨ v'.ownBlock = some w.heap.size) := by
    cases hA : A with
    | none =>
      have hys : ys = [] := by
        cases ys with
        | nil => rfl
        | cons y r =>
          obtain ⟨b, o, hb, _⟩ := hsl 0 y (by simp)
          rw [hA] at hb; cases hb
      subst hys hA
      refine ⟨v, w, ?_, by simpa using hrow, World.grownBy.refl w _, .inl rfl⟩
      rcases hrow.2 with ⟨rfl, _⟩ | ⟨g, cap, cur, rfl, _, _, hnc, _⟩
      · simp [Builtin.append_, run_underlying hE.under, sizeOf, typeInfo, i1, Builtin.lenOf, Builtin.firstCells]
      · simp [Builtin.append_, run_underlying hE.under, sizeOf, typeInfo, i1, Builtin.lenOf, Builtin.firstCells, hnc, storeCells]
    | some ad =>
      subst hA
      obtain ⟨v', w', r1, r2, r3, _, r5⟩ := run_append_own_at (P := P) w 0 T1 o.type e i z kk bytes hE.under i1 i2 i3 i4 hE.zs hE.pos v xs.length (xs.flatMap enc) hrow ad ys.length c (ys.flatMap enc) hlen
        (fun j u hu => by
          obtain ⟨i, y, l, hi, hl, rfl⟩ := flat_inv ei.len ys j u hu
          obtain ⟨b, o, hb, hlt, hc⟩ := hsl i y hi
          cases hb
          have e1 : (⟨b, o, none⟩ : Addr).add (i * kk + l) = ⟨b, o + i * kk + l, none⟩ := by rw [addr_add]; congr 1; omega
          rw [e1]; exact hc l u hl)
        (fun u hu => by
          obtain ⟨y, _, hy'⟩ := List.mem_flatMap.1 hu
          exact ei.one y u hy') (by unfold maxLen; omega) hmul (Nat.zero_le _)
      exact ⟨v', w', r1, by unfold Row; simpa using r2, r3, r5⟩
  obtain ⟨v', w', k1, k2, k3, k4⟩ := key
  obtain ⟨A', c', rfl⟩ := k2.form
  unfold Oper.wp execOp
  simp only [hop, resolve, invoke, builtin, Sem.run_bind, Sem.run_pure, Result.andThen_ok, List.map_toArray, List.map_cons, List.map_nil, hxv, hyv, k1, Oper.upon_value]
  have hfoot : ∀ b, v.ownBlock = some b → w0.heap.size ≤ b ∧ b < w.heap.size := fun b hb => ho.foot (.row enc kk e v xs) (by simp) b hb
  refine hK (.slice A' (xs ++ ys).length c') [.row enc kk e (.slice A' (xs ++ ys).length c') (xs ++ ys)] _ ⟨⟨0, A', c'⟩, by simp only [upW, if_true]⟩ ?_ ?_
  · exact q.below.trans ⟨k3.os, k3.tape, k3.output, k3.size, fun b hb => k3.block b (by have := q.base; omega) (fun e => by have := (hfoot b e.symm).1; omega)⟩
  · refine ho.turn k3.size (fun b hb hn => k3.block b hb (fun e => hn e.symm)) q.base k2 (fun b hb => ?_)
    have hb' : (Value.slice A' (xs ++ ys).length c').ownBlock = some b := hb
    have hlt := k2.lt b hb'
    rcases k4 with h4 | h4
    · exact ⟨.inl (h4.symm.trans hb'), hlt.2⟩
    · rw [h4] at hb'; cases hb'; exact ⟨.inr (Nat.le_refl _), hlt.2⟩
theorem c_appendT {α : Type} {enc : α → List Value} {kk e T1 bytes m : Nat} [el : ElI P T1 e kk bytes] [ei : EncI enc kk] {xs : List α} (ys : List α) {A : Wits → Option Addr} {c : Wits → Nat} {vx : Wits → Value} (j : Nat) (hjk : (j, k) ∈ S) (hkI : keyI I k = false) (hop : o.op = .call { callee := .builtin .append, args := #[x, y], argTypes := #[T1, T1] }) (hw : ∀ G, want (Rk R0 ops b o T G) ops o = some true) (hd : o.dst = some t)
    (hx : ∀ G, evR (Rk R0 ops b o T G) x = some (vx G)) (hrow : ∀ G, entsT (only j T) G = [.row enc kk e (vx G) xs]) (hy : ∀ G, evR (Rk R0 ops b o T G) y = some (.slice (A G) m (c G))) (hm : m = ys.length) (hH : ∀ G, see I k ++ (entsT (fltT (vis S k b) T) G ++ H0) = Hk G) (hs : ∀ G w, Below w0.heap.size w0 w → Own w0.heap.size w (Hk G) → SlAt enc kk w (A G) ys) (hl : xs.length + ys.length ≤ 1000000 ∧ bytes ≤ 1000000)
    (h : Chain S I P w0 n d ops R0 H0 Q bs (k + 1) rest (⟨k, some t, fun G => (.slice (G k).A (xs ++ ys).length (G k).m, [.row enc kk e (.slice (G k).A (xs ++ ys).length (G k).m) (xs ++ ys)])⟩ :: T)) : Chain S I P w0 n d ops R0 H0 Q (b :: bs) k (o :: rest) T :=
  c_take (f := fun G => (.slice (G k).A (xs ++ ys).length (G k).m, [.row enc kk e (.slice (G k).A (xs ++ ys).length (G k).m) (xs ++ ys)])) j hjk hkI (fun G G' hG => by simp only [hG k (.inl rfl)]) (takes_append ys (entsT (only j T)) hop hw hd hx hrow hy hm hH hs hl) (by rw [hd]; exact h)
/-- append to a row that was there ahead of the chain -/
theorem c_appendI {α : Type} {enc : α → List Value} {kk e T1 bytes m : Nat} [el : ElI P T1 e kk bytes] [ei : EncI enc kk] {xs : List α} (ys : List α) {A : Wits → Option Addr} {c : Wits → Nat} {vx : Value} {lo hi : Nat} (hkE : (k, lo, hi, [Ent.row enc kk e vx xs]) ∈ I) (hfree : takes S k = false) (hop : o.op = .call { callee := .builtin .append, args := #[x, y], argTypes := #[T1, T1] }) (hw : ∀ G, want (Rk R0 ops b o T G) ops o = some true) (hd : o.dst = some t)
    (hx : ∀ G, evR (Rk R0 ops b o T G) x = some vx) (hy : ∀ G, evR (Rk R0 ops b o T G) y = some (.slice (A G) m (c G))) (hm : m = ys.length) (hH : ∀ G, see I k ++ (entsT (fltT (vis S k b) T) G ++ H0) = Hk G) (hs : ∀ G w, Below w0.heap.size w0 w → Own w0.heap.size w (Hk G) → SlAt enc kk w (A G) ys) (hl : xs.length + ys.length ≤ 1000000 ∧ bytes ≤ 1000000)
    (h : Chain S I P w0 n d ops R0 H0 Q bs (k + 1) rest (⟨k, some t, fun G => (.slice (G k).A (xs ++ ys).length (G k).m, [.row enc kk e (.slice (G k).A (xs ++ ys).length (G k).m) (xs ++ ys)])⟩ :: T)) : Chain S I P w0 n d ops R0 H0 Q (b :: bs) k (o :: rest) T :=
  c_takeI (f := fun G => (.slice (G k).A (xs ++ ys).length (G k).m, [.row enc kk e (.slice (G k).A (xs ++ ys).length (G k).m) (xs ++ ys)])) hkE hfree (fun G G' hG => by simp only [hG k (.inl rfl)]) (takes_append (vx := fun _ => vx) ys (fun _ => [Ent.row enc kk e vx xs]) hop hw hd hx (fun _ => rfl) hy hm hH hs hl) (by rw [hd]; exact h)
/-- a store into what an operation ahead of it allocated -/
theorem c_storeT {T1 : TypeId} {td : TypeDesc} {s off : Nat} {g : Bool} {gx : Wits → Nat} {vy : Wits → Value} {cs : Wits → List Value} {cs' : Wits → List Value} (j : Nat) (hjk : (j, k) ∈ S) (hkI : keyI I k = false) (hop : o.op = .store T1 x y) [i1 : TyI P T1 td s g] (hw : ∀ G, want (Rk R0 ops b o T G) ops o = some true) (hd : o.dst = none) (hx : ∀ G, evR (Rk R0 ops b o T G) x = some (.pointer (some ⟨gx G, off, none⟩))) (hy : ∀ G, evR (Rk R0 ops b o T G) y = some (vy G)) (hent : ∀ G, entsT (only j T) G = [.blk (gx G) (cs G)])
    (hv : ∀ G, Nat.beq (vy G).cells.toList.length s = true) (hv1 : ∀ G, (vy G).cells.toList.all Value.oneCell' = true) (hl : ∀ G, Nat.ble (off + s) (cs G).length = true) (hc : ∀ G, put1 (cs G) off (vy G).cells.toList = cs' G) (hg : LocB b k gx) (hcs : LocB b k cs')
    (h : Chain S I P w0 n d ops R0 H0 Q bs (k + 1) rest (⟨k, none, fun G => (undef, [.blk (gx G) (cs' G)])⟩ :: T)) : Chain S I P w0 n d ops R0 H0 Q (b :: bs) k (o :: rest) T := by
  refine c_take (f := fun G => (undef, [.blk (gx G) (cs' G)])) j hjk hkI (fun G G' hG => by simp only [hg.loc G G' hG, hcs.loc G G' hG]) (fun G L a w q ho K hK => ?_) (by rw [hd]; exact h)
  rw [hent G] at ho
  refine stores_at hop (hw G) hd (hx G) (hy G) (hv G) (hv1 G) (hl G) (hc G) q ho (fun w' hB hO => ?_)
  have := hK undef [.blk (gx G) (cs' G)] w' ⟨⟨0, none, 0⟩, by simp only [hg.up, hcs.up]⟩ hB hO
  rw [hd] at this
  exact this
/-- a store into an array -/
theorem takes_storeA {α : Type} {enc : α → List Value} {kk i j s : Nat} {g : Nat} {T1 : TypeId} {td : TypeDesc} {gg : Bool} {xs : List α} {z : α} (z' : α) (E0 : Wits → List Ent) (hE0 : ∀ G, E0 G = [.arr enc kk g xs]) (hop : o.op = .store T1 x y) [i1 : TyI P T1 td s gg] (hw : ∀ G, want (Rk R0 ops b o T G) ops o = some true) (hd : o.dst = none) (hx : ∀ G, evR (Rk R0 ops b o T G) x = some (.pointer (some ⟨g, 0 + i * kk + j, none⟩))) (hy : ∀ G, evR (Rk R0 ops b o T G) y = some v) [ei : EncI enc kk] (i3 : xs[i]? = some z)
    (hc : put1 (enc z) j v.cells.toList = enc z') (hv : Nat.beq v.cells.toList.length s = true) (hv1 : v.cells.toList.all Value.oneCell' = true) (hj : j + s ≤ kk) : Takes S I P w0 n d ops R0 H0 b k o T (fun _ => (undef, [.arr enc kk g (xs.set i z')])) E0 := by
  intro G L a w q ho K hK
  rw [hE0 G] at ho
  obtain ⟨tl, hB⟩ := (ho.here (.arr enc kk g xs) (by simp) : ∃ tail : List Value, Blk w g (xs.flatMap enc ++ tail).toArray)
  have hs : v.cells.toList.length = s := Nat.eq_of_beq_eq_true hv
  have ho2 : Own w0.heap.size w (.blk g (xs.flatMap enc ++ tl) :: L) := ho.recast (fun _ => hB) (fun b hb => hb)
  have hlen : i * kk + kk ≤ (xs.flatMap enc).length := by
    have : (xs.flatMap enc).length = xs.length * kk := by simp [List.length_flatMap, ei.len, List.map_const', List.sum_replicate_nat]
    have hi := (List.getElem?_eq_some_iff.1 i3).1
    rw [this, ← Nat.succ_mul]
    exact Nat.mul_le_mul_right kk hi
  exact stores_at hop (hw G) hd (hx G) (hy G) hv hv1 (Nat.ble_eq_true_of_le (by rw [List.length_append]; omega)) (cs' := (xs.set i z').flatMap enc ++ tl) (by
    rw [show 0 + i * kk + j = i * kk + j by omega]
    exact flat_put ei.len _ tl j z' xs i z i3 hc (by rw [hs]; exact hj)) q ho2 (fun w' hB' hO => by
      have := hK undef [.arr enc kk g (xs.set i z')] w' ⟨⟨0, none, 0⟩, rfl⟩ hB' (hO.recast (fun hp => ⟨tl, hp⟩) (fun b hb => hb))
      rw [hd] at this
      exact this)
/-- into an array that was there ahead of the chain -/
theorem c_storeAI {α : Type} {enc : α → List Value} {kk i j s : Nat} {g lo hi : Nat} {T1 : TypeId} {td : TypeDesc} {gg : Bool} {xs : List α} (z z' : α) (hkE : (k, lo, hi, [Ent.arr enc kk g xs]) ∈ I) (hfree : takes S k = false) (hop : o.op = .store T1 x y) [i1 : TyI P T1 td s gg] (hw : ∀ G, want (Rk R0 ops b o T G) ops o = some true) (hd : o.dst = none) (hx : ∀ G, evR (Rk R0 ops b o T G) x = some (.pointer (some ⟨g, 0 + i * kk + j, none⟩))) (hy : ∀ G, evR (Rk R0 ops b o T G) y = some v) [ei : EncI enc kk] (i3 : xs[i]? = some z)
    (hc : put1 (enc z) j v.cells.toList = enc z') (hv : Nat.beq v.cells.toList.length s = true) (hv1 : v.cells.toList.all Value.oneCell' = true) (hj : j + s ≤ kk) (h : Chain S I P w0 n d ops R0 H0 Q bs (k + 1) rest (⟨k, none, fun _ => (undef, [.arr enc kk g (xs.set i z')])⟩ :: T)) : Chain S I P w0 n d ops R0 H0 Q (b :: bs) k (o :: rest) T :=
  c_takeI (f := fun _ => (undef, [.arr enc kk g (xs.set i z')])) hkE hfree (fun _ _ _ => rfl) (takes_storeA z' (fun _ => [Ent.arr enc kk g xs]) (fun _ => rfl) hop hw hd hx hy i3 hc hv hv1 hj) (by rw [hd]; exact h)
/-- into an array that an operation ahead of it stored into -/
theorem c_storeAT {α : Type} {enc : α → List Value} {kk i j s : Nat} {g : Nat} {T1 : TypeId} {td : TypeDesc} {gg : Bool} {xs : List α} (z z' : α) (m : Nat) (hjk : (m, k) ∈ S) (hkI : keyI I k = false) (hent : ∀ G, entsT (only m T) G = [.arr enc kk g xs]) (hop : o.op = .store T1 x y) [i1 : TyI P T1 td s gg] (hw : ∀ G, want (Rk R0 ops b o T G) ops o = some true) (hd : o.dst = none) (hx : ∀ G, evR (Rk R0 ops b o T G) x = some (.pointer (some ⟨g, 0 + i * kk + j, none⟩))) (hy : ∀ G, evR (Rk R0 ops b o T G) y = some v) [ei : EncI enc kk] (i3 : xs[i]? = some z)
    (hc : put1 (enc z) j v.cells.toList = enc z') (hv : Nat.beq v.cells.toList.length s = true) (hv1 : v.cells.toList.all Value.oneCell' = true) (hj : j + s ≤ kk) (h : Chain S I P w0 n d ops R0 H0 Q bs (k + 1) rest (⟨k, none, fun _ => (undef, [.arr enc kk g (xs.set i z')])⟩ :: T)) : Chain S I P w0 n d ops R0 H0 Q (b :: bs) k (o :: rest) T :=
  c_take (f := fun _ => (undef, [.arr enc kk g (xs.set i z')])) m hjk hkI (fun _ _ _ => rfl) (takes_storeA z' (entsT (only m T)) hent hop hw hd hx hy i3 hc hv hv1 hj) (by rw [hd]; exact h)
/-- part of a slice -/
def partA (A : Option Addr) (c L s : Nat) : Option Addr := if c = L then A else A.map (·.add (L * s))
theorem sl_part {α : Type} {enc : α → List Value} {s' c L M : Nat} {w : World} {A : Option Addr} {xs : List α} (hs : SlAt enc s' w A xs) (h1 : L ≤ M) (h2 : M ≤ c) : SlAt enc s' w (partA A c L s') ((xs.take M).drop L) := by
  unfold partA
  by_cases hc : c = L
  · rw [if_pos hc]
    have hlm : L = M := by omega
    subst hlm
    rw [List.drop_eq_nil_of_le (by simp; omega)]
    exact SlAt.nil
  · rw [if_neg hc]
    exact hs.part L M
theorem e_slice {T1 e : TypeId} {td : TypeDesc} {s s' m c : Nat} {g g' : Bool} {A : Option Addr} {lo hi : Option Operand} {l u : Int} (L M : Nat) (hop : o.op = .slice T1 x lo hi none) [i1 : TyI P T1 (.slice e) s g] [i2 : TyI P e td s' g'] (hx : evR R x = some (.slice A m c))
    (hl : bnd R lo 0 = some l) (hu : bnd R hi m = some u) (hL : l = (L : Int)) (hM : u = (M : Int)) (h1 : L ≤ M) (h2 : M ≤ c) : Ev P w0 n d R H o (.slice (partA A c L s') (M - L) (c - L)) := fun a w q => by
  subst hL hM
  unfold execOp; rw [hop]
  have e1 := run_underlying i1.und w
  have e2 := i2.siz w
  have b1 : ∀ (r : Nat) (code : BoundsCode) (z : Nat), z ≤ r → ∀ k, (Instr.sliceBound (.int k (z : Int)) r code).run P w = .ok z w := fun r code z hz k => by
    simp [Instr.sliceBound, asIntOf, hz]
  have hlo : (∃ k, lo.map a.eval = some (.int k (L : Int))) ∨ (lo = none ∧ L = 0) := by
    cases lo with
    | none => simp only [bnd, Option.some.injEq] at hl; exact .inr ⟨rfl, by omega⟩
    | some y =>
      simp only [bnd] at hl
      cases hy : evR R y with
      | none => rw [hy] at hl; simp at hl
      | some v =>
        rw [hy] at hl
        cases v <;> simp at hl
        rename_i k i
        subst hl
        exact .inl ⟨k, by simp [q.ev hy]⟩
  have hhi : (∃ k, hi.map a.eval = some (.int k (M : Int))) ∨ (hi = none ∧ M = m) := by
    cases hi with
    | none => simp only [bnd, Option.some.injEq] at hu; exact .inr ⟨rfl, by omega⟩
    | some y =>
      simp only [bnd] at hu
      cases hy : evR R y with
      | none => rw [hy] at hu; simp at hu
      | some v =>
        rw [hy] at hu
        cases v <;> simp at hu
        rename_i k i
        subst hu
        exact .inl ⟨k, by simp [q.ev hy]⟩
  unfold partA
  rcases hlo with ⟨k1, hlo⟩ | ⟨hlo, rfl⟩ <;> rcases hhi with ⟨k2, hhi⟩ | ⟨hhi, rfl⟩ <;>
    simp [Instr.sliceAt, Instr.slice, e1, e2, q.ev hx, Instr.sliceBounds, hlo, hhi, b1, h1, h2]
end

theorem elem_me : Elem Try.prog 67 73 5 40 (.agg #[.int .u8 0, .int .i64 0, .int .i64 0, .int .i64 0, .int .i64 0]) :=
  ⟨by rfl, by exact ⟨_, rfl, rfl, rfl, rfl⟩, by decide, by decide⟩
instance elI_me : ElI Try.prog 67 73 5 40 := ⟨⟨_, elem_me⟩⟩
theorem same_d (a b : List St) (A B : Option Addr) (c d : Nat) (w : World) (ha : SlAt encSt 9 w A a) (hb : SlAt encSt 9 w B b) (hla : a.length ≤ 1000000) (hlb : b.length ≤ 1000000) : Gv Try.prog 32 [.agg #[.slice A a.length c], .agg #[.slice B b.length d]] w (.bool (decide (a = b))) :=
  (same_any a b A B c d w ha hb hla hlb).gv
noncomputable def uselessP (t : List St) (l : List Me) (i : Nat) (_ : Me) : Bool := decide (rnT t (l.eraseIdx i) = rnT t l)
open Classical in
noncomputable def uselT (t : List St) (l : List Me) : List Int := if errN t l = 0 then picks (fun i m => uselessP t l i m) l else []

theorem errN_zero {t : List St} {l : List Me} (h : errN t l = 0) : valid t = true ∧ msOk t.length l = true ∧ rnB t l = true := by
  unfold errN at h
  cases h1 : valid t <;> cases h2 : msOk t.length l <;> cases h3 : rnB t l <;> simp [h1, h2, h3] at h ⊢
theorem rnT_len {t : List St} {l : List Me} : (rnT t l).length ≤ t.length := by
  unfold rnT rnL
  split
  · rw [updTo_len]; exact Nat.le_refl _
  · simp

set_option maxHeartbeats 4000000 in
theorem rUseless_any (t : List St) (A : Option Addr) (cap : Nat) (l : List Me) (B : Option Addr) (c : Nat) (w : World) (ht : SlAt encSt 9 w A t) (hs : SlAt encMe 5 w B l) (hcap : l.length ≤ c) (hf : FitT t) (hfm : FitMs l) (hl : t.length ≤ 1000) (hll : l.length ≤ 1000) :
    NewSl encI 1 (uselT t l) (fun v => .tuple #[v, .int .i64 (errN t l)]) Try.prog 42 [.agg #[.slice A t.length cap], .slice B l.length c] w := by
  unfold NewSl
  have h1 := fun W (h : Below w.heap.size w W) => rNarrow_any t A cap l B c W (ht.below h) (hs.below h) hf hfm hl hll
  by_cases he : errN t l = 0
  rotate_left
  · have e1 : uselT t l = [] := by simp [uselT, he]
    rw [e1]
    (refine ret_enter (n := 50) Try.func42 rfl rfl rfl ?_)
    (repeat' (first | ((with_reducible refine isOps ?_); first | refine u_move rfl rfl rfl rfl rfl ?_ | refine u_assign rfl rfl rfl rfl rfl ?_ | (refine x_load rfl rfl rfl rfl rfl ?_; refine ⟨_, rfl, ?_⟩) | (refine u_cmp rfl rfl rfl rfl rfl rfl rfl (fun h => ?_) (fun h => ?_) <;> (dsimp only [cmpP] at h; (try (exfalso; omega)))) | refine u_newsl rfl rfl rfl rfl rfl rfl (fun _ _ q => h1 _ q.below) (fun A' c' => ?_) | refine u_extract rfl rfl rfl rfl rfl rfl ?_ | refine u_add1 rfl rfl rfl rfl rfl rfl (by omega) ?_ | refine u_add rfl rfl rfl rfl rfl rfl (IntWalk.i64_in _ (by omega)) ?_ | refine u_len rfl rfl rfl rfl rfl ?_ | (refine x_store rfl rfl rfl rfl rfl ?_; refine And.intro rfl (And.intro (by first | decide | exact Nat.le_of_ble_eq_true rfl | (simp; omega)) ⟨_, rfl, ?_⟩)) | (refine u_alloc rfl rfl rfl rfl (fun b => ?_)) | (refine u_box rfl rfl rfl rfl rfl rfl (fun b => ?_)) | (refine x_buildSlice rfl rfl rfl rfl rfl ?_; refine ⟨rfl, _, rfl, fun b => ?_⟩)) | (with_reducible first | refine u_seq ?_ | refine u_region ?_ | refine u_nil ?_ | refine u_then_n ?_ | refine u_ret ?_ | refine u_skip ?_ | refine u_then_r ?_ | refine u_end ?_ | refine u_endM ?_ | refine u_block ?_ | refine u_exit ?_ | refine u_in_n ?_ | refine u_in_r ?_ | refine u_in_same ?_ | refine u_then_e ?_) | ((with_reducible refine u_in_other ?_ ?_); (· exact rfl)) | ((with_reducible refine u_cond_t ?_ ?_); (· exact rfl)) | ((with_reducible refine u_cond_f ?_ ?_); (· exact rfl))))
    exact u_done (by (exact ResL.cons (by exact Res1.tmp rfl) (ResL.cons (by exact Res1.tmp rfl) ResL.nil))) (none, 0) trivial rfl (fun _ h => sl_nil h)
  obtain ⟨hv, hm, hb⟩ := errN_zero he
  have e1 : uselT t l = picks (fun i m => uselessP t l i m) l := by simp [uselT, he]
  have e2 : nT t l = rnT t l := nT_yes hv hm
  have hm1 := msOk_all hm
  have hn := rnT_len (t := t) (l := l)
  rw [he, e2] at h1
  rw [e1, he]
  have h2 := fun i l' (e : l' = l.eraseIdx i) W Bx cx (hW : Below w.heap.size w W) (hx : SlAt encMe 5 W Bx l') => (show NewSl encSt 9 (rnT t (l.eraseIdx i)) (fun v => .tuple #[.agg #[v], .bool (rnB t (l.eraseIdx i))]) Try.prog 76 [.agg #[.slice A t.length cap], .slice Bx l'.length cx] W by
    subst e
    exact rnarrow_any t A cap (l.eraseIdx i) Bx cx W (ht.below hW) hv hx (by have := List.length_eraseIdx_le l i; omega) (fun m h => hm1.1 m (List.mem_of_mem_eraseIdx h)))
  (refine ret_enter (n := 50) Try.func42 rfl rfl rfl ?_)
  (repeat' (first | ((with_reducible refine isOps ?_); first | refine u_move rfl rfl rfl rfl rfl ?_ | refine u_assign rfl rfl rfl rfl rfl ?_ | (refine x_load rfl rfl rfl rfl rfl ?_; refine ⟨_, rfl, ?_⟩) | (refine u_cmp rfl rfl rfl rfl rfl rfl rfl (fun h => ?_) (fun h => ?_) <;> (dsimp only [cmpP] at h; (try (exfalso; omega)))) | refine u_newsl rfl rfl rfl rfl rfl rfl (fun _ _ q => h1 _ q.below) (fun A' c' => ?_) | refine u_extract rfl rfl rfl rfl rfl rfl ?_ | refine u_add1 rfl rfl rfl rfl rfl rfl (by omega) ?_ | refine u_add rfl rfl rfl rfl rfl rfl (IntWalk.i64_in _ (by omega)) ?_ | refine u_len rfl rfl rfl rfl rfl ?_ | (refine x_store rfl rfl rfl rfl rfl ?_; refine And.intro rfl (And.intro (by first | decide | exact Nat.le_of_ble_eq_true rfl | (simp; omega)) ⟨_, rfl, ?_⟩)) | (refine u_alloc rfl rfl rfl rfl (fun b => ?_)) | (refine u_box rfl rfl rfl rfl rfl rfl (fun b => ?_)) | (refine x_buildSlice rfl rfl rfl rfl rfl ?_; refine ⟨rfl, _, rfl, fun b => ?_⟩)) | (with_reducible first | refine u_seq ?_ | refine u_region ?_ | refine u_nil ?_ | refine u_then_n ?_ | refine u_ret ?_ | refine u_skip ?_ | refine u_then_r ?_ | refine u_end ?_ | refine u_endM ?_ | refine u_block ?_ | refine u_exit ?_ | refine u_in_n ?_ | refine u_in_r ?_ | refine u_in_same ?_ | refine u_then_e ?_) | ((with_reducible refine u_in_other ?_ ?_); (· exact rfl)) | ((with_reducible refine u_cond_t ?_ ?_); (· exact rfl)) | ((with_reducible refine u_cond_f ?_ ?_); (· exact rfl))))
  rename_i b2
  obtain ⟨b6, hb6⟩ : ∃ x, x = b := ⟨b, rfl⟩
  subst hb6
  obtain ⟨A6, hA6⟩ : ∃ x, x = A' := ⟨A', rfl⟩
  subst hA6
  obtain ⟨c6, hc6⟩ : ∃ x, x = c' := ⟨c', rfl⟩
  subst hc6
  refine u_row_nil encI 1 3 ?_
  refine u_loop (ι := Nat × Value) (fun j => j.1 ≤ l.length) (fun j => [(1, .slice B l.length c), (2, .pointer (some ⟨b2, 0, none⟩)), (6, .pointer (some ⟨b6, 0, none⟩)), (8, j.2), (9, .int .i64 (j.1 : Int))]) (fun j => [.row encI 1 3 j.2 (picksTo (fun i m => uselessP t l i m) l j.1), .blk b6 [.slice A6 (rnT t l).length c6], .sl encSt 9 A6 (rnT t l), .blk b2 [.slice A t.length cap]]) (fun j => l.length - j.1) (0, .slice none 0 0) (Nat.zero_le _) (by (first | exact fun _ _ h => lk_nil h | (repeat (first | exact (fun _ _ h => lk_nil h) | (refine lk_sub rfl ?_))))) (by (repeat (first | exact Out.nil _ | (refine Out.cons (by (repeat (first | exact Take.here _ _ | apply Take.there))) ?_)))) ?_
  rintro ⟨i, v⟩ hi
  simp only at hi ⊢
  have hpl := picksTo_len (fun i m => uselessP t l i m) l i
  by_cases hlt : i < l.length
  · have hL : ([] ++ (l.take i).drop 0) ++ (l.take l.length).drop (i + 1) = l.eraseIdx i := by
      rw [List.eraseIdx_eq_take_drop_succ]; simp
    have hle := rnT_len (t := t) (l := l.eraseIdx i)
    have hso : soAt (fun i m => uselessP t l i m) l i = decide (rnT t (l.eraseIdx i) = rnT t l) := by simp [soAt, hlt, uselessP]
    have k1 : i - 0 = ((l.take i).drop 0).length := by simp; omega
    have k2 : l.length - (i + 1) = ((l.take l.length).drop (i + 1)).length := by simp
    (repeat' (first | ((with_reducible refine isOps ?_); first | refine u_move rfl rfl rfl rfl rfl ?_ | refine u_assign rfl rfl rfl rfl rfl ?_ | (refine x_load rfl rfl rfl rfl rfl ?_; refine ⟨_, rfl, ?_⟩) | (refine u_cmp rfl rfl rfl rfl rfl rfl rfl (fun h => ?_) (fun h => ?_) <;> (dsimp only [cmpP] at h; (try (exfalso; omega)))) | refine u_extract rfl rfl rfl rfl rfl rfl ?_ | refine u_add1 rfl rfl rfl rfl rfl rfl (by omega) ?_ | refine u_add rfl rfl rfl rfl rfl rfl (IntWalk.i64_in _ (by omega)) ?_ | refine u_len rfl rfl rfl rfl rfl ?_ | (refine x_store rfl rfl rfl rfl rfl ?_; refine And.intro rfl (And.intro (by first | decide | exact Nat.le_of_ble_eq_true rfl | (simp; omega)) ⟨_, rfl, ?_⟩)) | (refine u_alloc rfl rfl rfl rfl (fun b => ?_)) | (refine u_box rfl rfl rfl rfl rfl rfl (fun b => ?_)) | (refine x_buildSlice rfl rfl rfl rfl rfl ?_; refine ⟨rfl, _, rfl, fun b => ?_⟩)) | (with_reducible first | refine u_seq ?_ | refine u_region ?_ | refine u_nil ?_ | refine u_then_n ?_ | refine u_ret ?_ | refine u_skip ?_ | refine u_then_r ?_ | refine u_end ?_ | refine u_endM ?_ | refine u_block ?_ | refine u_exit ?_ | refine u_in_n ?_ | refine u_in_r ?_ | refine u_in_same ?_ | refine u_then_e ?_) | ((with_reducible refine u_in_other ?_ ?_); (· exact rfl)) | ((with_reducible refine u_cond_t ?_ ?_); (· exact rfl)) | ((with_reducible refine u_cond_f ?_ ?_); (· exact rfl))))
    (refine u_chain [(1, 5), (5, 10), (15, 16)] [] [] rfl (by decide) (fun _ h => h) (by kernel_rfl) [[], [false], [false, false], [false, false, false], [true, true, false, false], [true, true, true, true, false], [false, false, false, false, false, false], [false, false, false, false, false, false, false], [true, false, false, false, false, false, false, false], [true, true, true, false, false, false, false, false, false], [true, true, true, true, true, true, true, true, true, false], [true, true, true, true, true, true, true, true, true, true, true], [true, true, true, true, true, true, true, true, true, true, true, true], [true, true, true, true, true, true, true, true, true, true, true, true, true], [false, true, true, true, true, true, true, true, true, true, true, true, true, true], [false, false, false, false, false, false, false, false, false, false, false, false, false, false, false], [true, false, true, true, true, true, true, true, true, true, true, true, true, true, true, true], [true, true, true, true, true, true, true, true, true, true, true, true, true, true, true, true, true]] (by kernel_rfl) (by kernel_rfl) (by kernel_rfl) (by kernel_rfl) ?_)
    (repeat' (first | (((with_reducible refine c_go ?_ ?_); (· exact rfl); refine ⟨_, fun G => (by (try simp (decide := true) only [vis, see, fltT, entsT, Nat.reduceAdd, Nat.reduceSub, if_true, if_false, List.set_cons_zero, List.set_cons_succ, List.set_nil, List.nil_append, List.cons_append]); rfl), ?_⟩); first | refine c_val _ (fun _ => e_move rfl rfl) (fun _ => rfl) rfl (by first | exact fun _ _ _ => rfl | (intro G G' h; simp (decide := true) only [h])) ?_ | refine c_val _ (fun _ => e_load' rfl rfl (by exact rfl)) (fun _ => rfl) rfl (by first | exact fun _ _ _ => rfl | (intro G G' h; simp (decide := true) only [h])) ?_ | refine c_val _ (fun _ => e_assign rfl rfl) (fun _ => rfl) rfl (by first | exact fun _ _ _ => rfl | (intro G G' h; simp (decide := true) only [h])) ?_ | refine c_buildNil encMe rfl (fun _ => rfl) rfl ?_ | refine c_val _ (fun _ => e_slice 0 i rfl rfl rfl rfl rfl rfl (by omega) (by omega)) (fun _ => rfl) rfl (by exact fun _ _ _ => rfl) ?_ | refine c_val _ (fun _ => e_slice (i + 1) l.length rfl rfl rfl rfl rfl rfl (by omega) (by omega)) (fun _ => rfl) rfl (by exact fun _ _ _ => rfl) ?_ | refine c_newsl rfl (fun _ => rfl) rfl (fun _ => rfl) (fun _ => rfl) (fun _ _ _ q => h2 i _ hL _ _ _ q.below (row_at q.own (by (repeat (first | exact Take.here _ _ | apply Take.there))))) ?_ | refine c_val _ (fun _ => e_extract rfl rfl rfl) (fun _ => rfl) rfl (by first | exact fun _ _ _ => rfl | (intro G G' h; simp (decide := true) only [h])) ?_ | refine c_val _ (fun _ => e_add1 rfl rfl rfl (by omega)) (fun _ => rfl) rfl (by first | exact fun _ _ _ => rfl | (intro G G' h; simp (decide := true) only [h])) ?_ | refine c_val _ (fun _ => e_add rfl rfl rfl (IntWalk.i64_in _ (by omega))) (fun _ => rfl) rfl (by first | exact fun _ _ _ => rfl | (intro G G' h; simp (decide := true) only [h])) ?_ | refine c_alloc rfl (fun _ => rfl) rfl ?_ | refine c_buildSlice rfl (fun _ => rfl) rfl (fun _ => rfl) (by exact rfl) (by exact fun _ => rfl) (by first | exact fun _ _ _ => rfl | (intro G G' h; simp (decide := true) only [h])) ?_) | (refine c_appendT (enc := encMe) (xs := []) ((l.take i).drop 0) 1 (by decide) rfl rfl (fun _ => rfl) rfl (fun _ => rfl) (fun _ => rfl) (fun _ => rfl) k1 (fun G => (by (try simp (decide := true) only [vis, see, fltT, entsT, Nat.reduceAdd, Nat.reduceSub, if_true, if_false, List.set_cons_zero, List.set_cons_succ, List.set_nil, List.nil_append, List.cons_append]); rfl)) (fun _ W hW _ => sl_part (hs.below hW) (by omega) (by omega)) ⟨by simp; omega, by decide⟩ ?_) | (refine c_appendT (enc := encMe) (xs := [] ++ (l.take i).drop 0) ((l.take l.length).drop (i + 1)) 5 (by decide) rfl rfl (fun _ => rfl) rfl (fun _ => rfl) (fun _ => rfl) (fun _ => rfl) k2 (fun G => (by (try simp (decide := true) only [vis, see, fltT, entsT, Nat.reduceAdd, Nat.reduceSub, if_true, if_false, List.set_cons_zero, List.set_cons_succ, List.set_nil, List.nil_append, List.cons_append]); rfl)) (fun _ W hW _ => sl_part (hs.below hW) (by omega) (by omega)) ⟨by simp; omega, by decide⟩ ?_) | (refine c_storeT (gx := fun G => (G 15).g) (cs := fun _ => [.slice none 0 0]) (cs' := fun G => [.slice (G 11).A (rnT t (l.eraseIdx i)).length (G 11).m]) 15 (by decide) rfl rfl (fun _ => rfl) rfl (fun _ => rfl) (fun _ => rfl) (fun _ => rfl) (fun _ => rfl) (fun _ => rfl) (fun _ => rfl) (fun _ => rfl) (by intro G G' h; simp (decide := true) only [h]) (by intro G G' h; simp (decide := true) only [h]) ?_) | ((with_reducible refine c_tail ?_ ?_); (· exact rfl)) | (with_reducible refine c_nil ?_)))
    intro G
    simp only [regsT, List.nil_append, List.cons_append]
    refine u_own (H' := [.blk (G 15).g [.slice (G 11).A (rnT t (l.eraseIdx i)).length (G 11).m], .sl encSt 9 (G 11).A (rnT t (l.eraseIdx i)), .row encMe 5 73 (.slice (G 10).A ((l.take i).drop 0 ++ (l.take l.length).drop (i + 1) : List Me).length (G 10).m) ((l.take i).drop 0 ++ (l.take l.length).drop (i + 1) : List Me), .row encI 1 3 v (picksTo (fun i m => uselessP t l i m) l i), .blk b6 [.slice A6 (rnT t l).length c6], .sl encSt 9 A6 (rnT t l), .blk b2 [.slice A t.length cap]]) (fun _ h => h) ?_
    (repeat' (first | ((with_reducible refine isOps ?_); first | refine u_move rfl rfl rfl rfl rfl ?_ | refine u_assign rfl rfl rfl rfl rfl ?_ | (refine x_load rfl rfl rfl rfl rfl ?_; refine ⟨_, rfl, ?_⟩) | (refine u_cmp rfl rfl rfl rfl rfl rfl rfl (fun h => ?_) (fun h => ?_) <;> (dsimp only [cmpP] at h; (try (exfalso; omega)))) | (refine u_givesB rfl rfl rfl rfl rfl rfl (fun _ _ q => same_d (rnT t (l.eraseIdx i)) (rnT t l) _ _ _ _ _ (sl_at q.own (Below.refl _ _)) (sl_at q.own (Below.refl _ _)) (by omega) (by omega)) (fun h => ?_) (fun h => ?_) <;> (try (exfalso; omega))) | (refine u_append (enc := encI) [_] rfl rfl rfl rfl rfl (by (repeat (first | exact Take.here _ _ | apply Take.there))) rfl rfl (src_one (by exact rfl)) (by refine ⟨?_, by decide⟩; (try simp only [List.length_append, List.length_cons, List.length_nil]); omega) (fun A' c' => ?_)) | refine u_extract rfl rfl rfl rfl rfl rfl ?_ | refine u_add1 rfl rfl rfl rfl rfl rfl (by omega) ?_ | refine u_add rfl rfl rfl rfl rfl rfl (IntWalk.i64_in _ (by omega)) ?_ | refine u_len rfl rfl rfl rfl rfl ?_ | (refine x_store rfl rfl rfl rfl rfl ?_; refine And.intro rfl (And.intro (by first | decide | exact Nat.le_of_ble_eq_true rfl | (simp; omega)) ⟨_, rfl, ?_⟩)) | (refine u_alloc rfl rfl rfl rfl (fun b => ?_)) | (refine u_box rfl rfl rfl rfl rfl rfl (fun b => ?_)) | (refine x_buildSlice rfl rfl rfl rfl rfl ?_; refine ⟨rfl, _, rfl, fun b => ?_⟩)) | (with_reducible first | refine u_seq ?_ | refine u_region ?_ | refine u_nil ?_ | refine u_then_n ?_ | refine u_ret ?_ | refine u_skip ?_ | refine u_then_r ?_ | refine u_end ?_ | refine u_endM ?_ | refine u_block ?_ | refine u_exit ?_ | refine u_in_n ?_ | refine u_in_r ?_ | refine u_in_same ?_ | refine u_then_e ?_) | ((with_reducible refine u_in_other ?_ ?_); (· exact rfl)) | ((with_reducible refine u_cond_t ?_ ?_); (· exact rfl)) | ((with_reducible refine u_cond_f ?_ ?_); (· exact rfl))))
    · refine u_again (i + 1, .slice A' (picksTo (fun i m => uselessP t l i m) l i ++ [(i : Int)]).length c') (by simp only; omega) (by simp only; omega) (by (first | exact fun _ _ h => lk_nil h | (repeat (first | exact (fun _ _ h => lk_nil h) | (refine lk_sub rfl ?_))))) ?_
      rw [picksTo_yes (hso.trans h)]
      (repeat (first | exact Out.nil _ | (refine Out.cons (by (repeat (first | exact Take.here _ _ | apply Take.there))) ?_)))
    · refine u_again (i + 1, v) (by simp only; omega) (by simp only; omega) (by (first | exact fun _ _ h => lk_nil h | (repeat (first | exact (fun _ _ h => lk_nil h) | (refine lk_sub rfl ?_))))) ?_
      rw [picksTo_no (hso.trans h)]
      (repeat (first | exact Out.nil _ | (refine Out.cons (by (repeat (first | exact Take.here _ _ | apply Take.there))) ?_)))
  · obtain rfl : i = l.length := by omega
    (repeat' (first | ((with_reducible refine isOps ?_); first | refine u_move rfl rfl rfl rfl rfl ?_ | refine u_assign rfl rfl rfl rfl rfl ?_ | (refine x_load rfl rfl rfl rfl rfl ?_; refine ⟨_, rfl, ?_⟩) | (refine u_cmp rfl rfl rfl rfl rfl rfl rfl (fun h => ?_) (fun h => ?_) <;> (dsimp only [cmpP] at h; (try (exfalso; omega)))) | refine u_extract rfl rfl rfl rfl rfl rfl ?_ | refine u_add1 rfl rfl rfl rfl rfl rfl (by omega) ?_ | refine u_add rfl rfl rfl rfl rfl rfl (IntWalk.i64_in _ (by omega)) ?_ | refine u_len rfl rfl rfl rfl rfl ?_ | (refine x_store rfl rfl rfl rfl rfl ?_; refine And.intro rfl (And.intro (by first | decide | exact Nat.le_of_ble_eq_true rfl | (simp; omega)) ⟨_, rfl, ?_⟩)) | (refine u_alloc rfl rfl rfl rfl (fun b => ?_)) | (refine u_box rfl rfl rfl rfl rfl rfl (fun b => ?_)) | (refine x_buildSlice rfl rfl rfl rfl rfl ?_; refine ⟨rfl, _, rfl, fun b => ?_⟩)) | (with_reducible first | refine u_seq ?_ | refine u_region ?_ | refine u_nil ?_ | refine u_then_n ?_ | refine u_ret ?_ | refine u_skip ?_ | refine u_then_r ?_ | refine u_end ?_ | refine u_endM ?_ | refine u_block ?_ | refine u_exit ?_ | refine u_in_n ?_ | refine u_in_r ?_ | refine u_in_same ?_ | refine u_then_e ?_) | ((with_reducible refine u_in_other ?_ ?_); (· exact rfl)) | ((with_reducible refine u_cond_t ?_ ?_); (· exact rfl)) | ((with_reducible refine u_cond_f ?_ ?_); (· exact rfl))))
    refine u_row_form (enc := encI) (by (repeat (first | exact Take.here _ _ | apply Take.there))) ?_
    rintro A9 c9 rfl
    exact u_done (by (exact ResL.cons (by exact Res1.tmp rfl) (ResL.cons (by exact Res1.tmp rfl) ResL.nil))) (A9, c9) trivial rfl (fun _ h => (h.row_sl (by (repeat (first | exact Take.here _ _ | apply Take.there)))).sub (by (repeat (first | exact Out.nil _ | (refine Out.cons (by (repeat (first | exact Take.here _ _ | apply Take.there))) ?_)))))
end Go.Proofs.Ytekjkaoibcfgfaa.Two
